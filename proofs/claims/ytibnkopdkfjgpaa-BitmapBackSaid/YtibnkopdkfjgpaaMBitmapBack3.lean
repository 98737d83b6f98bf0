/- The law BitmapBack holds: for every input it returns true, and each argument reads afterwards as it read before. -/
import Derived.Test.YtibnkopdkfjgpaaMYBitmapBack1
import Derived.Test.YtibnkopdkfjgpaaMBitmapBack1
import Derived.Test.YtibnkopdkfjgpaaMBitmapBack2
import Derived.Laws.Cover1
import Derived.Deep.Slices
import Derived.Lib.SmallJoins
import Derived.ChangeArms
import Derived.SizedLaws
import Derived.WalkKit
import Derived.ProofKit
import Derived.Test.YtibnkopdkfjgpaaRows
import Derived.OpenShut
import Derived.ShutString
import Derived.ChangeOld
import Derived.Below
set_option linter.unusedVariables false
set_option linter.unusedSimpArgs false
namespace Go.Proofs.Ytibnkopdkfjgpaa.Q
open Go.RowKit Go.Proofs.YtibnkopdkfjgpaaW.PrintWords Go.Proofs.YtibnkopdkfjgpaaW.PrintLast Go.Proofs.YtibnkopdkfjgpaaW.PrintMore
attribute [local go_sem] max2_int min2_int max_two min_two max_three min_three max_four min_four   -- for this text's walks alone

mutual
def graftagelaw27_BitmapBack.j0 : Nat → Bool → Int → List Int → Int → List Int → Option (Bool)
 | 0, _, _, _, _, _ => none
 | k + 1, x33, x102000, x102001, x103000, x103001 => if x33 = true then ((graftagelaw27_lives.f k).bind fun t107 => (some t107)) else ((bitmap_List.f k x102000 x102001).bind fun t108 => ((bitmap_Of.f k x102000 t108).bind fun bt111 => ((bitmap_Or.f x102000 x102001 x103000 x103001).bind fun bt117 => ((bitmap_And.f x102000 x102001 x103000 x103001).bind fun bt121 => (if bt111.2.2 = 0 then ((graftageref27_Same.f k bt111.1 bt111.2.1 x102000 x102001).bind fun t127 => (if t127 = true then ((bitmap_Valid.f k bt117.1 bt117.2).bind fun t128 => (if t128 = true then ((bitmap_Valid.f k bt121.1 bt121.2).bind fun t129 => (graftagelaw27_BitmapBack.j1 k (!t129) x102000 x102001 x103000 x103001 bt117.1 bt117.2 bt121.1 bt121.2)) else (graftagelaw27_BitmapBack.j1 k true x102000 x102001 x103000 x103001 bt117.1 bt117.2 bt121.1 bt121.2))) else (graftagelaw27_BitmapBack.j1 k true x102000 x102001 x103000 x103001 bt117.1 bt117.2 bt121.1 bt121.2))) else (graftagelaw27_BitmapBack.j1 k true x102000 x102001 x103000 x103001 bt117.1 bt117.2 bt121.1 bt121.2))))))
def graftagelaw27_BitmapBack.j1 : Nat → Bool → Int → List Int → Int → List Int → Int → List Int → Int → List Int → Option (Bool)
 | 0, _, _, _, _, _, _, _, _, _ => none
 | k + 1, x66, x102000, x102001, x103000, x103001, x126000, x126001, x127000, x127001 => if x66 = true then (some false) else ((bitmap_List.f k x126000 x126001).bind fun t130 => ((bitmap_List.f k x127000 x127001).bind fun t133 => ((bitmap_List.f k x102000 x102001).bind fun t136 => ((bitmap_List.f k x103000 x103001).bind fun t139 => (if (wrap64 ((t130.length : Int) + (t133.length : Int))) = (wrap64 ((t136.length : Int) + (t139.length : Int))) then ((bitmap_Or.f x103000 x103001 x102000 x102001).bind fun bt142 => ((graftageref27_Same.f k x126000 x126001 bt142.1 bt142.2).bind fun t146 => (if t146 = true then ((bitmap_And.f x103000 x103001 x102000 x102001).bind fun bt147 => ((graftageref27_Same.f k x127000 x127001 bt147.1 bt147.2).bind fun t151 => (if t151 = true then ((bitmap_AndNot.f x102000 x102001 x103000 x103001).bind fun bt152 => ((bitmap_Or.f bt152.1 bt152.2 x127000 x127001).bind fun bt156 => ((graftageref27_Same.f k bt156.1 bt156.2 x102000 x102001).bind fun t160 => (if t160 = true then ((bitmap_AndNot.f x102000 x102001 x103000 x103001).bind fun bt161 => ((bitmap_And.f bt161.1 bt161.2 x103000 x103001).bind fun bt165 => ((bitmap_AndNot.f x103000 x103001 x103000 x103001).bind fun bt169 => ((graftageref27_Same.f k bt165.1 bt165.2 bt169.1 bt169.2).bind fun t173 => (if t173 = true then ((graftagelaw27_lives.f k).bind fun t174 => (some t174)) else (some false)))))) else (some false))))) else (some false)))) else (some false)))) else (some false))))))
end
def graftagelaw27_BitmapBack.f (k : Nat) (a0_0 : Int) (l0_1 : List Int) (a1_0 : Int) (l1_1 : List Int) : Option (Bool) := (graftagelaw27_few.f a0_0 l0_1).bind fun t103 => (if t103 = true then ((graftagelaw27_few.f a1_0 l1_1).bind fun t104 => (if t104 = true then ((bitmap_Valid.f k a0_0 l0_1).bind fun t105 => (if t105 = true then ((bitmap_Valid.f k a1_0 l1_1).bind fun t106 => (if t106 = true then (graftagelaw27_BitmapBack.j0 k (a0_0 != a1_0) a0_0 l0_1 a1_0 l1_1) else (graftagelaw27_BitmapBack.j0 k true a0_0 l0_1 a1_0 l1_1))) else (graftagelaw27_BitmapBack.j0 k true a0_0 l0_1 a1_0 l1_1))) else (graftagelaw27_BitmapBack.j0 k true a0_0 l0_1 a1_0 l1_1))) else (graftagelaw27_BitmapBack.j0 k true a0_0 l0_1 a1_0 l1_1))
def graftagelaw27_BitmapBack.T3 : Bool × List (List Nat × List Nat) := (true, [([], []), ([0], [0]), ([], []), ([2], [2]), ([1, 3, 3], [1, 3]), ([4], [4]), ([5], [5]), ([5], [5]), ([], []), ([8, 6, 4, 0, 1, 2, 3, 4, 5, 6, 8], [6, 8]), ([7, 9, 0, 1, 2, 3, 4, 5, 6, 7, 8, 9], [7])])
def graftagelaw27_BitmapBack.B3 : List Nat := [0, 1, 0, 4, 15, 31, 63, 63, 0, 383, 1023]
theorem graftagelaw27_BitmapBack.tab3 : rtab .any (opsOf Try.f5 3) = graftagelaw27_BitmapBack.T3 := by kernel_rfl
theorem graftagelaw27_BitmapBack.bits3 : waitsOk graftagelaw27_BitmapBack.T3.2 graftagelaw27_BitmapBack.B3 = true := by kernel_rfl
def graftagelaw27_BitmapBack.T4 : Bool × List (List Nat × List Nat) := (true, [([], []), ([], []), ([0, 1], [0, 1]), ([], []), ([], []), ([3, 4, 2], [3, 4]), ([], []), ([], []), ([6, 2, 5, 0, 1, 2, 6, 7], [2, 6]), ([7, 5, 8, 0, 1, 2, 3, 4, 5, 6, 7, 8], [5, 7])])
def graftagelaw27_BitmapBack.B4 : List Nat := [0, 0, 3, 0, 0, 31, 0, 0, 255, 511]
theorem graftagelaw27_BitmapBack.tab4 : rtab .any (opsOf Try.f5 4) = graftagelaw27_BitmapBack.T4 := by kernel_rfl
theorem graftagelaw27_BitmapBack.bits4 : waitsOk graftagelaw27_BitmapBack.T4.2 graftagelaw27_BitmapBack.B4 = true := by kernel_rfl
def graftagelaw27_BitmapBack.T7 : Bool × List (List Nat × List Nat) := (true, [([], []), ([0], [0]), ([1], [1]), ([], []), ([3, 1], [3]), ([4], [4]), ([2, 5], [2, 5]), ([], []), ([7, 4], [7]), ([8], [8]), ([], []), ([10, 8], [10]), ([11], [11]), ([9, 12], [9, 12]), ([6, 13], [6, 13])])
def graftagelaw27_BitmapBack.B7 : List Nat := [0, 1, 3, 0, 11, 27, 63, 0, 155, 411, 0, 1435, 3483, 8091, 16383]
theorem graftagelaw27_BitmapBack.tab7 : rtab .any (opsOf Try.f5 7) = graftagelaw27_BitmapBack.T7 := by kernel_rfl
theorem graftagelaw27_BitmapBack.bits7 : waitsOk graftagelaw27_BitmapBack.T7.2 graftagelaw27_BitmapBack.B7 = true := by kernel_rfl
def graftagelaw27_BitmapBack.T9 : Bool × List (List Nat × List Nat) := (true, [([], []), ([], []), ([], []), ([1, 2], [1, 2]), ([0, 3, 3], [0, 3]), ([4, 4], [4]), ([5], [5]), ([5], [5]), ([5], [5]), ([7, 8, 5, 5], [5, 7, 8]), ([6, 9, 9, 5], [5, 6, 9]), ([5, 10], [5, 10]), ([11, 10], [11]), ([12], [12]), ([12], [12]), ([13, 14, 12, 12], [12, 13, 14]), ([12], [12]), ([15, 16, 15, 12], [12, 15, 16]), ([12], [12]), ([17, 18, 17, 12], [12, 17, 18]), ([12, 19], [12, 19]), ([20, 19], [20]), ([21], [21]), ([21], [21]), ([22, 23, 21, 21], [21, 22, 23]), ([21], [21]), ([24, 25, 24, 21], [21, 24, 25]), ([21], [21]), ([21], [21]), ([27, 28, 26, 21], [21, 27, 28]), ([26, 29, 29, 21], [21, 26, 29]), ([21, 30], [21, 30]), ([31, 30], [31]), ([32, 32], [32]), ([32, 33], [32, 33]), ([34, 33, 0, 1, 2, 3, 4, 5, 6, 7, 8, 9, 10, 11, 12, 13, 14, 15, 16, 17, 18, 19, 20, 21, 22, 23, 24, 25, 26, 27, 28, 29, 30, 31, 32, 33, 34], [34])])
def graftagelaw27_BitmapBack.B9 : List Nat := [0, 0, 0, 6, 15, 31, 63, 63, 63, 447, 1023, 2047, 4095, 8191, 8191, 32767, 8191, 131071, 8191, 524287, 1048575, 2097151, 4194303, 4194303, 16777215, 4194303, 67108863, 4194303, 4194303, 536870911, 1073741823, 2147483647, 4294967295, 8589934591, 17179869183, 34359738367]
theorem graftagelaw27_BitmapBack.tab9 : rtab .any (opsOf Try.f5 9) = graftagelaw27_BitmapBack.T9 := by kernel_rfl
theorem graftagelaw27_BitmapBack.bits9 : waitsOk graftagelaw27_BitmapBack.T9.2 graftagelaw27_BitmapBack.B9 = true := by kernel_rfl
set_option maxHeartbeats 8000000 in
set_option maxRecDepth 100000 in
theorem graftagelaw27_BitmapBack.callsT (k : Nat) (a0_0 : Int) (A0_1 : Option Addr) (c0_1 : Nat) (l0_1 : List Int) (a1_0 : Int) (A1_1 : Option Addr) (c1_1 : Nat) (l1_1 : List Int) (r : Bool) (w : World) (hr0_1 : Kd.C (Kd.int .i64) w A0_1 l0_1.length l0_1) (hc0_1 : l0_1.length ≤ c0_1) (hr1_1 : Kd.C (Kd.int .i64) w A1_1 l1_1.length l1_1) (hc1_1 : l1_1.length ≤ c1_1) (hr_ : r = true) (h : graftagelaw27_BitmapBack.f k a0_0 l0_1 a1_0 l1_1 = some r) :
  Calls Try.prog 5 #[.agg #[.int .i64 a0_0, .slice A0_1 l0_1.length c0_1], .agg #[.int .i64 a1_0, .slice A1_1 l1_1.length c1_1]] w fun e w' => e = .returned (.bool r) ∧ Below w.heap.size w w' := by
 have hu25 := Try.underlying25; have HR0_1 := Aside0.mk hr0_1; have HC0_1 := Aside0.mk hc0_1; clear hr0_1 hc0_1; have HR1_1 := Aside0.mk hr1_1; have HC1_1 := Aside0.mk hc1_1; clear hr1_1 hc1_1; have HB := Aside0.mk (Below.refl w.heap.size w); unfold graftagelaw27_BitmapBack.f at h; have H := h; clear h; have HC3 := Aside0.mk H; clear H; go_enter Try.func5, Try.ntmps5; go_upto_region 1 with (first | ((with_reducible refine gate_dst (N := 2) rfl ?_); refine be_ (cs := #[.int .i64 a0_0, .slice A0_1 l0_1.length c0_1]) (t := 25) ?_; intro gb101 hg w4 hbox hb; have BK101 := Aside0.mk (hbox); have GW101 := ag_ hg HB; have GE101 := ag_ hg HB; replace HB := ah_ HB hb; clear hb hbox hg) | ((with_reducible refine gate_dst (N := 3) rfl ?_); refine be_ (cs := #[.int .i64 a1_0, .slice A1_1 l1_1.length c1_1]) (t := 25) ?_; intro gb102 hg w5 hbox hb; have BK102 := Aside0.mk (hbox); have GW102 := Aside0.mk ((by rw [hg]; exact (below_size (hs_)) : w.heap.size ≤ gb102)); have GE102 := Aside0.mk ((by rw [hg]; exact (below_size (hs_)) : w.heap.size ≤ gb102)); replace HB := hbs_ hb; have NB101_102 := Aside0.mk (nl2_ hg BK101.out); have NB102_101 := Aside0.mk (ng2_ hg BK101.out); replace BK101 := ab_ BK101 hb; clear hb hbox hg)); (try simp only [Act.put, List.setIfInBounds_toArray, List.set_cons_zero, List.set_cons_succ])
 go_cut [33] (fun v33 wc => ∃ (kq : Nat) (x33_2 : Bool), v33 = .bool x33_2 ∧ Aside0 (graftagelaw27_BitmapBack.j0 kq x33_2 a0_0 l0_1 a1_0 l1_1 = some r) ∧ Aside0 (kq ≤ k) ∧ Aside0 (wc.heap[gb101]? = some (.cells #[.int .i64 a0_0, (.slice A0_1 l0_1.length c0_1)] 25 (0, 0))) ∧ Aside0 (wc.heap[gb102]? = some (.cells #[.int .i64 a1_0, (.slice A1_1 l1_1.length c1_1)] 25 (0, 0))) ∧ Aside0 (Below w.heap.size w wc))
 case first =>
  have H := HC3.out; clear HC3; obtain ⟨t103, A6, H⟩ := bx_ H; by_cases c7 : t103 = true; rotate_left
  ·replace c7 := Bool.eq_false_iff.mpr c7; subst c7; rw [if_neg nft_] at H; have H' := Aside0.mk H; clear H; have hnb46 := NB101_102.out; have hnc46 := NB102_101.out; obtain ⟨Z47_0, Z47_1, F47⟩ := bc2 BK101.out; go_wp2_with (first | ((with_reducible refine gate_callee (f := 14) rfl ?_); refine gl_ (some 10) Try.func14 #[.agg #[.int .i64 a0_0, .slice A0_1 l0_1.length c0_1]] ?_; (with_reducible refine (graftagelaw27_few.calls a0_0 _ _ l0_1 false _ ?side1 ?side2 A6.out).mono ?_); (case side1 => repeat (first | exact (Kd.C_below HR0_1.out HB.out) | (with_reducible refine Kd.C_alloc ?_ _) | (with_reducible refine Kd.C_drewN ?_ _) | (with_reducible refine Kd.C_drew ?_))); (case side2 => exact HC0_1.out); rintro e w48 ⟨rfl, hb⟩; refine ⟨_, rfl, ?_⟩; replace BK101 := ab_ BK101 hb; replace BK102 := ab_ BK102 hb; replace HB := hbs_ hb; (try clear hb); (try clear hb2); (try clear hk); (try clear hi)))
   go_meet
   case rel => exact ⟨_, (true), z1_, H', ⟨z6_⟩, ⟨bk_ BK101.out⟩, ⟨bk_ BK102.out⟩, ⟨hs_⟩⟩
  subst c7; rw [if_pos rfl] at H; obtain ⟨t104, A8, H⟩ := bx_ H; by_cases c9 : t104 = true; rotate_left
  ·replace c9 := Bool.eq_false_iff.mpr c9; subst c9; rw [if_neg nft_] at H; have H' := Aside0.mk H; clear H; have hnb41 := NB101_102.out; have hnc41 := NB102_101.out; obtain ⟨Z42_0, Z42_1, F42⟩ := bc2 BK101.out; have tk11_ : True := trivial; have tk12_ : True := trivial; go_wp2_with (first | (have _t := tk11_; (with_reducible refine gate_callee (f := 14) rfl ?_); refine gl_ (some 10) Try.func14 #[.agg #[.int .i64 a0_0, .slice A0_1 l0_1.length c0_1]] ?_; (with_reducible refine (graftagelaw27_few.calls a0_0 _ _ l0_1 true _ ?side1 ?side2 A6.out).mono ?_); (case side1 => repeat (first | exact (Kd.C_below HR0_1.out HB.out) | (with_reducible refine Kd.C_alloc ?_ _) | (with_reducible refine Kd.C_drewN ?_ _) | (with_reducible refine Kd.C_drew ?_))); (case side2 => exact HC0_1.out); rintro e w43 ⟨rfl, hb⟩; refine ⟨_, rfl, ?_⟩; replace BK101 := ab_ BK101 hb; replace BK102 := ab_ BK102 hb; replace HB := hbs_ hb; (try clear hb); (try clear hb2); (try clear hk); (try clear hi); obtain ⟨Z44_0, Z44_1, F44⟩ := bc2 BK102.out; clear tk11_) | (go_at_call 14; have _t := tk12_; (with_reducible refine (graftagelaw27_few.calls a1_0 _ _ l1_1 false _ ?side1 ?side2 A8.out).mono ?_); (case side1 => repeat (first | exact (Kd.C_below HR1_1.out HB.out) | (with_reducible refine Kd.C_alloc ?_ _) | (with_reducible refine Kd.C_drewN ?_ _) | (with_reducible refine Kd.C_drew ?_))); (case side2 => exact HC1_1.out); rintro e w45 ⟨rfl, hb⟩; replace BK101 := ab_ BK101 hb; replace BK102 := ab_ BK102 hb; replace HB := hbs_ hb; (try clear hb); (try clear hb2); (try clear hk); (try clear hi); clear tk12_)); go_meet
   case rel => exact ⟨_, (true), z1_, H', ⟨z6_⟩, ⟨bk_ BK101.out⟩, ⟨bk_ BK102.out⟩, ⟨hs_⟩⟩
  subst c9; rw [if_pos rfl] at H; obtain ⟨t105, A10, H⟩ := bx_ H; by_cases c11 : t105 = true; rotate_left
  ·replace c11 := Bool.eq_false_iff.mpr c11; subst c11; rw [if_neg nft_] at H; have H' := Aside0.mk H; clear H; have hnb34 := NB101_102.out; have hnc34 := NB102_101.out; obtain ⟨Z35_0, Z35_1, F35⟩ := bc2 BK101.out; have tk9_ : True := trivial; have tk10_ : True := trivial; go_wp2_with (first | (have _t := tk9_; (with_reducible refine gate_callee (f := 14) rfl ?_); refine gl_ (some 10) Try.func14 #[.agg #[.int .i64 a0_0, .slice A0_1 l0_1.length c0_1]] ?_; (with_reducible refine (graftagelaw27_few.calls a0_0 _ _ l0_1 true _ ?side1 ?side2 A6.out).mono ?_); (case side1 => repeat (first | exact (Kd.C_below HR0_1.out HB.out) | (with_reducible refine Kd.C_alloc ?_ _) | (with_reducible refine Kd.C_drewN ?_ _) | (with_reducible refine Kd.C_drew ?_))); (case side2 => exact HC0_1.out); rintro e w36 ⟨rfl, hb⟩; refine ⟨_, rfl, ?_⟩; replace BK101 := ab_ BK101 hb; replace BK102 := ab_ BK102 hb; replace HB := hbs_ hb; (try clear hb); (try clear hb2); (try clear hk); (try clear hi); obtain ⟨Z37_0, Z37_1, F37⟩ := bc2 BK102.out; clear tk9_) | (go_at_call 14; have _t := tk10_; (with_reducible refine (graftagelaw27_few.calls a1_0 _ _ l1_1 true _ ?side1 ?side2 A8.out).mono ?_); (case side1 => repeat (first | exact (Kd.C_below HR1_1.out HB.out) | (with_reducible refine Kd.C_alloc ?_ _) | (with_reducible refine Kd.C_drewN ?_ _) | (with_reducible refine Kd.C_drew ?_))); (case side2 => exact HC1_1.out); rintro e w38 ⟨rfl, hb⟩; replace BK101 := ab_ BK101 hb; replace BK102 := ab_ BK102 hb; replace HB := hbs_ hb; (try clear hb); (try clear hb2); (try clear hk); (try clear hi); obtain ⟨Z39_0, Z39_1, F39⟩ := bc2 BK101.out; clear tk10_) | (go_at_call 15; (with_reducible refine (bitmap_Valid.calls k a0_0 _ _ l0_1 false _ ?side1 ?side2 A10.out).mono ?_); (case side1 => repeat (first | exact (Kd.C_below HR0_1.out HB.out) | (with_reducible refine Kd.C_alloc ?_ _) | (with_reducible refine Kd.C_drewN ?_ _) | (with_reducible refine Kd.C_drew ?_))); (case side2 => exact HC0_1.out); rintro e w40 ⟨rfl, hb⟩; replace BK101 := ab_ BK101 hb; replace BK102 := ab_ BK102 hb; replace HB := hbs_ hb; (try clear hb); (try clear hb2); (try clear hk); (try clear hi)))
   go_meet
   case rel => exact ⟨_, (true), z1_, H', ⟨z6_⟩, ⟨bk_ BK101.out⟩, ⟨bk_ BK102.out⟩, ⟨hs_⟩⟩
  subst c11; rw [if_pos rfl] at H; obtain ⟨t106, A12, H⟩ := bx_ H; by_cases c13 : t106 = true; rotate_left
  ·replace c13 := Bool.eq_false_iff.mpr c13; subst c13; rw [if_neg nft_] at H; have H' := Aside0.mk H; clear H; have hnb25 := NB101_102.out; have hnc25 := NB102_101.out; obtain ⟨Z26_0, Z26_1, F26⟩ := bc2 BK101.out; have tk5_ : True := trivial; have tk6_ : True := trivial; have tk7_ : True := trivial; have tk8_ : True := trivial; go_wp2_with (first | (have _t := tk5_; (with_reducible refine gate_callee (f := 14) rfl ?_); refine gl_ (some 10) Try.func14 #[.agg #[.int .i64 a0_0, .slice A0_1 l0_1.length c0_1]] ?_; (with_reducible refine (graftagelaw27_few.calls a0_0 _ _ l0_1 true _ ?side1 ?side2 A6.out).mono ?_); (case side1 => repeat (first | exact (Kd.C_below HR0_1.out HB.out) | (with_reducible refine Kd.C_alloc ?_ _) | (with_reducible refine Kd.C_drewN ?_ _) | (with_reducible refine Kd.C_drew ?_))); (case side2 => exact HC0_1.out); rintro e w27 ⟨rfl, hb⟩; refine ⟨_, rfl, ?_⟩; replace BK101 := ab_ BK101 hb; replace BK102 := ab_ BK102 hb; replace HB := hbs_ hb; (try clear hb); (try clear hb2); (try clear hk); (try clear hi); obtain ⟨Z28_0, Z28_1, F28⟩ := bc2 BK102.out; clear tk5_) | (go_at_call 14; have _t := tk6_; (with_reducible refine (graftagelaw27_few.calls a1_0 _ _ l1_1 true _ ?side1 ?side2 A8.out).mono ?_); (case side1 => repeat (first | exact (Kd.C_below HR1_1.out HB.out) | (with_reducible refine Kd.C_alloc ?_ _) | (with_reducible refine Kd.C_drewN ?_ _) | (with_reducible refine Kd.C_drew ?_))); (case side2 => exact HC1_1.out); rintro e w29 ⟨rfl, hb⟩; replace BK101 := ab_ BK101 hb; replace BK102 := ab_ BK102 hb; replace HB := hbs_ hb; (try clear hb); (try clear hb2); (try clear hk); (try clear hi); obtain ⟨Z30_0, Z30_1, F30⟩ := bc2 BK101.out; clear tk6_) | (go_at_call 15; have _t := tk7_; (with_reducible refine (bitmap_Valid.calls k a0_0 _ _ l0_1 true _ ?side1 ?side2 A10.out).mono ?_); (case side1 => repeat (first | exact (Kd.C_below HR0_1.out HB.out) | (with_reducible refine Kd.C_alloc ?_ _) | (with_reducible refine Kd.C_drewN ?_ _) | (with_reducible refine Kd.C_drew ?_))); (case side2 => exact HC0_1.out); rintro e w31 ⟨rfl, hb⟩; replace BK101 := ab_ BK101 hb; replace BK102 := ab_ BK102 hb; replace HB := hbs_ hb; (try clear hb); (try clear hb2); (try clear hk); (try clear hi); obtain ⟨Z32_0, Z32_1, F32⟩ := bc2 BK102.out; clear tk7_) | (go_at_call 15; have _t := tk8_; (with_reducible refine (bitmap_Valid.calls k a1_0 _ _ l1_1 false _ ?side1 ?side2 A12.out).mono ?_); (case side1 => repeat (first | exact (Kd.C_below HR1_1.out HB.out) | (with_reducible refine Kd.C_alloc ?_ _) | (with_reducible refine Kd.C_drewN ?_ _) | (with_reducible refine Kd.C_drew ?_))); (case side2 => exact HC1_1.out); rintro e w33 ⟨rfl, hb⟩; replace BK101 := ab_ BK101 hb; replace BK102 := ab_ BK102 hb; replace HB := hbs_ hb; (try clear hb); (try clear hb2); (try clear hk); (try clear hi); clear tk8_)); go_meet
   case rel => exact ⟨_, (true), z1_, H', ⟨z6_⟩, ⟨bk_ BK101.out⟩, ⟨bk_ BK102.out⟩, ⟨hs_⟩⟩
  subst c13; rw [if_pos rfl] at H; have H' := Aside0.mk H; clear H; have hnb14 := NB101_102.out; have hnc14 := NB102_101.out; obtain ⟨Z15_0, Z15_1, F15⟩ := bc2 BK101.out; have tk1_ : True := trivial; have tk2_ : True := trivial; have tk3_ : True := trivial; have tk4_ : True := trivial; go_wp2_with (first | (have _t := tk1_; (with_reducible refine gate_callee (f := 14) rfl ?_); refine gl_ (some 10) Try.func14 #[.agg #[.int .i64 a0_0, .slice A0_1 l0_1.length c0_1]] ?_; (with_reducible refine (graftagelaw27_few.calls a0_0 _ _ l0_1 true _ ?side1 ?side2 A6.out).mono ?_); (case side1 => repeat (first | exact (Kd.C_below HR0_1.out HB.out) | (with_reducible refine Kd.C_alloc ?_ _) | (with_reducible refine Kd.C_drewN ?_ _) | (with_reducible refine Kd.C_drew ?_))); (case side2 => exact HC0_1.out); rintro e w16 ⟨rfl, hb⟩; refine ⟨_, rfl, ?_⟩; replace BK101 := ab_ BK101 hb; replace BK102 := ab_ BK102 hb; replace HB := hbs_ hb; (try clear hb); (try clear hb2); (try clear hk); (try clear hi); obtain ⟨Z17_0, Z17_1, F17⟩ := bc2 BK102.out; clear tk1_) | (go_at_call 14; have _t := tk2_; (with_reducible refine (graftagelaw27_few.calls a1_0 _ _ l1_1 true _ ?side1 ?side2 A8.out).mono ?_); (case side1 => repeat (first | exact (Kd.C_below HR1_1.out HB.out) | (with_reducible refine Kd.C_alloc ?_ _) | (with_reducible refine Kd.C_drewN ?_ _) | (with_reducible refine Kd.C_drew ?_))); (case side2 => exact HC1_1.out); rintro e w18 ⟨rfl, hb⟩; replace BK101 := ab_ BK101 hb; replace BK102 := ab_ BK102 hb; replace HB := hbs_ hb; (try clear hb); (try clear hb2); (try clear hk); (try clear hi); obtain ⟨Z19_0, Z19_1, F19⟩ := bc2 BK101.out; clear tk2_) | (go_at_call 15; have _t := tk3_; (with_reducible refine (bitmap_Valid.calls k a0_0 _ _ l0_1 true _ ?side1 ?side2 A10.out).mono ?_); (case side1 => repeat (first | exact (Kd.C_below HR0_1.out HB.out) | (with_reducible refine Kd.C_alloc ?_ _) | (with_reducible refine Kd.C_drewN ?_ _) | (with_reducible refine Kd.C_drew ?_))); (case side2 => exact HC0_1.out); rintro e w20 ⟨rfl, hb⟩; replace BK101 := ab_ BK101 hb; replace BK102 := ab_ BK102 hb; replace HB := hbs_ hb; (try clear hb); (try clear hb2); (try clear hk); (try clear hi); obtain ⟨Z21_0, Z21_1, F21⟩ := bc2 BK102.out; clear tk3_) | (go_at_call 15; have _t := tk4_; (with_reducible refine (bitmap_Valid.calls k a1_0 _ _ l1_1 true _ ?side1 ?side2 A12.out).mono ?_); (case side1 => repeat (first | exact (Kd.C_below HR1_1.out HB.out) | (with_reducible refine Kd.C_alloc ?_ _) | (with_reducible refine Kd.C_drewN ?_ _) | (with_reducible refine Kd.C_drew ?_))); (case side2 => exact HC1_1.out); rintro e w22 ⟨rfl, hb⟩; replace BK101 := ab_ BK101 hb; replace BK102 := ab_ BK102 hb; replace HB := hbs_ hb; (try clear hb); (try clear hb2); (try clear hk); (try clear hi); obtain ⟨Z23_0, Z23_1, F23⟩ := bc2 BK101.out; obtain ⟨Z24_0, Z24_1, F24⟩ := bc2 BK102.out; clear tk4_)); go_meet
  case rel => exact ⟨_, ((a0_0 != a1_0)), z1_, H', ⟨z6_⟩, ⟨bk_ BK101.out⟩, ⟨bk_ BK102.out⟩, ⟨hs_⟩⟩
 case rest =>
  clear HC3; try clear c1
  try clear c2
  try clear p2
  try clear c3
  try clear c4
  try clear c5
  try clear c7
  try clear c9
  try clear c11
  try clear c13
  try clear c14
  try clear c25
  try clear c34
  try clear c41
  try clear c46
  try clear Z15_0 Z15_1
  try clear Z17_0 Z17_1
  try clear Z19_0 Z19_1
  try clear Z21_0 Z21_1
  try clear Z23_0 Z23_1
  try clear Z24_0 Z24_1
  try clear Z26_0 Z26_1
  try clear Z28_0 Z28_1
  try clear Z30_0 Z30_1
  try clear Z32_0 Z32_1
  try clear Z35_0 Z35_1
  try clear Z37_0 Z37_1
  try clear Z39_0 Z39_1
  try clear Z42_0 Z42_1
  try clear Z44_0 Z44_1
  try clear Z47_0 Z47_1
  try clear F15
  try clear F17
  try clear F19
  try clear F21
  try clear F23
  try clear F24
  try clear F26
  try clear F28
  try clear F30
  try clear F32
  try clear F35
  try clear F37
  try clear F39
  try clear F42
  try clear F44
  try clear F47
  obtain ⟨kq, x33_2, rfl, HA, HJ2, BK101, BK102, HB⟩ := hcut
  cases kq with
  | zero => exact absurd HA.out (by simp [graftagelaw27_BitmapBack.j0])
  | succ kj2 =>
   have H := HA.out; clear HA; simp only [graftagelaw27_BitmapBack.j0] at H; by_cases c49 : x33_2 = true
   ·subst c49; rw [if_pos rfl] at H; obtain ⟨t107, A50, H⟩ := bx_ H; obtain rfl := oi_ H; go_wp2_with (first | ((with_reducible refine gate_callee (f := 7) rfl ?_); refine gl_ (some 34) Try.func7 #[] ?_; refine cm_ (graftagelaw27_lives.calls kj2  t107 _ A50.out) fun w51 hb => ?_; replace BK101 := ab_ BK101 hb; replace BK102 := ab_ BK102 hb; replace HB := hbs_ hb; (try clear hb); (try clear hb2); (try clear hk); (try clear hi)))
    go_ret
    exact ⟨z3_, hs_⟩
   replace c49 := Bool.eq_false_iff.mpr c49; subst c49; rw [if_neg nft_] at H; obtain ⟨t108, A52, H⟩ := bx_ H; obtain ⟨⟨t111, t112, t115⟩, A53, H⟩ := bx_ H; dsimp only at H; obtain ⟨⟨t117, t118⟩, A54, H⟩ := bx_ H; dsimp only at H; obtain ⟨⟨t121, t122⟩, A55, H⟩ := bx_ H; dsimp only at H; have HC56 := Aside0.mk H; clear H; try go_wp2
   replace BK101 := ad_ BK101; replace BK102 := ad_ BK102; replace HB := hd_ HB; refine start_ (n := 11) (S := fun w' => w'.cell? ⟨gb101, 0, none⟩ = some (.int .i64 a0_0) ∧ w'.cell? ⟨gb101, 1, none⟩ = some (.slice A0_1 l0_1.length c0_1)) (ds := []) (bs 11 0) (by kernel_rfl) rfl rfl (bc2o BK101.out) (fun hHeld => ?_); refine with_tabW graftagelaw27_BitmapBack.tab3 graftagelaw27_BitmapBack.bits3 (fun HT_ HW_ => ?_); generalize wc.drew = w57 at BK101 BK102 HB hHeld ⊢; refine pun_ 0 36 11 1 ?_; refine tkW2n_ 1 37 11 3 hHeld ?_; refine tkW2n_ 2 38 11 7 hHeld ?_; refine join_ (σ := Value × Value × Nat) 2 (bs 11 511) (fun s_ => [(39, s_.1), (40, .tuple #[.agg #[.int .i64 t111, s_.2.1], .int .i64 t115]), (5, .pointer (some ⟨s_.2.2, 0, none⟩)), (35, .tuple #[.agg #[.int .i64 t111, s_.2.1], .int .i64 t115]), (41, .agg #[.int .i64 t111, s_.2.1]), (42, .int .i64 t115)]) (fun s_ w' => (w'.cell? ⟨gb101, 0, none⟩ = some (.int .i64 a0_0) ∧ w'.cell? ⟨gb101, 1, none⟩ = some (.slice A0_1 l0_1.length c0_1)) ∧ (Kd.R (Kd.int .i64) 3 w' w.heap.size (fun k_ => some k_ ≠ (s_.2.1 : Value).ownBlock) s_.1 t108) ∧ (Kd.R (Kd.int .i64) 3 w' w.heap.size (fun k_ => some k_ ≠ (s_.1 : Value).ownBlock) s_.2.1 t112) ∧ (w'.heap[gb101]? = some (.cells #[.int .i64 a0_0, .slice A0_1 l0_1.length c0_1] 25 (0, 0))) ∧ (w'.heap[gb102]? = some (.cells #[.int .i64 a1_0, .slice A1_1 l1_1.length c1_1] 25 (0, 0))) ∧ (w'.heap[s_.2.2]? = some (.cells #[.int .i64 0, .slice none 0 0] 25 (0, 0))) ∧ (w.heap.size ≤ s_.2.2) ∧ (w.heap.size ≤ s_.2.2) ∧ (gb101 ≠ s_.2.2) ∧ (s_.2.2 ≠ gb101) ∧ (gb102 ≠ s_.2.2) ∧ (s_.2.2 ≠ gb102) ∧ (Below w.heap.size w w')) ?_ ?_; rotate_left
   ·intro hCont; refine two_ (i := 3) (j := 8) (Ni := some 39) (Nj := some 5) (bs 11 15) (bs 11 263) rfl rfl rfl rfl (two_of HT_.out (by kernel_rfl)) (by decide) (by decide) (fun K hK => ?_) (fun K hK => ?_)
    ·skip
     refine goes_ Try.func12 (by kernel_rfl) rfl #[.agg #[.int .i64 a0_0, .slice A0_1 l0_1.length c0_1]] (by rfl) rfl rfl z2_ ?_
     with_reducible refine (bitmap_List.calls kj2 a0_0 _ _ l0_1 t108 _ ?side1 ?side2 A52.out).mono ?_
     (case side1 => repeat (first | exact (Kd.C_below HR0_1.out HB.out) | (with_reducible refine Kd.C_alloc ?_ _) | (with_reducible refine Kd.C_drewN ?_ _) | (with_reducible refine Kd.C_drew ?_)))
     (case side2 => exact HC0_1.out)
     rintro e w58 ⟨v109, rfl, ho0, hb⟩; refine ⟨_, rfl, ?_⟩; have HO110 := Aside0.mk (Kd.R_lower ho0 (below_size (hs_))); replace BK101 := ab_ BK101 hb; replace BK102 := ab_ BK102 hb; replace HB := hbs_ hb; (try clear hb)
     (try clear hb2)
     (try clear hk)
     (try clear hi)
     (try clear ho0)
     obtain ⟨Ao59, co59, eo59⟩ := Kd.R_slice HO110.out; (first | subst eo59 | (injection eo59 with f1_ f2_ f3_; have f4_ := f1_.symm; have f5_ := f3_.symm; clear f1_ f2_ f3_; subst f4_; subst f5_)); refine hK.out _ _ (bc2o BK101.out) (fun hHeld => ?_); clear hK K; refine nrm_ 39 ?_
     refine two_ (i := 4) (j := 8) (Ni := some 40) (Nj := some 5) (bs 11 31) (bs 11 271) rfl rfl rfl rfl (two_of HT_.out (by kernel_rfl)) (by decide) (by decide) (fun K hK => ?_) (fun K hK => ?_)
     ·skip
      refine goes_ Try.func8 (by kernel_rfl) rfl #[.int .i64 a0_0, .slice Ao59 t108.length co59] (by rfl) rfl rfl z2_ ?_
      with_reducible refine (bitmap_Of.calls kj2 a0_0 _ _ t108 t111 t112 t115 _ ?side1 ?side2 A53.out).mono ?_
      (case side1 => repeat (first | exact (Kd.R_reads' HO110.out).2.2 | (with_reducible refine Kd.C_alloc ?_ _) | (with_reducible refine Kd.C_drewN ?_ _) | (with_reducible refine Kd.C_drew ?_)))
      (case side2 => exact (Kd.R_reads' HO110.out).2.1)
      rintro e w60 ⟨v113, rfl, ho0, hb⟩; refine ⟨_, rfl, ?_⟩; have HO114 := Aside0.mk (Kd.R_lower (Kd.R_new' ho0 (Kd.R_lt (rk_ HO110.out))) (below_size (hs_))); replace HO110 := Aside0.mk (Kd.R_elder' (rk_ HO110.out) (Kd.R_base ho0) hb); replace BK101 := ab_ BK101 hb; replace BK102 := ab_ BK102 hb; replace HB := hbs_ hb; (try clear hb)
      (try clear hb2)
      (try clear hk)
      (try clear hi)
      (try clear ho0)
      refine hK.out _ _ (bc2o BK101.out) (fun hHeld => ?_); clear hK K; refine nrm_ 40 ?_
      refine pun_ 5 35 11 63 ?_; refine pun_ 6 41 11 127 ?_; refine pun_ 7 42 11 255 ?_; refine on_ 8 5 11 511 (fun K hK => ?_); refine box_step ?hg (N := 5) ?hd (cs := #[.int .i64 0, .slice none 0 0]) (t := 25) ?hr ?_; (case hd => rfl); (case hg => rfl); (case hr => first | (go_simp; done) | (go_simp; rfl))
      intro gb116 hg w61 hbox hb; replace HO110 := Aside0.mk (Kd.R_below (rk_ HO110.out) hb); replace HO114 := Aside0.mk (Kd.R_below (rk_ HO114.out) hb); have BK116 := Aside0.mk (hbox); have GW116 := Aside0.mk ((by rw [hg]; exact (below_size (hs_)) : w.heap.size ≤ gb116)); have GE116 := Aside0.mk ((by rw [hg]; exact (below_size (hs_)) : w.heap.size ≤ gb116)); replace HB := hbs_ hb; have NB101_116 := Aside0.mk (nl2_ hg BK101.out); have NB116_101 := Aside0.mk (ng2_ hg BK101.out); replace BK101 := ab_ BK101 hb; have NB102_116 := Aside0.mk (nl2_ hg BK102.out); have NB116_102 := Aside0.mk (ng2_ hg BK102.out); replace BK102 := ab_ BK102 hb; clear hb hbox hg; refine hK.out _ _ (bc2o BK101.out) (fun hHeld => ?_); clear hK K; refine nrm_ 5 ?_
      exact norm_ (by simp only [putAll, Act.put, List.setIfInBounds_toArray, List.set_cons_zero, List.set_cons_succ]) (hCont (.slice Ao59 t108.length co59, v113, gb116) _ ⟨hHeld, z17_, z18_, (bk_ BK101.out), (bk_ BK102.out), (bk_ BK116.out), GW116.out, GE116.out, NB101_116.out, NB116_101.out, NB102_116.out, NB116_102.out, (hs_)⟩)
     ·skip
      refine box_step ?hg (N := 5) ?hd (cs := #[.int .i64 0, .slice none 0 0]) (t := 25) ?hr ?_; (case hd => rfl); (case hg => rfl); (case hr => first | (go_simp; done) | (go_simp; rfl))
      intro gb116 hg w59 hbox hb; replace HO110 := Aside0.mk (Kd.R_below (rk_ HO110.out) hb); have BK116 := Aside0.mk (hbox); have GW116 := Aside0.mk ((by rw [hg]; exact (below_size (hs_)) : w.heap.size ≤ gb116)); have GE116 := Aside0.mk ((by rw [hg]; exact (below_size (hs_)) : w.heap.size ≤ gb116)); replace HB := hbs_ hb; have NB101_116 := Aside0.mk (nl2_ hg BK101.out); have NB116_101 := Aside0.mk (ng2_ hg BK101.out); replace BK101 := ab_ BK101 hb; have NB102_116 := Aside0.mk (nl2_ hg BK102.out); have NB116_102 := Aside0.mk (ng2_ hg BK102.out); replace BK102 := ab_ BK102 hb; clear hb hbox hg; obtain ⟨Ao60, co60, eo60⟩ := Kd.R_slice HO110.out; (first | subst eo60 | (injection eo60 with f1_ f2_ f3_; have f4_ := f1_.symm; have f5_ := f3_.symm; clear f1_ f2_ f3_; subst f4_; subst f5_)); refine hK.out _ _ (bc2o BK101.out) (fun hHeld => ?_); clear hK K; refine nrm_ 5 ?_
      refine on_ 4 40 11 287 (fun K hK => ?_); refine goes_ Try.func8 (by kernel_rfl) rfl #[.int .i64 a0_0, .slice Ao60 t108.length co60] (by rfl) rfl rfl z2_ ?_
      with_reducible refine (bitmap_Of.calls kj2 a0_0 _ _ t108 t111 t112 t115 _ ?side1 ?side2 A53.out).mono ?_
      (case side1 => repeat (first | exact (Kd.R_reads' HO110.out).2.2 | (with_reducible refine Kd.C_alloc ?_ _) | (with_reducible refine Kd.C_drewN ?_ _) | (with_reducible refine Kd.C_drew ?_)))
      (case side2 => exact (Kd.R_reads' HO110.out).2.1)
      rintro e w61 ⟨v113, rfl, ho0, hb⟩; refine ⟨_, rfl, ?_⟩; have HO114 := Aside0.mk (Kd.R_lower (Kd.R_new' ho0 (Kd.R_lt (rk_ HO110.out))) (below_size (hs_))); replace HO110 := Aside0.mk (Kd.R_elder' (rk_ HO110.out) (Kd.R_base ho0) hb); replace BK101 := ab_ BK101 hb; replace BK102 := ab_ BK102 hb; replace BK116 := ab_ BK116 hb; replace HB := hbs_ hb; (try clear hb)
      (try clear hb2)
      (try clear hk)
      (try clear hi)
      (try clear ho0)
      refine hK.out _ _ (bc2o BK101.out) (fun hHeld => ?_); clear hK K; refine nrm_ 40 ?_
      refine pun_ 5 35 11 319 ?_; refine pun_ 6 41 11 383 ?_; refine pun_ 7 42 11 511 ?_; exact norm_ (by simp only [putAll, Act.put, List.setIfInBounds_toArray, List.set_cons_zero, List.set_cons_succ]) (hCont (.slice Ao60 t108.length co60, v113, gb116) _ ⟨hHeld, z17_, z18_, (bk_ BK101.out), (bk_ BK102.out), (bk_ BK116.out), GW116.out, GE116.out, NB101_116.out, NB116_101.out, NB102_116.out, NB116_102.out, (hs_)⟩)
    ·skip
     refine box_step ?hg (N := 5) ?hd (cs := #[.int .i64 0, .slice none 0 0]) (t := 25) ?hr ?_; (case hd => rfl); (case hg => rfl); (case hr => first | (go_simp; done) | (go_simp; rfl))
     intro gb116 hg w58 hbox hb; have BK116 := Aside0.mk (hbox); have GW116 := Aside0.mk ((by rw [hg]; exact (below_size (hs_)) : w.heap.size ≤ gb116)); have GE116 := Aside0.mk ((by rw [hg]; exact (below_size (hs_)) : w.heap.size ≤ gb116)); replace HB := hbs_ hb; have NB101_116 := Aside0.mk (nl2_ hg BK101.out); have NB116_101 := Aside0.mk (ng2_ hg BK101.out); replace BK101 := ab_ BK101 hb; have NB102_116 := Aside0.mk (nl2_ hg BK102.out); have NB116_102 := Aside0.mk (ng2_ hg BK102.out); replace BK102 := ab_ BK102 hb; clear hb hbox hg; refine hK.out _ _ (bc2o BK101.out) (fun hHeld => ?_); clear hK K; refine nrm_ 5 ?_
     refine on_ 3 39 11 271 (fun K hK => ?_); refine goes_ Try.func12 (by kernel_rfl) rfl #[.agg #[.int .i64 a0_0, .slice A0_1 l0_1.length c0_1]] (by rfl) rfl rfl z2_ ?_
     with_reducible refine (bitmap_List.calls kj2 a0_0 _ _ l0_1 t108 _ ?side1 ?side2 A52.out).mono ?_
     (case side1 => repeat (first | exact (Kd.C_below HR0_1.out HB.out) | (with_reducible refine Kd.C_alloc ?_ _) | (with_reducible refine Kd.C_drewN ?_ _) | (with_reducible refine Kd.C_drew ?_)))
     (case side2 => exact HC0_1.out)
     rintro e w59 ⟨v109, rfl, ho0, hb⟩; refine ⟨_, rfl, ?_⟩; have HO110 := Aside0.mk (Kd.R_lower ho0 (below_size (hs_))); replace BK101 := ab_ BK101 hb; replace BK102 := ab_ BK102 hb; replace BK116 := ab_ BK116 hb; replace HB := hbs_ hb; (try clear hb)
     (try clear hb2)
     (try clear hk)
     (try clear hi)
     (try clear ho0)
     obtain ⟨Ao60, co60, eo60⟩ := Kd.R_slice HO110.out; (first | subst eo60 | (injection eo60 with f1_ f2_ f3_; have f4_ := f1_.symm; have f5_ := f3_.symm; clear f1_ f2_ f3_; subst f4_; subst f5_)); refine hK.out _ _ (bc2o BK101.out) (fun hHeld => ?_); clear hK K; refine nrm_ 39 ?_
     refine on_ 4 40 11 287 (fun K hK => ?_); refine goes_ Try.func8 (by kernel_rfl) rfl #[.int .i64 a0_0, .slice Ao60 t108.length co60] (by rfl) rfl rfl z2_ ?_
     with_reducible refine (bitmap_Of.calls kj2 a0_0 _ _ t108 t111 t112 t115 _ ?side1 ?side2 A53.out).mono ?_
     (case side1 => repeat (first | exact (Kd.R_reads' HO110.out).2.2 | (with_reducible refine Kd.C_alloc ?_ _) | (with_reducible refine Kd.C_drewN ?_ _) | (with_reducible refine Kd.C_drew ?_)))
     (case side2 => exact (Kd.R_reads' HO110.out).2.1)
     rintro e w61 ⟨v113, rfl, ho0, hb⟩; refine ⟨_, rfl, ?_⟩; have HO114 := Aside0.mk (Kd.R_lower (Kd.R_new' ho0 (Kd.R_lt (rk_ HO110.out))) (below_size (hs_))); replace HO110 := Aside0.mk (Kd.R_elder' (rk_ HO110.out) (Kd.R_base ho0) hb); replace BK101 := ab_ BK101 hb; replace BK102 := ab_ BK102 hb; replace BK116 := ab_ BK116 hb; replace HB := hbs_ hb; (try clear hb)
     (try clear hb2)
     (try clear hk)
     (try clear hi)
     (try clear ho0)
     refine hK.out _ _ (bc2o BK101.out) (fun hHeld => ?_); clear hK K; refine nrm_ 40 ?_
     refine pun_ 5 35 11 319 ?_; refine pun_ 6 41 11 383 ?_; refine pun_ 7 42 11 511 ?_; exact norm_ (by simp only [putAll, Act.put, List.setIfInBounds_toArray, List.set_cons_zero, List.set_cons_succ]) (hCont (.slice Ao60 t108.length co60, v113, gb116) _ ⟨hHeld, z17_, z18_, (bk_ BK101.out), (bk_ BK102.out), (bk_ BK116.out), GW116.out, GE116.out, NB101_116.out, NB116_101.out, NB102_116.out, NB116_102.out, (hs_)⟩)
   rintro ⟨v109, v113, gb116⟩ w62 ⟨hS_, h0_, h1_, h2_, h3_, h4_, h5_, h6_, h7_, h8_, h9_, h10_, h11_⟩; have n0_ : Aside0 (Kd.R (Kd.int .i64) 3 w62 w.heap.size (fun k_ => some k_ ≠ (v113 : Value).ownBlock) v109 t108) := ⟨h0_⟩; have n1_ : Aside0 (Kd.R (Kd.int .i64) 3 w62 w.heap.size (fun k_ => some k_ ≠ (v109 : Value).ownBlock) v113 t112) := ⟨h1_⟩; have n2_ : Aside0 (w62.heap[gb101]? = some (.cells #[.int .i64 a0_0, .slice A0_1 l0_1.length c0_1] 25 (0, 0))) := ⟨h2_⟩; have n3_ : Aside0 (w62.heap[gb102]? = some (.cells #[.int .i64 a1_0, .slice A1_1 l1_1.length c1_1] 25 (0, 0))) := ⟨h3_⟩; have n4_ : Aside0 (w62.heap[gb116]? = some (.cells #[.int .i64 0, .slice none 0 0] 25 (0, 0))) := ⟨h4_⟩; have n5_ : Aside0 (w.heap.size ≤ gb116) := ⟨h5_⟩; have n6_ : Aside0 (w.heap.size ≤ gb116) := ⟨h6_⟩; have n7_ : Aside0 (gb101 ≠ gb116) := ⟨h7_⟩; have n8_ : Aside0 (gb116 ≠ gb101) := ⟨h8_⟩; have n9_ : Aside0 (gb102 ≠ gb116) := ⟨h9_⟩; have n10_ : Aside0 (gb116 ≠ gb102) := ⟨h10_⟩; have n11_ : Aside0 (Below w.heap.size w w62) := ⟨h11_⟩; clear BK101; clear BK102; clear HB; clear h0_ h1_ h2_ h3_ h4_ h5_ h6_ h7_ h8_ h9_ h10_ h11_; have HO110 := n0_; have HO114 := n1_; have BK101 := n2_; have BK102 := n3_; have BK116 := n4_; have GW116 := n5_; have GE116 := n6_; have NB101_116 := n7_; have NB116_101 := n8_; have NB102_116 := n9_; have NB116_102 := n10_; have HB := n11_; clear n0_ n1_ n2_ n3_ n4_ n5_ n6_ n7_ n8_ n9_ n10_ n11_; have hHeld : w62.cell? ⟨gb101, 0, none⟩ = some (.int .i64 a0_0) ∧ w62.cell? ⟨gb101, 1, none⟩ = some (.slice A0_1 l0_1.length c0_1) := hS_; obtain ⟨Ao64, co64, eo64⟩ := Kd.R_slice HO114.out; (first | subst eo64 | (injection eo64 with f1_ f2_ f3_; have f4_ := f1_.symm; have f5_ := f3_.symm; clear f1_ f2_ f3_; subst f4_; subst f5_)); refine norm_ (a' := ?_) ?_ ?_; rotate_left
   ·simp only [putAll, Act.put, List.setIfInBounds_toArray, List.set_cons_zero, List.set_cons_succ]; rfl
   refine one_ (i := 9) (N := none) (bs 11 1023) rfl rfl (one_of HT_.out (by kernel_rfl)) (by decide) (fun K hK => ?_); have hs63 : w62.cell? ⟨gb116, 0, none⟩ = some (.int .i64 0) := (blk_cell BK116.out 0).trans rfl; have hfs63 := blk_frozen BK116.out 0; have hns63_0 := NB101_116.out; have hns63_1 := NB102_116.out; have hms63_0 := NB116_101.out; have hms63_1 := NB116_102.out; have hs65 : w62.cell? ⟨gb116, 1, none⟩ = some (.slice none 0 0) := (blk_cell BK116.out 1).trans rfl; have hfs65 := blk_frozen BK116.out 1; have hns65_0 := NB101_116.out; have hns65_1 := NB102_116.out; have hms65_0 := NB116_101.out; have hms65_1 := NB116_102.out; refine skip_ (w1 := ?_) (by rfl) rfl ?_ ?_; rotate_left
   ·go_simp
    rfl
   refine hK.out _ _ ⟨((cell_far (p := ⟨gb116, _, none⟩) NB101_116.out _).trans (((cell_far (p := ⟨gb116, _, none⟩) NB101_116.out _).trans (hHeld.1)))), ((cell_far (p := ⟨gb116, _, none⟩) NB101_116.out _).trans (((cell_far (p := ⟨gb116, _, none⟩) NB101_116.out _).trans (hHeld.2))))⟩ (fun hHeld => ?_); clear hK K; refine pun_ 10 6 11 2047 ?_; refine dn_ ?_; try go_wp2
   have n0_ : Aside0 (Kd.R (Kd.int .i64) 3 ((w62.setCell ⟨gb116, 0, none⟩ (.int .i64 t111)).setCell ⟨gb116, 1, none⟩ (.slice Ao64 t112.length co64)) w.heap.size (fun k_ => some k_ ≠ (.slice Ao64 t112.length co64 : Value).ownBlock) v109 t108) := ⟨by (with_reducible repeat (first | apply Kd.R_alloc | apply Kd.R_drewN | apply Kd.R_drew)); exact Kd.R_mono (Kd.R_far (p := ⟨gb116, 1, none⟩) (Kd.R_far (p := ⟨gb116, 0, none⟩) (Kd.R_types HO110.out BK116.out (by decide)) (fun _ hk => hk.2) (.int .i64 t111)) (fun _ hk => hk.2) (.slice Ao64 t112.length co64)) (fun _ hk => hk.1)⟩; have n1_ : Aside0 (Kd.R (Kd.int .i64) 3 ((w62.setCell ⟨gb116, 0, none⟩ (.int .i64 t111)).setCell ⟨gb116, 1, none⟩ (.slice Ao64 t112.length co64)) w.heap.size (fun k_ => some k_ ≠ (v109 : Value).ownBlock) (.slice Ao64 t112.length co64) t112) := ⟨by (with_reducible repeat (first | apply Kd.R_alloc | apply Kd.R_drewN | apply Kd.R_drew)); exact Kd.R_mono (Kd.R_far (p := ⟨gb116, 1, none⟩) (Kd.R_far (p := ⟨gb116, 0, none⟩) (Kd.R_types HO114.out BK116.out (by decide)) (fun _ hk => hk.2) (.int .i64 t111)) (fun _ hk => hk.2) (.slice Ao64 t112.length co64)) (fun _ hk => hk.1)⟩; have n2_ : Aside0 (((w62.setCell ⟨gb116, 0, none⟩ (.int .i64 t111)).setCell ⟨gb116, 1, none⟩ (.slice Ao64 t112.length co64)).heap[gb101]? = some (.cells #[.int .i64 a0_0, .slice A0_1 l0_1.length c0_1] 25 (0, 0))) := ⟨by have b_ := BK101; have f_ := NB101_116; exact zb_⟩; have n3_ : Aside0 (((w62.setCell ⟨gb116, 0, none⟩ (.int .i64 t111)).setCell ⟨gb116, 1, none⟩ (.slice Ao64 t112.length co64)).heap[gb102]? = some (.cells #[.int .i64 a1_0, .slice A1_1 l1_1.length c1_1] 25 (0, 0))) := ⟨by have b_ := BK102; have f_ := NB102_116; exact zb_⟩; have n4_ : Aside0 (((w62.setCell ⟨gb116, 0, none⟩ (.int .i64 t111)).setCell ⟨gb116, 1, none⟩ (.slice Ao64 t112.length co64)).heap[gb116]? = some (.cells #[.int .i64 t111, .slice Ao64 t112.length co64] 25 (0, 0))) := ⟨by have b_ := BK116; exact zb_⟩; have n5_ : Aside0 (Below w.heap.size w ((w62.setCell ⟨gb116, 0, none⟩ (.int .i64 t111)).setCell ⟨gb116, 1, none⟩ (.slice Ao64 t112.length co64))) := ⟨hs_⟩; (try clear HO110)
   (try clear HO114)
   (try clear BK101)
   (try clear BK102)
   (try clear BK116)
   (try clear HB)
   generalize ((w62.setCell ⟨gb116, 0, none⟩ (.int .i64 t111)).setCell ⟨gb116, 1, none⟩ (.slice Ao64 t112.length co64)) = w66 at n0_ n1_ n2_ n3_ n4_ n5_ ⊢; have HO110 := n0_; have HO114 := n1_; have BK101 := n2_; have BK102 := n3_; have BK116 := n4_; have HB := n5_; clear n0_ n1_ n2_ n3_ n4_ n5_; replace HO110 := Aside0.mk (Kd.R_drew HO110.out); replace HO114 := Aside0.mk (Kd.R_drew HO114.out); replace BK101 := ad_ BK101; replace BK102 := ad_ BK102; replace BK116 := ad_ BK116; replace HB := hd_ HB; refine start_ (n := 10) (S := fun w' => w'.cell? ⟨gb101, 0, none⟩ = some (.int .i64 a0_0) ∧ w'.cell? ⟨gb101, 1, none⟩ = some (.slice A0_1 l0_1.length c0_1) ∧ w'.cell? ⟨gb102, 0, none⟩ = some (.int .i64 a1_0) ∧ w'.cell? ⟨gb102, 1, none⟩ = some (.slice A1_1 l1_1.length c1_1)) (ds := []) (bs 10 0) (by kernel_rfl) rfl rfl ⟨(blk_cell BK101.out 0).trans rfl, (blk_cell BK101.out 1).trans rfl, (blk_cell BK102.out 0).trans rfl, (blk_cell BK102.out 1).trans rfl⟩ (fun hHeld => ?_); refine with_tabW graftagelaw27_BitmapBack.tab4 graftagelaw27_BitmapBack.bits4 (fun HT_ HW_ => ?_); generalize w66.drew = w67 at HO110 HO114 BK101 BK102 BK116 HB hHeld ⊢; refine tkW4n_ 0 43 10 1 hHeld ?_; refine tkW4n_ 1 44 10 3 hHeld ?_; refine tkW4n_ 3 46 10 11 hHeld ?_; refine tkW4n_ 4 47 10 27 hHeld ?_; refine join_ (σ := Value × Value × Nat × Nat) 2 (bs 10 255) (fun s_ => [(45, .agg #[.int .i64 t117, s_.1]), (48, .agg #[.int .i64 t121, s_.2.1]), (7, .pointer (some ⟨s_.2.2.1, 0, none⟩)), (8, .pointer (some ⟨s_.2.2.2, 0, none⟩))]) (fun s_ w' => (w'.cell? ⟨gb101, 0, none⟩ = some (.int .i64 a0_0) ∧ w'.cell? ⟨gb101, 1, none⟩ = some (.slice A0_1 l0_1.length c0_1) ∧ w'.cell? ⟨gb102, 0, none⟩ = some (.int .i64 a1_0) ∧ w'.cell? ⟨gb102, 1, none⟩ = some (.slice A1_1 l1_1.length c1_1)) ∧ (Kd.R (Kd.int .i64) 3 w' w.heap.size (fun k_ => some k_ ≠ (.slice Ao64 t112.length co64 : Value).ownBlock ∧ some k_ ≠ (s_.1 : Value).ownBlock ∧ some k_ ≠ (s_.2.1 : Value).ownBlock) v109 t108) ∧ (Kd.R (Kd.int .i64) 3 w' w.heap.size (fun k_ => some k_ ≠ (v109 : Value).ownBlock ∧ some k_ ≠ (s_.1 : Value).ownBlock ∧ some k_ ≠ (s_.2.1 : Value).ownBlock) (.slice Ao64 t112.length co64) t112) ∧ (Kd.R (Kd.int .i64) 3 w' w.heap.size (fun k_ => some k_ ≠ (v109 : Value).ownBlock ∧ some k_ ≠ (.slice Ao64 t112.length co64 : Value).ownBlock ∧ some k_ ≠ (s_.2.1 : Value).ownBlock) s_.1 t118) ∧ (Kd.R (Kd.int .i64) 3 w' w.heap.size (fun k_ => some k_ ≠ (v109 : Value).ownBlock ∧ some k_ ≠ (.slice Ao64 t112.length co64 : Value).ownBlock ∧ some k_ ≠ (s_.1 : Value).ownBlock) s_.2.1 t122) ∧ (w'.heap[gb101]? = some (.cells #[.int .i64 a0_0, .slice A0_1 l0_1.length c0_1] 25 (0, 0))) ∧ (w'.heap[gb102]? = some (.cells #[.int .i64 a1_0, .slice A1_1 l1_1.length c1_1] 25 (0, 0))) ∧ (w'.heap[gb116]? = some (.cells #[.int .i64 t111, .slice Ao64 t112.length co64] 25 (0, 0))) ∧ (w'.heap[s_.2.2.1]? = some (.cells #[.int .i64 0, .slice none 0 0] 25 (0, 0))) ∧ (w'.heap[s_.2.2.2]? = some (.cells #[.int .i64 0, .slice none 0 0] 25 (0, 0))) ∧ (w.heap.size ≤ s_.2.2.1) ∧ (w.heap.size ≤ s_.2.2.1) ∧ (gb101 ≠ s_.2.2.1) ∧ (s_.2.2.1 ≠ gb101) ∧ (gb102 ≠ s_.2.2.1) ∧ (s_.2.2.1 ≠ gb102) ∧ (gb116 ≠ s_.2.2.1) ∧ (s_.2.2.1 ≠ gb116) ∧ (s_.2.2.2 ≠ s_.2.2.1) ∧ (s_.2.2.1 ≠ s_.2.2.2) ∧ (w.heap.size ≤ s_.2.2.2) ∧ (w.heap.size ≤ s_.2.2.2) ∧ (gb101 ≠ s_.2.2.2) ∧ (s_.2.2.2 ≠ gb101) ∧ (gb102 ≠ s_.2.2.2) ∧ (s_.2.2.2 ≠ gb102) ∧ (gb116 ≠ s_.2.2.2) ∧ (s_.2.2.2 ≠ gb116) ∧ (Below w.heap.size w w')) ?_ ?_
   rotate_left
   ·intro hJ2_5_6_7; refine join_ (σ := Value × Value × Nat) 3 (bs 10 127) (fun s_ => [(45, .agg #[.int .i64 t117, s_.1]), (48, .agg #[.int .i64 t121, s_.2.1]), (7, .pointer (some ⟨s_.2.2, 0, none⟩))]) (fun s_ w' => (w'.cell? ⟨gb101, 0, none⟩ = some (.int .i64 a0_0) ∧ w'.cell? ⟨gb101, 1, none⟩ = some (.slice A0_1 l0_1.length c0_1) ∧ w'.cell? ⟨gb102, 0, none⟩ = some (.int .i64 a1_0) ∧ w'.cell? ⟨gb102, 1, none⟩ = some (.slice A1_1 l1_1.length c1_1)) ∧ (Kd.R (Kd.int .i64) 3 w' w.heap.size (fun k_ => some k_ ≠ (.slice Ao64 t112.length co64 : Value).ownBlock ∧ some k_ ≠ (s_.1 : Value).ownBlock ∧ some k_ ≠ (s_.2.1 : Value).ownBlock) v109 t108) ∧ (Kd.R (Kd.int .i64) 3 w' w.heap.size (fun k_ => some k_ ≠ (v109 : Value).ownBlock ∧ some k_ ≠ (s_.1 : Value).ownBlock ∧ some k_ ≠ (s_.2.1 : Value).ownBlock) (.slice Ao64 t112.length co64) t112) ∧ (Kd.R (Kd.int .i64) 3 w' w.heap.size (fun k_ => some k_ ≠ (v109 : Value).ownBlock ∧ some k_ ≠ (.slice Ao64 t112.length co64 : Value).ownBlock ∧ some k_ ≠ (s_.2.1 : Value).ownBlock) s_.1 t118) ∧ (Kd.R (Kd.int .i64) 3 w' w.heap.size (fun k_ => some k_ ≠ (v109 : Value).ownBlock ∧ some k_ ≠ (.slice Ao64 t112.length co64 : Value).ownBlock ∧ some k_ ≠ (s_.1 : Value).ownBlock) s_.2.1 t122) ∧ (w'.heap[gb101]? = some (.cells #[.int .i64 a0_0, .slice A0_1 l0_1.length c0_1] 25 (0, 0))) ∧ (w'.heap[gb102]? = some (.cells #[.int .i64 a1_0, .slice A1_1 l1_1.length c1_1] 25 (0, 0))) ∧ (w'.heap[gb116]? = some (.cells #[.int .i64 t111, .slice Ao64 t112.length co64] 25 (0, 0))) ∧ (w'.heap[s_.2.2]? = some (.cells #[.int .i64 0, .slice none 0 0] 25 (0, 0))) ∧ (w.heap.size ≤ s_.2.2) ∧ (w.heap.size ≤ s_.2.2) ∧ (gb101 ≠ s_.2.2) ∧ (s_.2.2 ≠ gb101) ∧ (gb102 ≠ s_.2.2) ∧ (s_.2.2 ≠ gb102) ∧ (gb116 ≠ s_.2.2) ∧ (s_.2.2 ≠ gb116) ∧ (Below w.heap.size w w')) ?_ ?_; rotate_left
    ·intro hJ2_5_6; refine join_ (σ := Value × Value × Nat) 3 (bs 10 191) (fun s_ => [(45, .agg #[.int .i64 t117, s_.1]), (48, .agg #[.int .i64 t121, s_.2.1]), (8, .pointer (some ⟨s_.2.2, 0, none⟩))]) (fun s_ w' => (w'.cell? ⟨gb101, 0, none⟩ = some (.int .i64 a0_0) ∧ w'.cell? ⟨gb101, 1, none⟩ = some (.slice A0_1 l0_1.length c0_1) ∧ w'.cell? ⟨gb102, 0, none⟩ = some (.int .i64 a1_0) ∧ w'.cell? ⟨gb102, 1, none⟩ = some (.slice A1_1 l1_1.length c1_1)) ∧ (Kd.R (Kd.int .i64) 3 w' w.heap.size (fun k_ => some k_ ≠ (.slice Ao64 t112.length co64 : Value).ownBlock ∧ some k_ ≠ (s_.1 : Value).ownBlock ∧ some k_ ≠ (s_.2.1 : Value).ownBlock) v109 t108) ∧ (Kd.R (Kd.int .i64) 3 w' w.heap.size (fun k_ => some k_ ≠ (v109 : Value).ownBlock ∧ some k_ ≠ (s_.1 : Value).ownBlock ∧ some k_ ≠ (s_.2.1 : Value).ownBlock) (.slice Ao64 t112.length co64) t112) ∧ (Kd.R (Kd.int .i64) 3 w' w.heap.size (fun k_ => some k_ ≠ (v109 : Value).ownBlock ∧ some k_ ≠ (.slice Ao64 t112.length co64 : Value).ownBlock ∧ some k_ ≠ (s_.2.1 : Value).ownBlock) s_.1 t118) ∧ (Kd.R (Kd.int .i64) 3 w' w.heap.size (fun k_ => some k_ ≠ (v109 : Value).ownBlock ∧ some k_ ≠ (.slice Ao64 t112.length co64 : Value).ownBlock ∧ some k_ ≠ (s_.1 : Value).ownBlock) s_.2.1 t122) ∧ (w'.heap[gb101]? = some (.cells #[.int .i64 a0_0, .slice A0_1 l0_1.length c0_1] 25 (0, 0))) ∧ (w'.heap[gb102]? = some (.cells #[.int .i64 a1_0, .slice A1_1 l1_1.length c1_1] 25 (0, 0))) ∧ (w'.heap[gb116]? = some (.cells #[.int .i64 t111, .slice Ao64 t112.length co64] 25 (0, 0))) ∧ (w'.heap[s_.2.2]? = some (.cells #[.int .i64 0, .slice none 0 0] 25 (0, 0))) ∧ (w.heap.size ≤ s_.2.2) ∧ (w.heap.size ≤ s_.2.2) ∧ (gb101 ≠ s_.2.2) ∧ (s_.2.2 ≠ gb101) ∧ (gb102 ≠ s_.2.2) ∧ (s_.2.2 ≠ gb102) ∧ (gb116 ≠ s_.2.2) ∧ (s_.2.2 ≠ gb116) ∧ (Below w.heap.size w w')) ?_ ?_; rotate_left
     ·intro hJ2_5_7; refine join_ (σ := Value × Nat × Nat) 3 (bs 10 223) (fun s_ => [(45, .agg #[.int .i64 t117, s_.1]), (7, .pointer (some ⟨s_.2.1, 0, none⟩)), (8, .pointer (some ⟨s_.2.2, 0, none⟩))]) (fun s_ w' => (w'.cell? ⟨gb101, 0, none⟩ = some (.int .i64 a0_0) ∧ w'.cell? ⟨gb101, 1, none⟩ = some (.slice A0_1 l0_1.length c0_1) ∧ w'.cell? ⟨gb102, 0, none⟩ = some (.int .i64 a1_0) ∧ w'.cell? ⟨gb102, 1, none⟩ = some (.slice A1_1 l1_1.length c1_1)) ∧ (Kd.R (Kd.int .i64) 3 w' w.heap.size (fun k_ => some k_ ≠ (.slice Ao64 t112.length co64 : Value).ownBlock ∧ some k_ ≠ (s_.1 : Value).ownBlock) v109 t108) ∧ (Kd.R (Kd.int .i64) 3 w' w.heap.size (fun k_ => some k_ ≠ (v109 : Value).ownBlock ∧ some k_ ≠ (s_.1 : Value).ownBlock) (.slice Ao64 t112.length co64) t112) ∧ (Kd.R (Kd.int .i64) 3 w' w.heap.size (fun k_ => some k_ ≠ (v109 : Value).ownBlock ∧ some k_ ≠ (.slice Ao64 t112.length co64 : Value).ownBlock) s_.1 t118) ∧ (w'.heap[gb101]? = some (.cells #[.int .i64 a0_0, .slice A0_1 l0_1.length c0_1] 25 (0, 0))) ∧ (w'.heap[gb102]? = some (.cells #[.int .i64 a1_0, .slice A1_1 l1_1.length c1_1] 25 (0, 0))) ∧ (w'.heap[gb116]? = some (.cells #[.int .i64 t111, .slice Ao64 t112.length co64] 25 (0, 0))) ∧ (w'.heap[s_.2.1]? = some (.cells #[.int .i64 0, .slice none 0 0] 25 (0, 0))) ∧ (w'.heap[s_.2.2]? = some (.cells #[.int .i64 0, .slice none 0 0] 25 (0, 0))) ∧ (w.heap.size ≤ s_.2.1) ∧ (w.heap.size ≤ s_.2.1) ∧ (gb101 ≠ s_.2.1) ∧ (s_.2.1 ≠ gb101) ∧ (gb102 ≠ s_.2.1) ∧ (s_.2.1 ≠ gb102) ∧ (gb116 ≠ s_.2.1) ∧ (s_.2.1 ≠ gb116) ∧ (s_.2.2 ≠ s_.2.1) ∧ (s_.2.1 ≠ s_.2.2) ∧ (w.heap.size ≤ s_.2.2) ∧ (w.heap.size ≤ s_.2.2) ∧ (gb101 ≠ s_.2.2) ∧ (s_.2.2 ≠ gb101) ∧ (gb102 ≠ s_.2.2) ∧ (s_.2.2 ≠ gb102) ∧ (gb116 ≠ s_.2.2) ∧ (s_.2.2 ≠ gb116) ∧ (Below w.heap.size w w')) ?_ ?_; rotate_left
      ·intro hJ2_6_7; refine join_ (σ := Value × Value) 4 (bs 10 63) (fun s_ => [(45, .agg #[.int .i64 t117, s_.1]), (48, .agg #[.int .i64 t121, s_.2])]) (fun s_ w' => (w'.cell? ⟨gb101, 0, none⟩ = some (.int .i64 a0_0) ∧ w'.cell? ⟨gb101, 1, none⟩ = some (.slice A0_1 l0_1.length c0_1) ∧ w'.cell? ⟨gb102, 0, none⟩ = some (.int .i64 a1_0) ∧ w'.cell? ⟨gb102, 1, none⟩ = some (.slice A1_1 l1_1.length c1_1)) ∧ (Kd.R (Kd.int .i64) 3 w' w.heap.size (fun k_ => some k_ ≠ (.slice Ao64 t112.length co64 : Value).ownBlock ∧ some k_ ≠ (s_.1 : Value).ownBlock ∧ some k_ ≠ (s_.2 : Value).ownBlock) v109 t108) ∧ (Kd.R (Kd.int .i64) 3 w' w.heap.size (fun k_ => some k_ ≠ (v109 : Value).ownBlock ∧ some k_ ≠ (s_.1 : Value).ownBlock ∧ some k_ ≠ (s_.2 : Value).ownBlock) (.slice Ao64 t112.length co64) t112) ∧ (Kd.R (Kd.int .i64) 3 w' w.heap.size (fun k_ => some k_ ≠ (v109 : Value).ownBlock ∧ some k_ ≠ (.slice Ao64 t112.length co64 : Value).ownBlock ∧ some k_ ≠ (s_.2 : Value).ownBlock) s_.1 t118) ∧ (Kd.R (Kd.int .i64) 3 w' w.heap.size (fun k_ => some k_ ≠ (v109 : Value).ownBlock ∧ some k_ ≠ (.slice Ao64 t112.length co64 : Value).ownBlock ∧ some k_ ≠ (s_.1 : Value).ownBlock) s_.2 t122) ∧ (w'.heap[gb101]? = some (.cells #[.int .i64 a0_0, .slice A0_1 l0_1.length c0_1] 25 (0, 0))) ∧ (w'.heap[gb102]? = some (.cells #[.int .i64 a1_0, .slice A1_1 l1_1.length c1_1] 25 (0, 0))) ∧ (w'.heap[gb116]? = some (.cells #[.int .i64 t111, .slice Ao64 t112.length co64] 25 (0, 0))) ∧ (Below w.heap.size w w')) ?_ ?_; rotate_left
       ·intro hJ2_5; refine join_ (σ := Value × Nat) 4 (bs 10 95) (fun s_ => [(45, .agg #[.int .i64 t117, s_.1]), (7, .pointer (some ⟨s_.2, 0, none⟩))]) (fun s_ w' => (w'.cell? ⟨gb101, 0, none⟩ = some (.int .i64 a0_0) ∧ w'.cell? ⟨gb101, 1, none⟩ = some (.slice A0_1 l0_1.length c0_1) ∧ w'.cell? ⟨gb102, 0, none⟩ = some (.int .i64 a1_0) ∧ w'.cell? ⟨gb102, 1, none⟩ = some (.slice A1_1 l1_1.length c1_1)) ∧ (Kd.R (Kd.int .i64) 3 w' w.heap.size (fun k_ => some k_ ≠ (.slice Ao64 t112.length co64 : Value).ownBlock ∧ some k_ ≠ (s_.1 : Value).ownBlock) v109 t108) ∧ (Kd.R (Kd.int .i64) 3 w' w.heap.size (fun k_ => some k_ ≠ (v109 : Value).ownBlock ∧ some k_ ≠ (s_.1 : Value).ownBlock) (.slice Ao64 t112.length co64) t112) ∧ (Kd.R (Kd.int .i64) 3 w' w.heap.size (fun k_ => some k_ ≠ (v109 : Value).ownBlock ∧ some k_ ≠ (.slice Ao64 t112.length co64 : Value).ownBlock) s_.1 t118) ∧ (w'.heap[gb101]? = some (.cells #[.int .i64 a0_0, .slice A0_1 l0_1.length c0_1] 25 (0, 0))) ∧ (w'.heap[gb102]? = some (.cells #[.int .i64 a1_0, .slice A1_1 l1_1.length c1_1] 25 (0, 0))) ∧ (w'.heap[gb116]? = some (.cells #[.int .i64 t111, .slice Ao64 t112.length co64] 25 (0, 0))) ∧ (w'.heap[s_.2]? = some (.cells #[.int .i64 0, .slice none 0 0] 25 (0, 0))) ∧ (w.heap.size ≤ s_.2) ∧ (w.heap.size ≤ s_.2) ∧ (gb101 ≠ s_.2) ∧ (s_.2 ≠ gb101) ∧ (gb102 ≠ s_.2) ∧ (s_.2 ≠ gb102) ∧ (gb116 ≠ s_.2) ∧ (s_.2 ≠ gb116) ∧ (Below w.heap.size w w')) ?_ ?_; rotate_left
        ·intro hJ2_6; refine join_ (σ := Value × Nat) 4 (bs 10 159) (fun s_ => [(45, .agg #[.int .i64 t117, s_.1]), (8, .pointer (some ⟨s_.2, 0, none⟩))]) (fun s_ w' => (w'.cell? ⟨gb101, 0, none⟩ = some (.int .i64 a0_0) ∧ w'.cell? ⟨gb101, 1, none⟩ = some (.slice A0_1 l0_1.length c0_1) ∧ w'.cell? ⟨gb102, 0, none⟩ = some (.int .i64 a1_0) ∧ w'.cell? ⟨gb102, 1, none⟩ = some (.slice A1_1 l1_1.length c1_1)) ∧ (Kd.R (Kd.int .i64) 3 w' w.heap.size (fun k_ => some k_ ≠ (.slice Ao64 t112.length co64 : Value).ownBlock ∧ some k_ ≠ (s_.1 : Value).ownBlock) v109 t108) ∧ (Kd.R (Kd.int .i64) 3 w' w.heap.size (fun k_ => some k_ ≠ (v109 : Value).ownBlock ∧ some k_ ≠ (s_.1 : Value).ownBlock) (.slice Ao64 t112.length co64) t112) ∧ (Kd.R (Kd.int .i64) 3 w' w.heap.size (fun k_ => some k_ ≠ (v109 : Value).ownBlock ∧ some k_ ≠ (.slice Ao64 t112.length co64 : Value).ownBlock) s_.1 t118) ∧ (w'.heap[gb101]? = some (.cells #[.int .i64 a0_0, .slice A0_1 l0_1.length c0_1] 25 (0, 0))) ∧ (w'.heap[gb102]? = some (.cells #[.int .i64 a1_0, .slice A1_1 l1_1.length c1_1] 25 (0, 0))) ∧ (w'.heap[gb116]? = some (.cells #[.int .i64 t111, .slice Ao64 t112.length co64] 25 (0, 0))) ∧ (w'.heap[s_.2]? = some (.cells #[.int .i64 0, .slice none 0 0] 25 (0, 0))) ∧ (w.heap.size ≤ s_.2) ∧ (w.heap.size ≤ s_.2) ∧ (gb101 ≠ s_.2) ∧ (s_.2 ≠ gb101) ∧ (gb102 ≠ s_.2) ∧ (s_.2 ≠ gb102) ∧ (gb116 ≠ s_.2) ∧ (s_.2 ≠ gb116) ∧ (Below w.heap.size w w')) ?_ ?_; rotate_left
         ·intro hJ2_7; refine join_ (σ := Nat × Nat) 4 (bs 10 219) (fun s_ => [(7, .pointer (some ⟨s_.1, 0, none⟩)), (8, .pointer (some ⟨s_.2, 0, none⟩))]) (fun s_ w' => (w'.cell? ⟨gb101, 0, none⟩ = some (.int .i64 a0_0) ∧ w'.cell? ⟨gb101, 1, none⟩ = some (.slice A0_1 l0_1.length c0_1) ∧ w'.cell? ⟨gb102, 0, none⟩ = some (.int .i64 a1_0) ∧ w'.cell? ⟨gb102, 1, none⟩ = some (.slice A1_1 l1_1.length c1_1)) ∧ (Kd.R (Kd.int .i64) 3 w' w.heap.size (fun k_ => some k_ ≠ (.slice Ao64 t112.length co64 : Value).ownBlock) v109 t108) ∧ (Kd.R (Kd.int .i64) 3 w' w.heap.size (fun k_ => some k_ ≠ (v109 : Value).ownBlock) (.slice Ao64 t112.length co64) t112) ∧ (w'.heap[gb101]? = some (.cells #[.int .i64 a0_0, .slice A0_1 l0_1.length c0_1] 25 (0, 0))) ∧ (w'.heap[gb102]? = some (.cells #[.int .i64 a1_0, .slice A1_1 l1_1.length c1_1] 25 (0, 0))) ∧ (w'.heap[gb116]? = some (.cells #[.int .i64 t111, .slice Ao64 t112.length co64] 25 (0, 0))) ∧ (w'.heap[s_.1]? = some (.cells #[.int .i64 0, .slice none 0 0] 25 (0, 0))) ∧ (w'.heap[s_.2]? = some (.cells #[.int .i64 0, .slice none 0 0] 25 (0, 0))) ∧ (w.heap.size ≤ s_.1) ∧ (w.heap.size ≤ s_.1) ∧ (gb101 ≠ s_.1) ∧ (s_.1 ≠ gb101) ∧ (gb102 ≠ s_.1) ∧ (s_.1 ≠ gb102) ∧ (gb116 ≠ s_.1) ∧ (s_.1 ≠ gb116) ∧ (s_.2 ≠ s_.1) ∧ (s_.1 ≠ s_.2) ∧ (w.heap.size ≤ s_.2) ∧ (w.heap.size ≤ s_.2) ∧ (gb101 ≠ s_.2) ∧ (s_.2 ≠ gb101) ∧ (gb102 ≠ s_.2) ∧ (s_.2 ≠ gb102) ∧ (gb116 ≠ s_.2) ∧ (s_.2 ≠ gb116) ∧ (Below w.heap.size w w')) ?_ ?_; rotate_left
          ·intro hJ6_7; refine join_ (σ := Value) 5 (bs 10 31) (fun s_ => [(45, .agg #[.int .i64 t117, s_])]) (fun s_ w' => (w'.cell? ⟨gb101, 0, none⟩ = some (.int .i64 a0_0) ∧ w'.cell? ⟨gb101, 1, none⟩ = some (.slice A0_1 l0_1.length c0_1) ∧ w'.cell? ⟨gb102, 0, none⟩ = some (.int .i64 a1_0) ∧ w'.cell? ⟨gb102, 1, none⟩ = some (.slice A1_1 l1_1.length c1_1)) ∧ (Kd.R (Kd.int .i64) 3 w' w.heap.size (fun k_ => some k_ ≠ (.slice Ao64 t112.length co64 : Value).ownBlock ∧ some k_ ≠ (s_ : Value).ownBlock) v109 t108) ∧ (Kd.R (Kd.int .i64) 3 w' w.heap.size (fun k_ => some k_ ≠ (v109 : Value).ownBlock ∧ some k_ ≠ (s_ : Value).ownBlock) (.slice Ao64 t112.length co64) t112) ∧ (Kd.R (Kd.int .i64) 3 w' w.heap.size (fun k_ => some k_ ≠ (v109 : Value).ownBlock ∧ some k_ ≠ (.slice Ao64 t112.length co64 : Value).ownBlock) s_ t118) ∧ (w'.heap[gb101]? = some (.cells #[.int .i64 a0_0, .slice A0_1 l0_1.length c0_1] 25 (0, 0))) ∧ (w'.heap[gb102]? = some (.cells #[.int .i64 a1_0, .slice A1_1 l1_1.length c1_1] 25 (0, 0))) ∧ (w'.heap[gb116]? = some (.cells #[.int .i64 t111, .slice Ao64 t112.length co64] 25 (0, 0))) ∧ (Below w.heap.size w w')) ?_ ?_; rotate_left
           ·intro hJ2; refine join_ (σ := Nat) 5 (bs 10 91) (fun s_ => [(7, .pointer (some ⟨s_, 0, none⟩))]) (fun s_ w' => (w'.cell? ⟨gb101, 0, none⟩ = some (.int .i64 a0_0) ∧ w'.cell? ⟨gb101, 1, none⟩ = some (.slice A0_1 l0_1.length c0_1) ∧ w'.cell? ⟨gb102, 0, none⟩ = some (.int .i64 a1_0) ∧ w'.cell? ⟨gb102, 1, none⟩ = some (.slice A1_1 l1_1.length c1_1)) ∧ (Kd.R (Kd.int .i64) 3 w' w.heap.size (fun k_ => some k_ ≠ (.slice Ao64 t112.length co64 : Value).ownBlock) v109 t108) ∧ (Kd.R (Kd.int .i64) 3 w' w.heap.size (fun k_ => some k_ ≠ (v109 : Value).ownBlock) (.slice Ao64 t112.length co64) t112) ∧ (w'.heap[gb101]? = some (.cells #[.int .i64 a0_0, .slice A0_1 l0_1.length c0_1] 25 (0, 0))) ∧ (w'.heap[gb102]? = some (.cells #[.int .i64 a1_0, .slice A1_1 l1_1.length c1_1] 25 (0, 0))) ∧ (w'.heap[gb116]? = some (.cells #[.int .i64 t111, .slice Ao64 t112.length co64] 25 (0, 0))) ∧ (w'.heap[s_]? = some (.cells #[.int .i64 0, .slice none 0 0] 25 (0, 0))) ∧ (w.heap.size ≤ s_) ∧ (w.heap.size ≤ s_) ∧ (gb101 ≠ s_) ∧ (s_ ≠ gb101) ∧ (gb102 ≠ s_) ∧ (s_ ≠ gb102) ∧ (gb116 ≠ s_) ∧ (s_ ≠ gb116) ∧ (Below w.heap.size w w')) ?_ ?_; rotate_left
            ·intro hJ6; refine join_ (σ := Nat) 5 (bs 10 155) (fun s_ => [(8, .pointer (some ⟨s_, 0, none⟩))]) (fun s_ w' => (w'.cell? ⟨gb101, 0, none⟩ = some (.int .i64 a0_0) ∧ w'.cell? ⟨gb101, 1, none⟩ = some (.slice A0_1 l0_1.length c0_1) ∧ w'.cell? ⟨gb102, 0, none⟩ = some (.int .i64 a1_0) ∧ w'.cell? ⟨gb102, 1, none⟩ = some (.slice A1_1 l1_1.length c1_1)) ∧ (Kd.R (Kd.int .i64) 3 w' w.heap.size (fun k_ => some k_ ≠ (.slice Ao64 t112.length co64 : Value).ownBlock) v109 t108) ∧ (Kd.R (Kd.int .i64) 3 w' w.heap.size (fun k_ => some k_ ≠ (v109 : Value).ownBlock) (.slice Ao64 t112.length co64) t112) ∧ (w'.heap[gb101]? = some (.cells #[.int .i64 a0_0, .slice A0_1 l0_1.length c0_1] 25 (0, 0))) ∧ (w'.heap[gb102]? = some (.cells #[.int .i64 a1_0, .slice A1_1 l1_1.length c1_1] 25 (0, 0))) ∧ (w'.heap[gb116]? = some (.cells #[.int .i64 t111, .slice Ao64 t112.length co64] 25 (0, 0))) ∧ (w'.heap[s_]? = some (.cells #[.int .i64 0, .slice none 0 0] 25 (0, 0))) ∧ (w.heap.size ≤ s_) ∧ (w.heap.size ≤ s_) ∧ (gb101 ≠ s_) ∧ (s_ ≠ gb101) ∧ (gb102 ≠ s_) ∧ (s_ ≠ gb102) ∧ (gb116 ≠ s_) ∧ (s_ ≠ gb116) ∧ (Below w.heap.size w w')) ?_ ?_; rotate_left
             ·intro hJ7; refine three_ (i := 2) (j := 6) (k := 7) (Ni := some 45) (Nj := some 7) (Nk := some 8) (bs 10 31) (bs 10 91) (bs 10 155) rfl rfl rfl rfl rfl rfl (three_of HT_.out (by kernel_rfl)) (by decide) (by decide) (by decide) (fun K hK => ?_) (fun K hK => ?_) (fun K hK => ?_)
              ·skip
               refine goes_ Try.func17 (by kernel_rfl) rfl #[.agg #[.int .i64 a0_0, .slice A0_1 l0_1.length c0_1], .agg #[.int .i64 a1_0, .slice A1_1 l1_1.length c1_1]] (by rfl) rfl rfl z2_ ?_
               with_reducible refine (bitmap_Or.calls a0_0 _ _ l0_1 a1_0 _ _ l1_1 t117 t118 _ ?side1 ?side2 ?side3 ?side4 A54.out).mono ?_
               (case side1 => repeat (first | exact (Kd.C_below HR0_1.out HB.out) | (with_reducible refine Kd.C_alloc ?_ _) | (with_reducible refine Kd.C_drewN ?_ _) | (with_reducible refine Kd.C_drew ?_)))
               (case side2 => exact HC0_1.out)
               (case side3 => repeat (first | exact (Kd.C_below HR1_1.out HB.out) | (with_reducible refine Kd.C_alloc ?_ _) | (with_reducible refine Kd.C_drewN ?_ _) | (with_reducible refine Kd.C_drew ?_)))
               (case side4 => exact HC1_1.out)
               rintro e w68 ⟨v119, rfl, ho0, hb⟩; refine ⟨_, rfl, ?_⟩; have HO120 := Aside0.mk (Kd.R_lower (Kd.R_new' (Kd.R_new' ho0 (Kd.R_lt (rk_ HO110.out))) (Kd.R_lt (rk_ HO114.out))) (below_size (hs_))); replace HO110 := Aside0.mk (Kd.R_elder' (rk_ HO110.out) (Kd.R_base ho0) hb); replace HO114 := Aside0.mk (Kd.R_elder' (rk_ HO114.out) (Kd.R_base ho0) hb); replace BK101 := ab_ BK101 hb; replace BK102 := ab_ BK102 hb; replace BK116 := ab_ BK116 hb; replace HB := hbs_ hb; (try clear hb)
               (try clear hb2)
               (try clear hk)
               (try clear hi)
               (try clear ho0)
               refine hK.out _ _ ⟨(blk_cell BK101.out 0).trans rfl, (blk_cell BK101.out 1).trans rfl, (blk_cell BK102.out 0).trans rfl, (blk_cell BK102.out 1).trans rfl⟩ (fun hHeld => ?_); clear hK K; refine nrm_ 45 ?_
               exact norm_ z5_ (hJ2 (v119) _ ⟨hHeld, (rk_ HO110.out), (rk_ HO114.out), z9_, (bk_ BK101.out), (bk_ BK102.out), (bk_ BK116.out), (hs_)⟩)
              ·skip
               refine box_step ?hg (N := 7) ?hd (cs := #[.int .i64 0, .slice none 0 0]) (t := 25) ?hr ?_; (case hd => rfl); (case hg => rfl); (case hr => first | (go_simp; done) | (go_simp; rfl))
               intro gb125 hg w68 hbox hb; replace HO110 := Aside0.mk (Kd.R_below (rk_ HO110.out) hb); replace HO114 := Aside0.mk (Kd.R_below (rk_ HO114.out) hb); have BK125 := Aside0.mk (hbox); have GW125 := Aside0.mk ((by rw [hg]; exact (below_size (hs_)) : w.heap.size ≤ gb125)); have GE125 := Aside0.mk ((by rw [hg]; exact (below_size (hs_)) : w.heap.size ≤ gb125)); replace HB := hbs_ hb; have NB101_125 := Aside0.mk (nl2_ hg BK101.out); have NB125_101 := Aside0.mk (ng2_ hg BK101.out); replace BK101 := ab_ BK101 hb; have NB102_125 := Aside0.mk (nl2_ hg BK102.out); have NB125_102 := Aside0.mk (ng2_ hg BK102.out); replace BK102 := ab_ BK102 hb; have NB116_125 := Aside0.mk (nl2_ hg BK116.out); have NB125_116 := Aside0.mk (ng2_ hg BK116.out); replace BK116 := ab_ BK116 hb; clear hb hbox hg; refine hK.out _ _ ⟨(blk_cell BK101.out 0).trans rfl, (blk_cell BK101.out 1).trans rfl, (blk_cell BK102.out 0).trans rfl, (blk_cell BK102.out 1).trans rfl⟩ (fun hHeld => ?_); clear hK K; refine nrm_ 7 ?_
               exact norm_ z5_ (hJ6 (gb125) _ ⟨hHeld, (rk_ HO110.out), (rk_ HO114.out), (bk_ BK101.out), (bk_ BK102.out), (bk_ BK116.out), (bk_ BK125.out), GW125.out, GE125.out, NB101_125.out, NB125_101.out, NB102_125.out, NB125_102.out, NB116_125.out, NB125_116.out, (hs_)⟩)
              ·skip
               refine box_step ?hg (N := 8) ?hd (cs := #[.int .i64 0, .slice none 0 0]) (t := 25) ?hr ?_; (case hd => rfl); (case hg => rfl); (case hr => first | (go_simp; done) | (go_simp; rfl))
               intro gb126 hg w68 hbox hb; replace HO110 := Aside0.mk (Kd.R_below (rk_ HO110.out) hb); replace HO114 := Aside0.mk (Kd.R_below (rk_ HO114.out) hb); have BK126 := Aside0.mk (hbox); have GW126 := Aside0.mk ((by rw [hg]; exact (below_size (hs_)) : w.heap.size ≤ gb126)); have GE126 := Aside0.mk ((by rw [hg]; exact (below_size (hs_)) : w.heap.size ≤ gb126)); replace HB := hbs_ hb; have NB101_126 := Aside0.mk (nl2_ hg BK101.out); have NB126_101 := Aside0.mk (ng2_ hg BK101.out); replace BK101 := ab_ BK101 hb; have NB102_126 := Aside0.mk (nl2_ hg BK102.out); have NB126_102 := Aside0.mk (ng2_ hg BK102.out); replace BK102 := ab_ BK102 hb; have NB116_126 := Aside0.mk (nl2_ hg BK116.out); have NB126_116 := Aside0.mk (ng2_ hg BK116.out); replace BK116 := ab_ BK116 hb; clear hb hbox hg; refine hK.out _ _ ⟨(blk_cell BK101.out 0).trans rfl, (blk_cell BK101.out 1).trans rfl, (blk_cell BK102.out 0).trans rfl, (blk_cell BK102.out 1).trans rfl⟩ (fun hHeld => ?_); clear hK K; refine nrm_ 8 ?_
               exact norm_ z5_ (hJ7 (gb126) _ ⟨hHeld, (rk_ HO110.out), (rk_ HO114.out), (bk_ BK101.out), (bk_ BK102.out), (bk_ BK116.out), (bk_ BK126.out), GW126.out, GE126.out, NB101_126.out, NB126_101.out, NB102_126.out, NB126_102.out, NB116_126.out, NB126_116.out, (hs_)⟩)
             ·skip
              rintro gb126 w69 ⟨hS_, h0_, h1_, h2_, h3_, h4_, h5_, h6_, h7_, h8_, h9_, h10_, h11_, h12_, h13_, h14_⟩; have n0_ : Aside0 (Kd.R (Kd.int .i64) 3 w69 w.heap.size (fun k_ => some k_ ≠ (.slice Ao64 t112.length co64 : Value).ownBlock) v109 t108) := ⟨h0_⟩; have n1_ : Aside0 (Kd.R (Kd.int .i64) 3 w69 w.heap.size (fun k_ => some k_ ≠ (v109 : Value).ownBlock) (.slice Ao64 t112.length co64) t112) := ⟨h1_⟩; have n2_ : Aside0 (w69.heap[gb101]? = some (.cells #[.int .i64 a0_0, .slice A0_1 l0_1.length c0_1] 25 (0, 0))) := ⟨h2_⟩; have n3_ : Aside0 (w69.heap[gb102]? = some (.cells #[.int .i64 a1_0, .slice A1_1 l1_1.length c1_1] 25 (0, 0))) := ⟨h3_⟩; have n4_ : Aside0 (w69.heap[gb116]? = some (.cells #[.int .i64 t111, .slice Ao64 t112.length co64] 25 (0, 0))) := ⟨h4_⟩; have n5_ : Aside0 (w69.heap[gb126]? = some (.cells #[.int .i64 0, .slice none 0 0] 25 (0, 0))) := ⟨h5_⟩; have n6_ : Aside0 (w.heap.size ≤ gb126) := ⟨h6_⟩; have n7_ : Aside0 (w.heap.size ≤ gb126) := ⟨h7_⟩; have n8_ : Aside0 (gb101 ≠ gb126) := ⟨h8_⟩; have n9_ : Aside0 (gb126 ≠ gb101) := ⟨h9_⟩; have n10_ : Aside0 (gb102 ≠ gb126) := ⟨h10_⟩; have n11_ : Aside0 (gb126 ≠ gb102) := ⟨h11_⟩; have n12_ : Aside0 (gb116 ≠ gb126) := ⟨h12_⟩; have n13_ : Aside0 (gb126 ≠ gb116) := ⟨h13_⟩; have n14_ : Aside0 (Below w.heap.size w w69) := ⟨h14_⟩; clear HO110; clear HO114; clear BK101; clear BK102; clear BK116; clear HB; clear h0_ h1_ h2_ h3_ h4_ h5_ h6_ h7_ h8_ h9_ h10_ h11_ h12_ h13_ h14_; have HO110 := n0_; have HO114 := n1_; have BK101 := n2_; have BK102 := n3_; have BK116 := n4_; have BK126 := n5_; have GW126 := n6_; have GE126 := n7_; have NB101_126 := n8_; have NB126_101 := n9_; have NB102_126 := n10_; have NB126_102 := n11_; have NB116_126 := n12_; have NB126_116 := n13_; have HB := n14_; clear n0_ n1_ n2_ n3_ n4_ n5_ n6_ n7_ n8_ n9_ n10_ n11_ n12_ n13_ n14_; have hHeld : w69.cell? ⟨gb101, 0, none⟩ = some (.int .i64 a0_0) ∧ w69.cell? ⟨gb101, 1, none⟩ = some (.slice A0_1 l0_1.length c0_1) ∧ w69.cell? ⟨gb102, 0, none⟩ = some (.int .i64 a1_0) ∧ w69.cell? ⟨gb102, 1, none⟩ = some (.slice A1_1 l1_1.length c1_1) := hS_; refine norm_ (a' := ?_) ?_ ?_; rotate_left
              ·simp only [putAll, Act.put, List.setIfInBounds_toArray, List.set_cons_zero, List.set_cons_succ]; rfl
              refine two_ (i := 2) (j := 6) (Ni := some 45) (Nj := some 7) (bs 10 159) (bs 10 219) rfl rfl rfl rfl (two_of HT_.out (by kernel_rfl)) (by decide) (by decide) (fun K hK => ?_) (fun K hK => ?_)
              ·skip
               refine goes_ Try.func17 (by kernel_rfl) rfl #[.agg #[.int .i64 a0_0, .slice A0_1 l0_1.length c0_1], .agg #[.int .i64 a1_0, .slice A1_1 l1_1.length c1_1]] (by rfl) rfl rfl z2_ ?_
               with_reducible refine (bitmap_Or.calls a0_0 _ _ l0_1 a1_0 _ _ l1_1 t117 t118 _ ?side1 ?side2 ?side3 ?side4 A54.out).mono ?_
               (case side1 => repeat (first | exact (Kd.C_below HR0_1.out HB.out) | (with_reducible refine Kd.C_alloc ?_ _) | (with_reducible refine Kd.C_drewN ?_ _) | (with_reducible refine Kd.C_drew ?_)))
               (case side2 => exact HC0_1.out)
               (case side3 => repeat (first | exact (Kd.C_below HR1_1.out HB.out) | (with_reducible refine Kd.C_alloc ?_ _) | (with_reducible refine Kd.C_drewN ?_ _) | (with_reducible refine Kd.C_drew ?_)))
               (case side4 => exact HC1_1.out)
               rintro e w70 ⟨v119, rfl, ho0, hb⟩; refine ⟨_, rfl, ?_⟩; have HO120 := Aside0.mk (Kd.R_lower (Kd.R_new' (Kd.R_new' ho0 (Kd.R_lt (rk_ HO110.out))) (Kd.R_lt (rk_ HO114.out))) (below_size (hs_))); replace HO110 := Aside0.mk (Kd.R_elder' (rk_ HO110.out) (Kd.R_base ho0) hb); replace HO114 := Aside0.mk (Kd.R_elder' (rk_ HO114.out) (Kd.R_base ho0) hb); replace BK101 := ab_ BK101 hb; replace BK102 := ab_ BK102 hb; replace BK116 := ab_ BK116 hb; replace BK126 := ab_ BK126 hb; replace HB := hbs_ hb; (try clear hb)
               (try clear hb2)
               (try clear hk)
               (try clear hi)
               (try clear ho0)
               refine hK.out _ _ ⟨(blk_cell BK101.out 0).trans rfl, (blk_cell BK101.out 1).trans rfl, (blk_cell BK102.out 0).trans rfl, (blk_cell BK102.out 1).trans rfl⟩ (fun hHeld => ?_); clear hK K; refine nrm_ 45 ?_
               exact norm_ z5_ (hJ2_7 (v119, gb126) _ ⟨hHeld, (rk_ HO110.out), (rk_ HO114.out), z9_, (bk_ BK101.out), (bk_ BK102.out), (bk_ BK116.out), (bk_ BK126.out), GW126.out, GE126.out, NB101_126.out, NB126_101.out, NB102_126.out, NB126_102.out, NB116_126.out, NB126_116.out, (hs_)⟩)
              ·skip
               refine box_step ?hg (N := 7) ?hd (cs := #[.int .i64 0, .slice none 0 0]) (t := 25) ?hr ?_; (case hd => rfl); (case hg => rfl); (case hr => first | (go_simp; done) | (go_simp; rfl))
               intro gb125 hg w70 hbox hb; replace HO110 := Aside0.mk (Kd.R_below (rk_ HO110.out) hb); replace HO114 := Aside0.mk (Kd.R_below (rk_ HO114.out) hb); have BK125 := Aside0.mk (hbox); have GW125 := Aside0.mk ((by rw [hg]; exact (below_size (hs_)) : w.heap.size ≤ gb125)); have GE125 := Aside0.mk ((by rw [hg]; exact (below_size (hs_)) : w.heap.size ≤ gb125)); replace HB := hbs_ hb; have NB101_125 := Aside0.mk (nl2_ hg BK101.out); have NB125_101 := Aside0.mk (ng2_ hg BK101.out); replace BK101 := ab_ BK101 hb; have NB102_125 := Aside0.mk (nl2_ hg BK102.out); have NB125_102 := Aside0.mk (ng2_ hg BK102.out); replace BK102 := ab_ BK102 hb; have NB116_125 := Aside0.mk (nl2_ hg BK116.out); have NB125_116 := Aside0.mk (ng2_ hg BK116.out); replace BK116 := ab_ BK116 hb; have NB126_125 := Aside0.mk (nl2_ hg BK126.out); have NB125_126 := Aside0.mk (ng2_ hg BK126.out); replace BK126 := ab_ BK126 hb; clear hb hbox hg; refine hK.out _ _ ⟨(blk_cell BK101.out 0).trans rfl, (blk_cell BK101.out 1).trans rfl, (blk_cell BK102.out 0).trans rfl, (blk_cell BK102.out 1).trans rfl⟩ (fun hHeld => ?_); clear hK K; refine nrm_ 7 ?_
               exact norm_ z5_ (hJ6_7 (gb125, gb126) _ ⟨hHeld, (rk_ HO110.out), (rk_ HO114.out), (bk_ BK101.out), (bk_ BK102.out), (bk_ BK116.out), (bk_ BK125.out), (bk_ BK126.out), GW125.out, GE125.out, NB101_125.out, NB125_101.out, NB102_125.out, NB125_102.out, NB116_125.out, NB125_116.out, NB126_125.out, NB125_126.out, GW126.out, GE126.out, NB101_126.out, NB126_101.out, NB102_126.out, NB126_102.out, NB116_126.out, NB126_116.out, (hs_)⟩)
            ·skip
             rintro gb125 w69 ⟨hS_, h0_, h1_, h2_, h3_, h4_, h5_, h6_, h7_, h8_, h9_, h10_, h11_, h12_, h13_, h14_⟩; have n0_ : Aside0 (Kd.R (Kd.int .i64) 3 w69 w.heap.size (fun k_ => some k_ ≠ (.slice Ao64 t112.length co64 : Value).ownBlock) v109 t108) := ⟨h0_⟩; have n1_ : Aside0 (Kd.R (Kd.int .i64) 3 w69 w.heap.size (fun k_ => some k_ ≠ (v109 : Value).ownBlock) (.slice Ao64 t112.length co64) t112) := ⟨h1_⟩; have n2_ : Aside0 (w69.heap[gb101]? = some (.cells #[.int .i64 a0_0, .slice A0_1 l0_1.length c0_1] 25 (0, 0))) := ⟨h2_⟩; have n3_ : Aside0 (w69.heap[gb102]? = some (.cells #[.int .i64 a1_0, .slice A1_1 l1_1.length c1_1] 25 (0, 0))) := ⟨h3_⟩; have n4_ : Aside0 (w69.heap[gb116]? = some (.cells #[.int .i64 t111, .slice Ao64 t112.length co64] 25 (0, 0))) := ⟨h4_⟩; have n5_ : Aside0 (w69.heap[gb125]? = some (.cells #[.int .i64 0, .slice none 0 0] 25 (0, 0))) := ⟨h5_⟩; have n6_ : Aside0 (w.heap.size ≤ gb125) := ⟨h6_⟩; have n7_ : Aside0 (w.heap.size ≤ gb125) := ⟨h7_⟩; have n8_ : Aside0 (gb101 ≠ gb125) := ⟨h8_⟩; have n9_ : Aside0 (gb125 ≠ gb101) := ⟨h9_⟩; have n10_ : Aside0 (gb102 ≠ gb125) := ⟨h10_⟩; have n11_ : Aside0 (gb125 ≠ gb102) := ⟨h11_⟩; have n12_ : Aside0 (gb116 ≠ gb125) := ⟨h12_⟩; have n13_ : Aside0 (gb125 ≠ gb116) := ⟨h13_⟩; have n14_ : Aside0 (Below w.heap.size w w69) := ⟨h14_⟩; clear HO110; clear HO114; clear BK101; clear BK102; clear BK116; clear HB; clear h0_ h1_ h2_ h3_ h4_ h5_ h6_ h7_ h8_ h9_ h10_ h11_ h12_ h13_ h14_; have HO110 := n0_; have HO114 := n1_; have BK101 := n2_; have BK102 := n3_; have BK116 := n4_; have BK125 := n5_; have GW125 := n6_; have GE125 := n7_; have NB101_125 := n8_; have NB125_101 := n9_; have NB102_125 := n10_; have NB125_102 := n11_; have NB116_125 := n12_; have NB125_116 := n13_; have HB := n14_; clear n0_ n1_ n2_ n3_ n4_ n5_ n6_ n7_ n8_ n9_ n10_ n11_ n12_ n13_ n14_; have hHeld : w69.cell? ⟨gb101, 0, none⟩ = some (.int .i64 a0_0) ∧ w69.cell? ⟨gb101, 1, none⟩ = some (.slice A0_1 l0_1.length c0_1) ∧ w69.cell? ⟨gb102, 0, none⟩ = some (.int .i64 a1_0) ∧ w69.cell? ⟨gb102, 1, none⟩ = some (.slice A1_1 l1_1.length c1_1) := hS_; refine norm_ (a' := ?_) ?_ ?_; rotate_left
             ·simp only [putAll, Act.put, List.setIfInBounds_toArray, List.set_cons_zero, List.set_cons_succ]; rfl
             refine two_ (i := 2) (j := 7) (Ni := some 45) (Nj := some 8) (bs 10 95) (bs 10 219) rfl rfl rfl rfl (two_of HT_.out (by kernel_rfl)) (by decide) (by decide) (fun K hK => ?_) (fun K hK => ?_)
             ·skip
              refine goes_ Try.func17 (by kernel_rfl) rfl #[.agg #[.int .i64 a0_0, .slice A0_1 l0_1.length c0_1], .agg #[.int .i64 a1_0, .slice A1_1 l1_1.length c1_1]] (by rfl) rfl rfl z2_ ?_
              with_reducible refine (bitmap_Or.calls a0_0 _ _ l0_1 a1_0 _ _ l1_1 t117 t118 _ ?side1 ?side2 ?side3 ?side4 A54.out).mono ?_
              (case side1 => repeat (first | exact (Kd.C_below HR0_1.out HB.out) | (with_reducible refine Kd.C_alloc ?_ _) | (with_reducible refine Kd.C_drewN ?_ _) | (with_reducible refine Kd.C_drew ?_)))
              (case side2 => exact HC0_1.out)
              (case side3 => repeat (first | exact (Kd.C_below HR1_1.out HB.out) | (with_reducible refine Kd.C_alloc ?_ _) | (with_reducible refine Kd.C_drewN ?_ _) | (with_reducible refine Kd.C_drew ?_)))
              (case side4 => exact HC1_1.out)
              rintro e w70 ⟨v119, rfl, ho0, hb⟩; refine ⟨_, rfl, ?_⟩; have HO120 := Aside0.mk (Kd.R_lower (Kd.R_new' (Kd.R_new' ho0 (Kd.R_lt (rk_ HO110.out))) (Kd.R_lt (rk_ HO114.out))) (below_size (hs_))); replace HO110 := Aside0.mk (Kd.R_elder' (rk_ HO110.out) (Kd.R_base ho0) hb); replace HO114 := Aside0.mk (Kd.R_elder' (rk_ HO114.out) (Kd.R_base ho0) hb); replace BK101 := ab_ BK101 hb; replace BK102 := ab_ BK102 hb; replace BK116 := ab_ BK116 hb; replace BK125 := ab_ BK125 hb; replace HB := hbs_ hb; (try clear hb)
              (try clear hb2)
              (try clear hk)
              (try clear hi)
              (try clear ho0)
              refine hK.out _ _ ⟨(blk_cell BK101.out 0).trans rfl, (blk_cell BK101.out 1).trans rfl, (blk_cell BK102.out 0).trans rfl, (blk_cell BK102.out 1).trans rfl⟩ (fun hHeld => ?_); clear hK K; refine nrm_ 45 ?_
              exact norm_ z5_ (hJ2_6 (v119, gb125) _ ⟨hHeld, (rk_ HO110.out), (rk_ HO114.out), z9_, (bk_ BK101.out), (bk_ BK102.out), (bk_ BK116.out), (bk_ BK125.out), GW125.out, GE125.out, NB101_125.out, NB125_101.out, NB102_125.out, NB125_102.out, NB116_125.out, NB125_116.out, (hs_)⟩)
             ·skip
              refine box_step ?hg (N := 8) ?hd (cs := #[.int .i64 0, .slice none 0 0]) (t := 25) ?hr ?_; (case hd => rfl); (case hg => rfl); (case hr => first | (go_simp; done) | (go_simp; rfl))
              intro gb126 hg w70 hbox hb; replace HO110 := Aside0.mk (Kd.R_below (rk_ HO110.out) hb); replace HO114 := Aside0.mk (Kd.R_below (rk_ HO114.out) hb); have BK126 := Aside0.mk (hbox); have GW126 := Aside0.mk ((by rw [hg]; exact (below_size (hs_)) : w.heap.size ≤ gb126)); have GE126 := Aside0.mk ((by rw [hg]; exact (below_size (hs_)) : w.heap.size ≤ gb126)); replace HB := hbs_ hb; have NB101_126 := Aside0.mk (nl2_ hg BK101.out); have NB126_101 := Aside0.mk (ng2_ hg BK101.out); replace BK101 := ab_ BK101 hb; have NB102_126 := Aside0.mk (nl2_ hg BK102.out); have NB126_102 := Aside0.mk (ng2_ hg BK102.out); replace BK102 := ab_ BK102 hb; have NB116_126 := Aside0.mk (nl2_ hg BK116.out); have NB126_116 := Aside0.mk (ng2_ hg BK116.out); replace BK116 := ab_ BK116 hb; have NB125_126 := Aside0.mk (nl2_ hg BK125.out); have NB126_125 := Aside0.mk (ng2_ hg BK125.out); replace BK125 := ab_ BK125 hb; clear hb hbox hg; refine hK.out _ _ ⟨(blk_cell BK101.out 0).trans rfl, (blk_cell BK101.out 1).trans rfl, (blk_cell BK102.out 0).trans rfl, (blk_cell BK102.out 1).trans rfl⟩ (fun hHeld => ?_); clear hK K; refine nrm_ 8 ?_
              exact norm_ z5_ (hJ6_7 (gb125, gb126) _ ⟨hHeld, (rk_ HO110.out), (rk_ HO114.out), (bk_ BK101.out), (bk_ BK102.out), (bk_ BK116.out), (bk_ BK125.out), (bk_ BK126.out), GW125.out, GE125.out, NB101_125.out, NB125_101.out, NB102_125.out, NB125_102.out, NB116_125.out, NB125_116.out, NB126_125.out, NB125_126.out, GW126.out, GE126.out, NB101_126.out, NB126_101.out, NB102_126.out, NB126_102.out, NB116_126.out, NB126_116.out, (hs_)⟩)
           ·skip
            rintro v119 w69 ⟨hS_, h0_, h1_, h2_, h3_, h4_, h5_, h6_⟩; have n0_ : Aside0 (Kd.R (Kd.int .i64) 3 w69 w.heap.size (fun k_ => some k_ ≠ (.slice Ao64 t112.length co64 : Value).ownBlock ∧ some k_ ≠ (v119 : Value).ownBlock) v109 t108) := ⟨h0_⟩; have n1_ : Aside0 (Kd.R (Kd.int .i64) 3 w69 w.heap.size (fun k_ => some k_ ≠ (v109 : Value).ownBlock ∧ some k_ ≠ (v119 : Value).ownBlock) (.slice Ao64 t112.length co64) t112) := ⟨h1_⟩; have n2_ : Aside0 (Kd.R (Kd.int .i64) 3 w69 w.heap.size (fun k_ => some k_ ≠ (v109 : Value).ownBlock ∧ some k_ ≠ (.slice Ao64 t112.length co64 : Value).ownBlock) v119 t118) := ⟨h2_⟩; have n3_ : Aside0 (w69.heap[gb101]? = some (.cells #[.int .i64 a0_0, .slice A0_1 l0_1.length c0_1] 25 (0, 0))) := ⟨h3_⟩; have n4_ : Aside0 (w69.heap[gb102]? = some (.cells #[.int .i64 a1_0, .slice A1_1 l1_1.length c1_1] 25 (0, 0))) := ⟨h4_⟩; have n5_ : Aside0 (w69.heap[gb116]? = some (.cells #[.int .i64 t111, .slice Ao64 t112.length co64] 25 (0, 0))) := ⟨h5_⟩; have n6_ : Aside0 (Below w.heap.size w w69) := ⟨h6_⟩; clear HO110; clear HO114; clear BK101; clear BK102; clear BK116; clear HB; clear h0_ h1_ h2_ h3_ h4_ h5_ h6_; have HO110 := n0_; have HO114 := n1_; have HO120 := n2_; have BK101 := n3_; have BK102 := n4_; have BK116 := n5_; have HB := n6_; clear n0_ n1_ n2_ n3_ n4_ n5_ n6_; have hHeld : w69.cell? ⟨gb101, 0, none⟩ = some (.int .i64 a0_0) ∧ w69.cell? ⟨gb101, 1, none⟩ = some (.slice A0_1 l0_1.length c0_1) ∧ w69.cell? ⟨gb102, 0, none⟩ = some (.int .i64 a1_0) ∧ w69.cell? ⟨gb102, 1, none⟩ = some (.slice A1_1 l1_1.length c1_1) := hS_; refine norm_ (a' := ?_) ?_ ?_; rotate_left
            ·simp only [putAll, Act.put, List.setIfInBounds_toArray, List.set_cons_zero, List.set_cons_succ]; rfl
            refine three_ (i := 5) (j := 6) (k := 7) (Ni := some 48) (Nj := some 7) (Nk := some 8) (bs 10 63) (bs 10 95) (bs 10 159) rfl rfl rfl rfl rfl rfl (three_of HT_.out (by kernel_rfl)) (by decide) (by decide) (by decide) (fun K hK => ?_) (fun K hK => ?_) (fun K hK => ?_)
            ·skip
             refine goes_ Try.func19 (by kernel_rfl) rfl #[.agg #[.int .i64 a0_0, .slice A0_1 l0_1.length c0_1], .agg #[.int .i64 a1_0, .slice A1_1 l1_1.length c1_1]] (by rfl) rfl rfl z2_ ?_
             with_reducible refine (bitmap_And.calls a0_0 _ _ l0_1 a1_0 _ _ l1_1 t121 t122 _ ?side1 ?side2 ?side3 ?side4 A55.out).mono ?_
             (case side1 => repeat (first | exact (Kd.C_below HR0_1.out HB.out) | (with_reducible refine Kd.C_alloc ?_ _) | (with_reducible refine Kd.C_drewN ?_ _) | (with_reducible refine Kd.C_drew ?_)))
             (case side2 => exact HC0_1.out)
             (case side3 => repeat (first | exact (Kd.C_below HR1_1.out HB.out) | (with_reducible refine Kd.C_alloc ?_ _) | (with_reducible refine Kd.C_drewN ?_ _) | (with_reducible refine Kd.C_drew ?_)))
             (case side4 => exact HC1_1.out)
             rintro e w70 ⟨v123, rfl, ho0, hb⟩; refine ⟨_, rfl, ?_⟩; have HO124 := Aside0.mk (Kd.R_lower (Kd.R_new' (Kd.R_new' (Kd.R_new' ho0 (Kd.R_lt (rk_ HO110.out))) (Kd.R_lt (rk_ HO114.out))) (Kd.R_lt (rk_ HO120.out))) (below_size (hs_))); replace HO110 := Aside0.mk (Kd.R_elder' (rk_ HO110.out) (Kd.R_base ho0) hb); replace HO114 := Aside0.mk (Kd.R_elder' (rk_ HO114.out) (Kd.R_base ho0) hb); replace HO120 := Aside0.mk (Kd.R_elder' (rk_ HO120.out) (Kd.R_base ho0) hb); replace BK101 := ab_ BK101 hb; replace BK102 := ab_ BK102 hb; replace BK116 := ab_ BK116 hb; replace HB := hbs_ hb; (try clear hb)
             (try clear hb2)
             (try clear hk)
             (try clear hi)
             (try clear ho0)
             refine hK.out _ _ ⟨(blk_cell BK101.out 0).trans rfl, (blk_cell BK101.out 1).trans rfl, (blk_cell BK102.out 0).trans rfl, (blk_cell BK102.out 1).trans rfl⟩ (fun hHeld => ?_); clear hK K; refine nrm_ 48 ?_
             exact norm_ z5_ (hJ2_5 (v119, v123) _ ⟨hHeld, z10_, z11_, z12_, z13_, (bk_ BK101.out), (bk_ BK102.out), (bk_ BK116.out), (hs_)⟩)
            ·skip
             refine box_step ?hg (N := 7) ?hd (cs := #[.int .i64 0, .slice none 0 0]) (t := 25) ?hr ?_; (case hd => rfl); (case hg => rfl); (case hr => first | (go_simp; done) | (go_simp; rfl))
             intro gb125 hg w70 hbox hb; replace HO110 := Aside0.mk (Kd.R_below (rk_ HO110.out) hb); replace HO114 := Aside0.mk (Kd.R_below (rk_ HO114.out) hb); replace HO120 := Aside0.mk (Kd.R_below (rk_ HO120.out) hb); have BK125 := Aside0.mk (hbox); have GW125 := Aside0.mk ((by rw [hg]; exact (below_size (hs_)) : w.heap.size ≤ gb125)); have GE125 := Aside0.mk ((by rw [hg]; exact (below_size (hs_)) : w.heap.size ≤ gb125)); replace HB := hbs_ hb; have NB101_125 := Aside0.mk (nl2_ hg BK101.out); have NB125_101 := Aside0.mk (ng2_ hg BK101.out); replace BK101 := ab_ BK101 hb; have NB102_125 := Aside0.mk (nl2_ hg BK102.out); have NB125_102 := Aside0.mk (ng2_ hg BK102.out); replace BK102 := ab_ BK102 hb; have NB116_125 := Aside0.mk (nl2_ hg BK116.out); have NB125_116 := Aside0.mk (ng2_ hg BK116.out); replace BK116 := ab_ BK116 hb; clear hb hbox hg; refine hK.out _ _ ⟨(blk_cell BK101.out 0).trans rfl, (blk_cell BK101.out 1).trans rfl, (blk_cell BK102.out 0).trans rfl, (blk_cell BK102.out 1).trans rfl⟩ (fun hHeld => ?_); clear hK K; refine nrm_ 7 ?_
             exact norm_ z5_ (hJ2_6 (v119, gb125) _ ⟨hHeld, (rk_ HO110.out), (rk_ HO114.out), (rk_ HO120.out), (bk_ BK101.out), (bk_ BK102.out), (bk_ BK116.out), (bk_ BK125.out), GW125.out, GE125.out, NB101_125.out, NB125_101.out, NB102_125.out, NB125_102.out, NB116_125.out, NB125_116.out, (hs_)⟩)
            ·skip
             refine box_step ?hg (N := 8) ?hd (cs := #[.int .i64 0, .slice none 0 0]) (t := 25) ?hr ?_; (case hd => rfl); (case hg => rfl); (case hr => first | (go_simp; done) | (go_simp; rfl))
             intro gb126 hg w70 hbox hb; replace HO110 := Aside0.mk (Kd.R_below (rk_ HO110.out) hb); replace HO114 := Aside0.mk (Kd.R_below (rk_ HO114.out) hb); replace HO120 := Aside0.mk (Kd.R_below (rk_ HO120.out) hb); have BK126 := Aside0.mk (hbox); have GW126 := Aside0.mk ((by rw [hg]; exact (below_size (hs_)) : w.heap.size ≤ gb126)); have GE126 := Aside0.mk ((by rw [hg]; exact (below_size (hs_)) : w.heap.size ≤ gb126)); replace HB := hbs_ hb; have NB101_126 := Aside0.mk (nl2_ hg BK101.out); have NB126_101 := Aside0.mk (ng2_ hg BK101.out); replace BK101 := ab_ BK101 hb; have NB102_126 := Aside0.mk (nl2_ hg BK102.out); have NB126_102 := Aside0.mk (ng2_ hg BK102.out); replace BK102 := ab_ BK102 hb; have NB116_126 := Aside0.mk (nl2_ hg BK116.out); have NB126_116 := Aside0.mk (ng2_ hg BK116.out); replace BK116 := ab_ BK116 hb; clear hb hbox hg; refine hK.out _ _ ⟨(blk_cell BK101.out 0).trans rfl, (blk_cell BK101.out 1).trans rfl, (blk_cell BK102.out 0).trans rfl, (blk_cell BK102.out 1).trans rfl⟩ (fun hHeld => ?_); clear hK K; refine nrm_ 8 ?_
             exact norm_ z5_ (hJ2_7 (v119, gb126) _ ⟨hHeld, (rk_ HO110.out), (rk_ HO114.out), (rk_ HO120.out), (bk_ BK101.out), (bk_ BK102.out), (bk_ BK116.out), (bk_ BK126.out), GW126.out, GE126.out, NB101_126.out, NB126_101.out, NB102_126.out, NB126_102.out, NB116_126.out, NB126_116.out, (hs_)⟩)
          ·skip
           rintro ⟨gb125, gb126⟩ w70 ⟨hS_, h0_, h1_, h2_, h3_, h4_, h5_, h6_, h7_, h8_, h9_, h10_, h11_, h12_, h13_, h14_, h15_, h16_, h17_, h18_, h19_, h20_, h21_, h22_, h23_, h24_, h25_⟩; have n0_ : Aside0 (Kd.R (Kd.int .i64) 3 w70 w.heap.size (fun k_ => some k_ ≠ (.slice Ao64 t112.length co64 : Value).ownBlock) v109 t108) := ⟨h0_⟩; have n1_ : Aside0 (Kd.R (Kd.int .i64) 3 w70 w.heap.size (fun k_ => some k_ ≠ (v109 : Value).ownBlock) (.slice Ao64 t112.length co64) t112) := ⟨h1_⟩; have n2_ : Aside0 (w70.heap[gb101]? = some (.cells #[.int .i64 a0_0, .slice A0_1 l0_1.length c0_1] 25 (0, 0))) := ⟨h2_⟩; have n3_ : Aside0 (w70.heap[gb102]? = some (.cells #[.int .i64 a1_0, .slice A1_1 l1_1.length c1_1] 25 (0, 0))) := ⟨h3_⟩; have n4_ : Aside0 (w70.heap[gb116]? = some (.cells #[.int .i64 t111, .slice Ao64 t112.length co64] 25 (0, 0))) := ⟨h4_⟩; have n5_ : Aside0 (w70.heap[gb125]? = some (.cells #[.int .i64 0, .slice none 0 0] 25 (0, 0))) := ⟨h5_⟩; have n6_ : Aside0 (w70.heap[gb126]? = some (.cells #[.int .i64 0, .slice none 0 0] 25 (0, 0))) := ⟨h6_⟩; have n7_ : Aside0 (w.heap.size ≤ gb125) := ⟨h7_⟩; have n8_ : Aside0 (w.heap.size ≤ gb125) := ⟨h8_⟩; have n9_ : Aside0 (gb101 ≠ gb125) := ⟨h9_⟩; have n10_ : Aside0 (gb125 ≠ gb101) := ⟨h10_⟩; have n11_ : Aside0 (gb102 ≠ gb125) := ⟨h11_⟩; have n12_ : Aside0 (gb125 ≠ gb102) := ⟨h12_⟩; have n13_ : Aside0 (gb116 ≠ gb125) := ⟨h13_⟩; have n14_ : Aside0 (gb125 ≠ gb116) := ⟨h14_⟩; have n15_ : Aside0 (gb126 ≠ gb125) := ⟨h15_⟩; have n16_ : Aside0 (gb125 ≠ gb126) := ⟨h16_⟩; have n17_ : Aside0 (w.heap.size ≤ gb126) := ⟨h17_⟩; have n18_ : Aside0 (w.heap.size ≤ gb126) := ⟨h18_⟩; have n19_ : Aside0 (gb101 ≠ gb126) := ⟨h19_⟩; have n20_ : Aside0 (gb126 ≠ gb101) := ⟨h20_⟩; have n21_ : Aside0 (gb102 ≠ gb126) := ⟨h21_⟩; have n22_ : Aside0 (gb126 ≠ gb102) := ⟨h22_⟩; have n23_ : Aside0 (gb116 ≠ gb126) := ⟨h23_⟩; have n24_ : Aside0 (gb126 ≠ gb116) := ⟨h24_⟩; have n25_ : Aside0 (Below w.heap.size w w70) := ⟨h25_⟩; clear HO110; clear HO114; clear BK101; clear BK102; clear BK116; clear HB; clear h0_ h1_ h2_ h3_ h4_ h5_ h6_ h7_ h8_ h9_ h10_ h11_ h12_ h13_ h14_ h15_ h16_ h17_ h18_ h19_ h20_ h21_ h22_ h23_ h24_ h25_; have HO110 := n0_; have HO114 := n1_; have BK101 := n2_; have BK102 := n3_; have BK116 := n4_; have BK125 := n5_; have BK126 := n6_; have GW125 := n7_; have GE125 := n8_; have NB101_125 := n9_; have NB125_101 := n10_; have NB102_125 := n11_; have NB125_102 := n12_; have NB116_125 := n13_; have NB125_116 := n14_; have NB126_125 := n15_; have NB125_126 := n16_; have GW126 := n17_; have GE126 := n18_; have NB101_126 := n19_; have NB126_101 := n20_; have NB102_126 := n21_; have NB126_102 := n22_; have NB116_126 := n23_; have NB126_116 := n24_; have HB := n25_; clear n0_ n1_ n2_ n3_ n4_ n5_ n6_ n7_ n8_ n9_ n10_ n11_ n12_ n13_ n14_ n15_ n16_ n17_ n18_ n19_ n20_ n21_ n22_ n23_ n24_ n25_; have hHeld : w70.cell? ⟨gb101, 0, none⟩ = some (.int .i64 a0_0) ∧ w70.cell? ⟨gb101, 1, none⟩ = some (.slice A0_1 l0_1.length c0_1) ∧ w70.cell? ⟨gb102, 0, none⟩ = some (.int .i64 a1_0) ∧ w70.cell? ⟨gb102, 1, none⟩ = some (.slice A1_1 l1_1.length c1_1) := hS_
           refine norm_ (a' := ?_) ?_ ?_; rotate_left
           ·simp only [putAll, Act.put, List.setIfInBounds_toArray, List.set_cons_zero, List.set_cons_succ]; rfl
           refine on_ 2 45 10 223 (fun K hK => ?_); refine goes_ Try.func17 (by kernel_rfl) rfl #[.agg #[.int .i64 a0_0, .slice A0_1 l0_1.length c0_1], .agg #[.int .i64 a1_0, .slice A1_1 l1_1.length c1_1]] (by rfl) rfl rfl z2_ ?_
           with_reducible refine (bitmap_Or.calls a0_0 _ _ l0_1 a1_0 _ _ l1_1 t117 t118 _ ?side1 ?side2 ?side3 ?side4 A54.out).mono ?_
           (case side1 => repeat (first | exact (Kd.C_below HR0_1.out HB.out) | (with_reducible refine Kd.C_alloc ?_ _) | (with_reducible refine Kd.C_drewN ?_ _) | (with_reducible refine Kd.C_drew ?_)))
           (case side2 => exact HC0_1.out)
           (case side3 => repeat (first | exact (Kd.C_below HR1_1.out HB.out) | (with_reducible refine Kd.C_alloc ?_ _) | (with_reducible refine Kd.C_drewN ?_ _) | (with_reducible refine Kd.C_drew ?_)))
           (case side4 => exact HC1_1.out)
           rintro e w71 ⟨v119, rfl, ho0, hb⟩; refine ⟨_, rfl, ?_⟩; have HO120 := Aside0.mk (Kd.R_lower (Kd.R_new' (Kd.R_new' ho0 (Kd.R_lt (rk_ HO110.out))) (Kd.R_lt (rk_ HO114.out))) (below_size (hs_))); replace HO110 := Aside0.mk (Kd.R_elder' (rk_ HO110.out) (Kd.R_base ho0) hb); replace HO114 := Aside0.mk (Kd.R_elder' (rk_ HO114.out) (Kd.R_base ho0) hb); replace BK101 := ab_ BK101 hb; replace BK102 := ab_ BK102 hb; replace BK116 := ab_ BK116 hb; replace BK125 := ab_ BK125 hb; replace BK126 := ab_ BK126 hb; replace HB := hbs_ hb; (try clear hb)
           (try clear hb2)
           (try clear hk)
           (try clear hi)
           (try clear ho0)
           refine hK.out _ _ ⟨(blk_cell BK101.out 0).trans rfl, (blk_cell BK101.out 1).trans rfl, (blk_cell BK102.out 0).trans rfl, (blk_cell BK102.out 1).trans rfl⟩ (fun hHeld => ?_); clear hK K; refine nrm_ 45 ?_
           exact norm_ z5_ (hJ2_6_7 (v119, gb125, gb126) _ ⟨hHeld, (rk_ HO110.out), (rk_ HO114.out), z9_, (bk_ BK101.out), (bk_ BK102.out), (bk_ BK116.out), (bk_ BK125.out), (bk_ BK126.out), GW125.out, GE125.out, NB101_125.out, NB125_101.out, NB102_125.out, NB125_102.out, NB116_125.out, NB125_116.out, NB126_125.out, NB125_126.out, GW126.out, GE126.out, NB101_126.out, NB126_101.out, NB102_126.out, NB126_102.out, NB116_126.out, NB126_116.out, (hs_)⟩)
         ·skip
          rintro ⟨v119, gb126⟩ w70 ⟨hS_, h0_, h1_, h2_, h3_, h4_, h5_, h6_, h7_, h8_, h9_, h10_, h11_, h12_, h13_, h14_, h15_⟩; have n0_ : Aside0 (Kd.R (Kd.int .i64) 3 w70 w.heap.size (fun k_ => some k_ ≠ (.slice Ao64 t112.length co64 : Value).ownBlock ∧ some k_ ≠ (v119 : Value).ownBlock) v109 t108) := ⟨h0_⟩; have n1_ : Aside0 (Kd.R (Kd.int .i64) 3 w70 w.heap.size (fun k_ => some k_ ≠ (v109 : Value).ownBlock ∧ some k_ ≠ (v119 : Value).ownBlock) (.slice Ao64 t112.length co64) t112) := ⟨h1_⟩; have n2_ : Aside0 (Kd.R (Kd.int .i64) 3 w70 w.heap.size (fun k_ => some k_ ≠ (v109 : Value).ownBlock ∧ some k_ ≠ (.slice Ao64 t112.length co64 : Value).ownBlock) v119 t118) := ⟨h2_⟩; have n3_ : Aside0 (w70.heap[gb101]? = some (.cells #[.int .i64 a0_0, .slice A0_1 l0_1.length c0_1] 25 (0, 0))) := ⟨h3_⟩; have n4_ : Aside0 (w70.heap[gb102]? = some (.cells #[.int .i64 a1_0, .slice A1_1 l1_1.length c1_1] 25 (0, 0))) := ⟨h4_⟩; have n5_ : Aside0 (w70.heap[gb116]? = some (.cells #[.int .i64 t111, .slice Ao64 t112.length co64] 25 (0, 0))) := ⟨h5_⟩; have n6_ : Aside0 (w70.heap[gb126]? = some (.cells #[.int .i64 0, .slice none 0 0] 25 (0, 0))) := ⟨h6_⟩; have n7_ : Aside0 (w.heap.size ≤ gb126) := ⟨h7_⟩; have n8_ : Aside0 (w.heap.size ≤ gb126) := ⟨h8_⟩; have n9_ : Aside0 (gb101 ≠ gb126) := ⟨h9_⟩; have n10_ : Aside0 (gb126 ≠ gb101) := ⟨h10_⟩; have n11_ : Aside0 (gb102 ≠ gb126) := ⟨h11_⟩; have n12_ : Aside0 (gb126 ≠ gb102) := ⟨h12_⟩; have n13_ : Aside0 (gb116 ≠ gb126) := ⟨h13_⟩; have n14_ : Aside0 (gb126 ≠ gb116) := ⟨h14_⟩; have n15_ : Aside0 (Below w.heap.size w w70) := ⟨h15_⟩; clear HO110; clear HO114; clear BK101; clear BK102; clear BK116; clear HB; clear h0_ h1_ h2_ h3_ h4_ h5_ h6_ h7_ h8_ h9_ h10_ h11_ h12_ h13_ h14_ h15_; have HO110 := n0_; have HO114 := n1_; have HO120 := n2_; have BK101 := n3_; have BK102 := n4_; have BK116 := n5_; have BK126 := n6_; have GW126 := n7_; have GE126 := n8_; have NB101_126 := n9_; have NB126_101 := n10_; have NB102_126 := n11_; have NB126_102 := n12_; have NB116_126 := n13_; have NB126_116 := n14_; have HB := n15_; clear n0_ n1_ n2_ n3_ n4_ n5_ n6_ n7_ n8_ n9_ n10_ n11_ n12_ n13_ n14_ n15_; have hHeld : w70.cell? ⟨gb101, 0, none⟩ = some (.int .i64 a0_0) ∧ w70.cell? ⟨gb101, 1, none⟩ = some (.slice A0_1 l0_1.length c0_1) ∧ w70.cell? ⟨gb102, 0, none⟩ = some (.int .i64 a1_0) ∧ w70.cell? ⟨gb102, 1, none⟩ = some (.slice A1_1 l1_1.length c1_1) := hS_; refine norm_ (a' := ?_) ?_ ?_; rotate_left
          ·simp only [putAll, Act.put, List.setIfInBounds_toArray, List.set_cons_zero, List.set_cons_succ]; rfl
          refine two_ (i := 5) (j := 6) (Ni := some 48) (Nj := some 7) (bs 10 191) (bs 10 223) rfl rfl rfl rfl (two_of HT_.out (by kernel_rfl)) (by decide) (by decide) (fun K hK => ?_) (fun K hK => ?_)
          ·skip
           refine goes_ Try.func19 (by kernel_rfl) rfl #[.agg #[.int .i64 a0_0, .slice A0_1 l0_1.length c0_1], .agg #[.int .i64 a1_0, .slice A1_1 l1_1.length c1_1]] (by rfl) rfl rfl z2_ ?_
           with_reducible refine (bitmap_And.calls a0_0 _ _ l0_1 a1_0 _ _ l1_1 t121 t122 _ ?side1 ?side2 ?side3 ?side4 A55.out).mono ?_
           (case side1 => repeat (first | exact (Kd.C_below HR0_1.out HB.out) | (with_reducible refine Kd.C_alloc ?_ _) | (with_reducible refine Kd.C_drewN ?_ _) | (with_reducible refine Kd.C_drew ?_)))
           (case side2 => exact HC0_1.out)
           (case side3 => repeat (first | exact (Kd.C_below HR1_1.out HB.out) | (with_reducible refine Kd.C_alloc ?_ _) | (with_reducible refine Kd.C_drewN ?_ _) | (with_reducible refine Kd.C_drew ?_)))
           (case side4 => exact HC1_1.out)
           rintro e w71 ⟨v123, rfl, ho0, hb⟩; refine ⟨_, rfl, ?_⟩; have HO124 := Aside0.mk (Kd.R_lower (Kd.R_new' (Kd.R_new' (Kd.R_new' ho0 (Kd.R_lt (rk_ HO110.out))) (Kd.R_lt (rk_ HO114.out))) (Kd.R_lt (rk_ HO120.out))) (below_size (hs_))); replace HO110 := Aside0.mk (Kd.R_elder' (rk_ HO110.out) (Kd.R_base ho0) hb); replace HO114 := Aside0.mk (Kd.R_elder' (rk_ HO114.out) (Kd.R_base ho0) hb); replace HO120 := Aside0.mk (Kd.R_elder' (rk_ HO120.out) (Kd.R_base ho0) hb); replace BK101 := ab_ BK101 hb; replace BK102 := ab_ BK102 hb; replace BK116 := ab_ BK116 hb; replace BK126 := ab_ BK126 hb; replace HB := hbs_ hb; (try clear hb)
           (try clear hb2)
           (try clear hk)
           (try clear hi)
           (try clear ho0)
           refine hK.out _ _ ⟨(blk_cell BK101.out 0).trans rfl, (blk_cell BK101.out 1).trans rfl, (blk_cell BK102.out 0).trans rfl, (blk_cell BK102.out 1).trans rfl⟩ (fun hHeld => ?_); clear hK K; refine nrm_ 48 ?_
           exact norm_ z5_ (hJ2_5_7 (v119, v123, gb126) _ ⟨hHeld, z10_, z11_, z12_, z13_, (bk_ BK101.out), (bk_ BK102.out), (bk_ BK116.out), (bk_ BK126.out), GW126.out, GE126.out, NB101_126.out, NB126_101.out, NB102_126.out, NB126_102.out, NB116_126.out, NB126_116.out, (hs_)⟩)
          ·skip
           refine box_step ?hg (N := 7) ?hd (cs := #[.int .i64 0, .slice none 0 0]) (t := 25) ?hr ?_; (case hd => rfl); (case hg => rfl); (case hr => first | (go_simp; done) | (go_simp; rfl))
           intro gb125 hg w71 hbox hb; replace HO110 := Aside0.mk (Kd.R_below (rk_ HO110.out) hb); replace HO114 := Aside0.mk (Kd.R_below (rk_ HO114.out) hb); replace HO120 := Aside0.mk (Kd.R_below (rk_ HO120.out) hb); have BK125 := Aside0.mk (hbox); have GW125 := Aside0.mk ((by rw [hg]; exact (below_size (hs_)) : w.heap.size ≤ gb125)); have GE125 := Aside0.mk ((by rw [hg]; exact (below_size (hs_)) : w.heap.size ≤ gb125)); replace HB := hbs_ hb; have NB101_125 := Aside0.mk (nl2_ hg BK101.out); have NB125_101 := Aside0.mk (ng2_ hg BK101.out); replace BK101 := ab_ BK101 hb; have NB102_125 := Aside0.mk (nl2_ hg BK102.out); have NB125_102 := Aside0.mk (ng2_ hg BK102.out); replace BK102 := ab_ BK102 hb; have NB116_125 := Aside0.mk (nl2_ hg BK116.out); have NB125_116 := Aside0.mk (ng2_ hg BK116.out); replace BK116 := ab_ BK116 hb; have NB126_125 := Aside0.mk (nl2_ hg BK126.out); have NB125_126 := Aside0.mk (ng2_ hg BK126.out); replace BK126 := ab_ BK126 hb; clear hb hbox hg; refine hK.out _ _ ⟨(blk_cell BK101.out 0).trans rfl, (blk_cell BK101.out 1).trans rfl, (blk_cell BK102.out 0).trans rfl, (blk_cell BK102.out 1).trans rfl⟩ (fun hHeld => ?_); clear hK K; refine nrm_ 7 ?_
           exact norm_ z5_ (hJ2_6_7 (v119, gb125, gb126) _ ⟨hHeld, (rk_ HO110.out), (rk_ HO114.out), (rk_ HO120.out), (bk_ BK101.out), (bk_ BK102.out), (bk_ BK116.out), (bk_ BK125.out), (bk_ BK126.out), GW125.out, GE125.out, NB101_125.out, NB125_101.out, NB102_125.out, NB125_102.out, NB116_125.out, NB125_116.out, NB126_125.out, NB125_126.out, GW126.out, GE126.out, NB101_126.out, NB126_101.out, NB102_126.out, NB126_102.out, NB116_126.out, NB126_116.out, (hs_)⟩)
        ·skip
         rintro ⟨v119, gb125⟩ w70 ⟨hS_, h0_, h1_, h2_, h3_, h4_, h5_, h6_, h7_, h8_, h9_, h10_, h11_, h12_, h13_, h14_, h15_⟩; have n0_ : Aside0 (Kd.R (Kd.int .i64) 3 w70 w.heap.size (fun k_ => some k_ ≠ (.slice Ao64 t112.length co64 : Value).ownBlock ∧ some k_ ≠ (v119 : Value).ownBlock) v109 t108) := ⟨h0_⟩; have n1_ : Aside0 (Kd.R (Kd.int .i64) 3 w70 w.heap.size (fun k_ => some k_ ≠ (v109 : Value).ownBlock ∧ some k_ ≠ (v119 : Value).ownBlock) (.slice Ao64 t112.length co64) t112) := ⟨h1_⟩; have n2_ : Aside0 (Kd.R (Kd.int .i64) 3 w70 w.heap.size (fun k_ => some k_ ≠ (v109 : Value).ownBlock ∧ some k_ ≠ (.slice Ao64 t112.length co64 : Value).ownBlock) v119 t118) := ⟨h2_⟩; have n3_ : Aside0 (w70.heap[gb101]? = some (.cells #[.int .i64 a0_0, .slice A0_1 l0_1.length c0_1] 25 (0, 0))) := ⟨h3_⟩; have n4_ : Aside0 (w70.heap[gb102]? = some (.cells #[.int .i64 a1_0, .slice A1_1 l1_1.length c1_1] 25 (0, 0))) := ⟨h4_⟩; have n5_ : Aside0 (w70.heap[gb116]? = some (.cells #[.int .i64 t111, .slice Ao64 t112.length co64] 25 (0, 0))) := ⟨h5_⟩; have n6_ : Aside0 (w70.heap[gb125]? = some (.cells #[.int .i64 0, .slice none 0 0] 25 (0, 0))) := ⟨h6_⟩; have n7_ : Aside0 (w.heap.size ≤ gb125) := ⟨h7_⟩; have n8_ : Aside0 (w.heap.size ≤ gb125) := ⟨h8_⟩; have n9_ : Aside0 (gb101 ≠ gb125) := ⟨h9_⟩; have n10_ : Aside0 (gb125 ≠ gb101) := ⟨h10_⟩; have n11_ : Aside0 (gb102 ≠ gb125) := ⟨h11_⟩; have n12_ : Aside0 (gb125 ≠ gb102) := ⟨h12_⟩; have n13_ : Aside0 (gb116 ≠ gb125) := ⟨h13_⟩; have n14_ : Aside0 (gb125 ≠ gb116) := ⟨h14_⟩; have n15_ : Aside0 (Below w.heap.size w w70) := ⟨h15_⟩; clear HO110; clear HO114; clear BK101; clear BK102; clear BK116; clear HB; clear h0_ h1_ h2_ h3_ h4_ h5_ h6_ h7_ h8_ h9_ h10_ h11_ h12_ h13_ h14_ h15_; have HO110 := n0_; have HO114 := n1_; have HO120 := n2_; have BK101 := n3_; have BK102 := n4_; have BK116 := n5_; have BK125 := n6_; have GW125 := n7_; have GE125 := n8_; have NB101_125 := n9_; have NB125_101 := n10_; have NB102_125 := n11_; have NB125_102 := n12_; have NB116_125 := n13_; have NB125_116 := n14_; have HB := n15_; clear n0_ n1_ n2_ n3_ n4_ n5_ n6_ n7_ n8_ n9_ n10_ n11_ n12_ n13_ n14_ n15_; have hHeld : w70.cell? ⟨gb101, 0, none⟩ = some (.int .i64 a0_0) ∧ w70.cell? ⟨gb101, 1, none⟩ = some (.slice A0_1 l0_1.length c0_1) ∧ w70.cell? ⟨gb102, 0, none⟩ = some (.int .i64 a1_0) ∧ w70.cell? ⟨gb102, 1, none⟩ = some (.slice A1_1 l1_1.length c1_1) := hS_; refine norm_ (a' := ?_) ?_ ?_; rotate_left
         ·simp only [putAll, Act.put, List.setIfInBounds_toArray, List.set_cons_zero, List.set_cons_succ]; rfl
         refine two_ (i := 5) (j := 7) (Ni := some 48) (Nj := some 8) (bs 10 127) (bs 10 223) rfl rfl rfl rfl (two_of HT_.out (by kernel_rfl)) (by decide) (by decide) (fun K hK => ?_) (fun K hK => ?_)
         ·skip
          refine goes_ Try.func19 (by kernel_rfl) rfl #[.agg #[.int .i64 a0_0, .slice A0_1 l0_1.length c0_1], .agg #[.int .i64 a1_0, .slice A1_1 l1_1.length c1_1]] (by rfl) rfl rfl z2_ ?_
          with_reducible refine (bitmap_And.calls a0_0 _ _ l0_1 a1_0 _ _ l1_1 t121 t122 _ ?side1 ?side2 ?side3 ?side4 A55.out).mono ?_
          (case side1 => repeat (first | exact (Kd.C_below HR0_1.out HB.out) | (with_reducible refine Kd.C_alloc ?_ _) | (with_reducible refine Kd.C_drewN ?_ _) | (with_reducible refine Kd.C_drew ?_)))
          (case side2 => exact HC0_1.out)
          (case side3 => repeat (first | exact (Kd.C_below HR1_1.out HB.out) | (with_reducible refine Kd.C_alloc ?_ _) | (with_reducible refine Kd.C_drewN ?_ _) | (with_reducible refine Kd.C_drew ?_)))
          (case side4 => exact HC1_1.out)
          rintro e w71 ⟨v123, rfl, ho0, hb⟩; refine ⟨_, rfl, ?_⟩; have HO124 := Aside0.mk (Kd.R_lower (Kd.R_new' (Kd.R_new' (Kd.R_new' ho0 (Kd.R_lt (rk_ HO110.out))) (Kd.R_lt (rk_ HO114.out))) (Kd.R_lt (rk_ HO120.out))) (below_size (hs_))); replace HO110 := Aside0.mk (Kd.R_elder' (rk_ HO110.out) (Kd.R_base ho0) hb); replace HO114 := Aside0.mk (Kd.R_elder' (rk_ HO114.out) (Kd.R_base ho0) hb); replace HO120 := Aside0.mk (Kd.R_elder' (rk_ HO120.out) (Kd.R_base ho0) hb); replace BK101 := ab_ BK101 hb; replace BK102 := ab_ BK102 hb; replace BK116 := ab_ BK116 hb; replace BK125 := ab_ BK125 hb; replace HB := hbs_ hb; (try clear hb)
          (try clear hb2)
          (try clear hk)
          (try clear hi)
          (try clear ho0)
          refine hK.out _ _ ⟨(blk_cell BK101.out 0).trans rfl, (blk_cell BK101.out 1).trans rfl, (blk_cell BK102.out 0).trans rfl, (blk_cell BK102.out 1).trans rfl⟩ (fun hHeld => ?_); clear hK K; refine nrm_ 48 ?_
          exact norm_ z5_ (hJ2_5_6 (v119, v123, gb125) _ ⟨hHeld, z10_, z11_, z12_, z13_, (bk_ BK101.out), (bk_ BK102.out), (bk_ BK116.out), (bk_ BK125.out), GW125.out, GE125.out, NB101_125.out, NB125_101.out, NB102_125.out, NB125_102.out, NB116_125.out, NB125_116.out, (hs_)⟩)
         ·skip
          refine box_step ?hg (N := 8) ?hd (cs := #[.int .i64 0, .slice none 0 0]) (t := 25) ?hr ?_; (case hd => rfl); (case hg => rfl); (case hr => first | (go_simp; done) | (go_simp; rfl))
          intro gb126 hg w71 hbox hb; replace HO110 := Aside0.mk (Kd.R_below (rk_ HO110.out) hb); replace HO114 := Aside0.mk (Kd.R_below (rk_ HO114.out) hb); replace HO120 := Aside0.mk (Kd.R_below (rk_ HO120.out) hb); have BK126 := Aside0.mk (hbox); have GW126 := Aside0.mk ((by rw [hg]; exact (below_size (hs_)) : w.heap.size ≤ gb126)); have GE126 := Aside0.mk ((by rw [hg]; exact (below_size (hs_)) : w.heap.size ≤ gb126)); replace HB := hbs_ hb; have NB101_126 := Aside0.mk (nl2_ hg BK101.out); have NB126_101 := Aside0.mk (ng2_ hg BK101.out); replace BK101 := ab_ BK101 hb; have NB102_126 := Aside0.mk (nl2_ hg BK102.out); have NB126_102 := Aside0.mk (ng2_ hg BK102.out); replace BK102 := ab_ BK102 hb; have NB116_126 := Aside0.mk (nl2_ hg BK116.out); have NB126_116 := Aside0.mk (ng2_ hg BK116.out); replace BK116 := ab_ BK116 hb; have NB125_126 := Aside0.mk (nl2_ hg BK125.out); have NB126_125 := Aside0.mk (ng2_ hg BK125.out); replace BK125 := ab_ BK125 hb; clear hb hbox hg; refine hK.out _ _ ⟨(blk_cell BK101.out 0).trans rfl, (blk_cell BK101.out 1).trans rfl, (blk_cell BK102.out 0).trans rfl, (blk_cell BK102.out 1).trans rfl⟩ (fun hHeld => ?_); clear hK K; refine nrm_ 8 ?_
          exact norm_ z5_ (hJ2_6_7 (v119, gb125, gb126) _ ⟨hHeld, (rk_ HO110.out), (rk_ HO114.out), (rk_ HO120.out), (bk_ BK101.out), (bk_ BK102.out), (bk_ BK116.out), (bk_ BK125.out), (bk_ BK126.out), GW125.out, GE125.out, NB101_125.out, NB125_101.out, NB102_125.out, NB125_102.out, NB116_125.out, NB125_116.out, NB126_125.out, NB125_126.out, GW126.out, GE126.out, NB101_126.out, NB126_101.out, NB102_126.out, NB126_102.out, NB116_126.out, NB126_116.out, (hs_)⟩)
       ·skip
        rintro ⟨v119, v123⟩ w70 ⟨hS_, h0_, h1_, h2_, h3_, h4_, h5_, h6_, h7_⟩; have n0_ : Aside0 (Kd.R (Kd.int .i64) 3 w70 w.heap.size (fun k_ => some k_ ≠ (.slice Ao64 t112.length co64 : Value).ownBlock ∧ some k_ ≠ (v119 : Value).ownBlock ∧ some k_ ≠ (v123 : Value).ownBlock) v109 t108) := ⟨h0_⟩; have n1_ : Aside0 (Kd.R (Kd.int .i64) 3 w70 w.heap.size (fun k_ => some k_ ≠ (v109 : Value).ownBlock ∧ some k_ ≠ (v119 : Value).ownBlock ∧ some k_ ≠ (v123 : Value).ownBlock) (.slice Ao64 t112.length co64) t112) := ⟨h1_⟩; have n2_ : Aside0 (Kd.R (Kd.int .i64) 3 w70 w.heap.size (fun k_ => some k_ ≠ (v109 : Value).ownBlock ∧ some k_ ≠ (.slice Ao64 t112.length co64 : Value).ownBlock ∧ some k_ ≠ (v123 : Value).ownBlock) v119 t118) := ⟨h2_⟩; have n3_ : Aside0 (Kd.R (Kd.int .i64) 3 w70 w.heap.size (fun k_ => some k_ ≠ (v109 : Value).ownBlock ∧ some k_ ≠ (.slice Ao64 t112.length co64 : Value).ownBlock ∧ some k_ ≠ (v119 : Value).ownBlock) v123 t122) := ⟨h3_⟩; have n4_ : Aside0 (w70.heap[gb101]? = some (.cells #[.int .i64 a0_0, .slice A0_1 l0_1.length c0_1] 25 (0, 0))) := ⟨h4_⟩; have n5_ : Aside0 (w70.heap[gb102]? = some (.cells #[.int .i64 a1_0, .slice A1_1 l1_1.length c1_1] 25 (0, 0))) := ⟨h5_⟩; have n6_ : Aside0 (w70.heap[gb116]? = some (.cells #[.int .i64 t111, .slice Ao64 t112.length co64] 25 (0, 0))) := ⟨h6_⟩; have n7_ : Aside0 (Below w.heap.size w w70) := ⟨h7_⟩; clear HO110; clear HO114; clear BK101; clear BK102; clear BK116; clear HB; clear h0_ h1_ h2_ h3_ h4_ h5_ h6_ h7_; have HO110 := n0_; have HO114 := n1_; have HO120 := n2_; have HO124 := n3_; have BK101 := n4_; have BK102 := n5_; have BK116 := n6_; have HB := n7_; clear n0_ n1_ n2_ n3_ n4_ n5_ n6_ n7_; have hHeld : w70.cell? ⟨gb101, 0, none⟩ = some (.int .i64 a0_0) ∧ w70.cell? ⟨gb101, 1, none⟩ = some (.slice A0_1 l0_1.length c0_1) ∧ w70.cell? ⟨gb102, 0, none⟩ = some (.int .i64 a1_0) ∧ w70.cell? ⟨gb102, 1, none⟩ = some (.slice A1_1 l1_1.length c1_1) := hS_; refine norm_ (a' := ?_) ?_ ?_; rotate_left
        ·simp only [putAll, Act.put, List.setIfInBounds_toArray, List.set_cons_zero, List.set_cons_succ]; rfl
        refine two_ (i := 6) (j := 7) (Ni := some 7) (Nj := some 8) (bs 10 127) (bs 10 191) rfl rfl rfl rfl (two_of HT_.out (by kernel_rfl)) (by decide) (by decide) (fun K hK => ?_) (fun K hK => ?_)
        ·skip
         refine box_step ?hg (N := 7) ?hd (cs := #[.int .i64 0, .slice none 0 0]) (t := 25) ?hr ?_; (case hd => rfl); (case hg => rfl); (case hr => first | (go_simp; done) | (go_simp; rfl))
         intro gb125 hg w71 hbox hb; replace HO110 := Aside0.mk (Kd.R_below (rk_ HO110.out) hb); replace HO114 := Aside0.mk (Kd.R_below (rk_ HO114.out) hb); replace HO120 := Aside0.mk (Kd.R_below (rk_ HO120.out) hb); replace HO124 := Aside0.mk (Kd.R_below (rk_ HO124.out) hb); have BK125 := Aside0.mk (hbox); have GW125 := Aside0.mk ((by rw [hg]; exact (below_size (hs_)) : w.heap.size ≤ gb125)); have GE125 := Aside0.mk ((by rw [hg]; exact (below_size (hs_)) : w.heap.size ≤ gb125)); replace HB := hbs_ hb; have NB101_125 := Aside0.mk (nl2_ hg BK101.out); have NB125_101 := Aside0.mk (ng2_ hg BK101.out); replace BK101 := ab_ BK101 hb; have NB102_125 := Aside0.mk (nl2_ hg BK102.out); have NB125_102 := Aside0.mk (ng2_ hg BK102.out); replace BK102 := ab_ BK102 hb; have NB116_125 := Aside0.mk (nl2_ hg BK116.out); have NB125_116 := Aside0.mk (ng2_ hg BK116.out); replace BK116 := ab_ BK116 hb; clear hb hbox hg; refine hK.out _ _ ⟨(blk_cell BK101.out 0).trans rfl, (blk_cell BK101.out 1).trans rfl, (blk_cell BK102.out 0).trans rfl, (blk_cell BK102.out 1).trans rfl⟩ (fun hHeld => ?_); clear hK K; refine nrm_ 7 ?_
         exact norm_ z5_ (hJ2_5_6 (v119, v123, gb125) _ ⟨hHeld, (rk_ HO110.out), (rk_ HO114.out), (rk_ HO120.out), (rk_ HO124.out), (bk_ BK101.out), (bk_ BK102.out), (bk_ BK116.out), (bk_ BK125.out), GW125.out, GE125.out, NB101_125.out, NB125_101.out, NB102_125.out, NB125_102.out, NB116_125.out, NB125_116.out, (hs_)⟩)
        ·skip
         refine box_step ?hg (N := 8) ?hd (cs := #[.int .i64 0, .slice none 0 0]) (t := 25) ?hr ?_; (case hd => rfl); (case hg => rfl); (case hr => first | (go_simp; done) | (go_simp; rfl))
         intro gb126 hg w71 hbox hb; replace HO110 := Aside0.mk (Kd.R_below (rk_ HO110.out) hb); replace HO114 := Aside0.mk (Kd.R_below (rk_ HO114.out) hb); replace HO120 := Aside0.mk (Kd.R_below (rk_ HO120.out) hb); replace HO124 := Aside0.mk (Kd.R_below (rk_ HO124.out) hb); have BK126 := Aside0.mk (hbox); have GW126 := Aside0.mk ((by rw [hg]; exact (below_size (hs_)) : w.heap.size ≤ gb126)); have GE126 := Aside0.mk ((by rw [hg]; exact (below_size (hs_)) : w.heap.size ≤ gb126)); replace HB := hbs_ hb; have NB101_126 := Aside0.mk (nl2_ hg BK101.out); have NB126_101 := Aside0.mk (ng2_ hg BK101.out); replace BK101 := ab_ BK101 hb; have NB102_126 := Aside0.mk (nl2_ hg BK102.out); have NB126_102 := Aside0.mk (ng2_ hg BK102.out); replace BK102 := ab_ BK102 hb; have NB116_126 := Aside0.mk (nl2_ hg BK116.out); have NB126_116 := Aside0.mk (ng2_ hg BK116.out); replace BK116 := ab_ BK116 hb; clear hb hbox hg; refine hK.out _ _ ⟨(blk_cell BK101.out 0).trans rfl, (blk_cell BK101.out 1).trans rfl, (blk_cell BK102.out 0).trans rfl, (blk_cell BK102.out 1).trans rfl⟩ (fun hHeld => ?_); clear hK K; refine nrm_ 8 ?_
         exact norm_ z5_ (hJ2_5_7 (v119, v123, gb126) _ ⟨hHeld, (rk_ HO110.out), (rk_ HO114.out), (rk_ HO120.out), (rk_ HO124.out), (bk_ BK101.out), (bk_ BK102.out), (bk_ BK116.out), (bk_ BK126.out), GW126.out, GE126.out, NB101_126.out, NB126_101.out, NB102_126.out, NB126_102.out, NB116_126.out, NB126_116.out, (hs_)⟩)
      ·skip
       rintro ⟨v119, gb125, gb126⟩ w71 ⟨hS_, h0_, h1_, h2_, h3_, h4_, h5_, h6_, h7_, h8_, h9_, h10_, h11_, h12_, h13_, h14_, h15_, h16_, h17_, h18_, h19_, h20_, h21_, h22_, h23_, h24_, h25_, h26_⟩; have n0_ : Aside0 (Kd.R (Kd.int .i64) 3 w71 w.heap.size (fun k_ => some k_ ≠ (.slice Ao64 t112.length co64 : Value).ownBlock ∧ some k_ ≠ (v119 : Value).ownBlock) v109 t108) := ⟨h0_⟩; have n1_ : Aside0 (Kd.R (Kd.int .i64) 3 w71 w.heap.size (fun k_ => some k_ ≠ (v109 : Value).ownBlock ∧ some k_ ≠ (v119 : Value).ownBlock) (.slice Ao64 t112.length co64) t112) := ⟨h1_⟩; have n2_ : Aside0 (Kd.R (Kd.int .i64) 3 w71 w.heap.size (fun k_ => some k_ ≠ (v109 : Value).ownBlock ∧ some k_ ≠ (.slice Ao64 t112.length co64 : Value).ownBlock) v119 t118) := ⟨h2_⟩; have n3_ : Aside0 (w71.heap[gb101]? = some (.cells #[.int .i64 a0_0, .slice A0_1 l0_1.length c0_1] 25 (0, 0))) := ⟨h3_⟩; have n4_ : Aside0 (w71.heap[gb102]? = some (.cells #[.int .i64 a1_0, .slice A1_1 l1_1.length c1_1] 25 (0, 0))) := ⟨h4_⟩; have n5_ : Aside0 (w71.heap[gb116]? = some (.cells #[.int .i64 t111, .slice Ao64 t112.length co64] 25 (0, 0))) := ⟨h5_⟩; have n6_ : Aside0 (w71.heap[gb125]? = some (.cells #[.int .i64 0, .slice none 0 0] 25 (0, 0))) := ⟨h6_⟩; have n7_ : Aside0 (w71.heap[gb126]? = some (.cells #[.int .i64 0, .slice none 0 0] 25 (0, 0))) := ⟨h7_⟩; have n8_ : Aside0 (w.heap.size ≤ gb125) := ⟨h8_⟩; have n9_ : Aside0 (w.heap.size ≤ gb125) := ⟨h9_⟩; have n10_ : Aside0 (gb101 ≠ gb125) := ⟨h10_⟩; have n11_ : Aside0 (gb125 ≠ gb101) := ⟨h11_⟩; have n12_ : Aside0 (gb102 ≠ gb125) := ⟨h12_⟩; have n13_ : Aside0 (gb125 ≠ gb102) := ⟨h13_⟩; have n14_ : Aside0 (gb116 ≠ gb125) := ⟨h14_⟩; have n15_ : Aside0 (gb125 ≠ gb116) := ⟨h15_⟩; have n16_ : Aside0 (gb126 ≠ gb125) := ⟨h16_⟩; have n17_ : Aside0 (gb125 ≠ gb126) := ⟨h17_⟩; have n18_ : Aside0 (w.heap.size ≤ gb126) := ⟨h18_⟩; have n19_ : Aside0 (w.heap.size ≤ gb126) := ⟨h19_⟩; have n20_ : Aside0 (gb101 ≠ gb126) := ⟨h20_⟩; have n21_ : Aside0 (gb126 ≠ gb101) := ⟨h21_⟩; have n22_ : Aside0 (gb102 ≠ gb126) := ⟨h22_⟩; have n23_ : Aside0 (gb126 ≠ gb102) := ⟨h23_⟩; have n24_ : Aside0 (gb116 ≠ gb126) := ⟨h24_⟩; have n25_ : Aside0 (gb126 ≠ gb116) := ⟨h25_⟩; have n26_ : Aside0 (Below w.heap.size w w71) := ⟨h26_⟩; clear HO110; clear HO114; clear BK101; clear BK102; clear BK116; clear HB; clear h0_ h1_ h2_ h3_ h4_ h5_ h6_ h7_ h8_ h9_ h10_ h11_ h12_ h13_ h14_ h15_ h16_ h17_ h18_ h19_ h20_ h21_ h22_ h23_ h24_ h25_ h26_; have HO110 := n0_; have HO114 := n1_; have HO120 := n2_; have BK101 := n3_; have BK102 := n4_; have BK116 := n5_; have BK125 := n6_; have BK126 := n7_; have GW125 := n8_; have GE125 := n9_; have NB101_125 := n10_; have NB125_101 := n11_; have NB102_125 := n12_; have NB125_102 := n13_; have NB116_125 := n14_; have NB125_116 := n15_; have NB126_125 := n16_; have NB125_126 := n17_; have GW126 := n18_; have GE126 := n19_; have NB101_126 := n20_; have NB126_101 := n21_; have NB102_126 := n22_; have NB126_102 := n23_; have NB116_126 := n24_; have NB126_116 := n25_
       have HB := n26_; clear n0_ n1_ n2_ n3_ n4_ n5_ n6_ n7_ n8_ n9_ n10_ n11_ n12_ n13_ n14_ n15_ n16_ n17_ n18_ n19_ n20_ n21_ n22_ n23_ n24_ n25_ n26_; have hHeld : w71.cell? ⟨gb101, 0, none⟩ = some (.int .i64 a0_0) ∧ w71.cell? ⟨gb101, 1, none⟩ = some (.slice A0_1 l0_1.length c0_1) ∧ w71.cell? ⟨gb102, 0, none⟩ = some (.int .i64 a1_0) ∧ w71.cell? ⟨gb102, 1, none⟩ = some (.slice A1_1 l1_1.length c1_1) := hS_; refine norm_ (a' := ?_) ?_ ?_; rotate_left
       ·simp only [putAll, Act.put, List.setIfInBounds_toArray, List.set_cons_zero, List.set_cons_succ]; rfl
       refine on_ 5 48 10 255 (fun K hK => ?_); refine goes_ Try.func19 (by kernel_rfl) rfl #[.agg #[.int .i64 a0_0, .slice A0_1 l0_1.length c0_1], .agg #[.int .i64 a1_0, .slice A1_1 l1_1.length c1_1]] (by rfl) rfl rfl z2_ ?_
       with_reducible refine (bitmap_And.calls a0_0 _ _ l0_1 a1_0 _ _ l1_1 t121 t122 _ ?side1 ?side2 ?side3 ?side4 A55.out).mono ?_
       (case side1 => repeat (first | exact (Kd.C_below HR0_1.out HB.out) | (with_reducible refine Kd.C_alloc ?_ _) | (with_reducible refine Kd.C_drewN ?_ _) | (with_reducible refine Kd.C_drew ?_)))
       (case side2 => exact HC0_1.out)
       (case side3 => repeat (first | exact (Kd.C_below HR1_1.out HB.out) | (with_reducible refine Kd.C_alloc ?_ _) | (with_reducible refine Kd.C_drewN ?_ _) | (with_reducible refine Kd.C_drew ?_)))
       (case side4 => exact HC1_1.out)
       rintro e w72 ⟨v123, rfl, ho0, hb⟩; refine ⟨_, rfl, ?_⟩; have HO124 := Aside0.mk (Kd.R_lower (Kd.R_new' (Kd.R_new' (Kd.R_new' ho0 (Kd.R_lt (rk_ HO110.out))) (Kd.R_lt (rk_ HO114.out))) (Kd.R_lt (rk_ HO120.out))) (below_size (hs_))); replace HO110 := Aside0.mk (Kd.R_elder' (rk_ HO110.out) (Kd.R_base ho0) hb); replace HO114 := Aside0.mk (Kd.R_elder' (rk_ HO114.out) (Kd.R_base ho0) hb); replace HO120 := Aside0.mk (Kd.R_elder' (rk_ HO120.out) (Kd.R_base ho0) hb); replace BK101 := ab_ BK101 hb; replace BK102 := ab_ BK102 hb; replace BK116 := ab_ BK116 hb; replace BK125 := ab_ BK125 hb; replace BK126 := ab_ BK126 hb; replace HB := hbs_ hb; (try clear hb)
       (try clear hb2)
       (try clear hk)
       (try clear hi)
       (try clear ho0)
       refine hK.out _ _ ⟨(blk_cell BK101.out 0).trans rfl, (blk_cell BK101.out 1).trans rfl, (blk_cell BK102.out 0).trans rfl, (blk_cell BK102.out 1).trans rfl⟩ (fun hHeld => ?_); clear hK K; refine nrm_ 48 ?_
       exact norm_ z5_ (hJ2_5_6_7 (v119, v123, gb125, gb126) _ ⟨hHeld, z10_, z11_, z12_, z13_, (bk_ BK101.out), (bk_ BK102.out), (bk_ BK116.out), (bk_ BK125.out), (bk_ BK126.out), GW125.out, GE125.out, NB101_125.out, NB125_101.out, NB102_125.out, NB125_102.out, NB116_125.out, NB125_116.out, NB126_125.out, NB125_126.out, GW126.out, GE126.out, NB101_126.out, NB126_101.out, NB102_126.out, NB126_102.out, NB116_126.out, NB126_116.out, (hs_)⟩)
     ·skip
      rintro ⟨v119, v123, gb126⟩ w71 ⟨hS_, h0_, h1_, h2_, h3_, h4_, h5_, h6_, h7_, h8_, h9_, h10_, h11_, h12_, h13_, h14_, h15_, h16_⟩; have n0_ : Aside0 (Kd.R (Kd.int .i64) 3 w71 w.heap.size (fun k_ => some k_ ≠ (.slice Ao64 t112.length co64 : Value).ownBlock ∧ some k_ ≠ (v119 : Value).ownBlock ∧ some k_ ≠ (v123 : Value).ownBlock) v109 t108) := ⟨h0_⟩; have n1_ : Aside0 (Kd.R (Kd.int .i64) 3 w71 w.heap.size (fun k_ => some k_ ≠ (v109 : Value).ownBlock ∧ some k_ ≠ (v119 : Value).ownBlock ∧ some k_ ≠ (v123 : Value).ownBlock) (.slice Ao64 t112.length co64) t112) := ⟨h1_⟩; have n2_ : Aside0 (Kd.R (Kd.int .i64) 3 w71 w.heap.size (fun k_ => some k_ ≠ (v109 : Value).ownBlock ∧ some k_ ≠ (.slice Ao64 t112.length co64 : Value).ownBlock ∧ some k_ ≠ (v123 : Value).ownBlock) v119 t118) := ⟨h2_⟩; have n3_ : Aside0 (Kd.R (Kd.int .i64) 3 w71 w.heap.size (fun k_ => some k_ ≠ (v109 : Value).ownBlock ∧ some k_ ≠ (.slice Ao64 t112.length co64 : Value).ownBlock ∧ some k_ ≠ (v119 : Value).ownBlock) v123 t122) := ⟨h3_⟩; have n4_ : Aside0 (w71.heap[gb101]? = some (.cells #[.int .i64 a0_0, .slice A0_1 l0_1.length c0_1] 25 (0, 0))) := ⟨h4_⟩; have n5_ : Aside0 (w71.heap[gb102]? = some (.cells #[.int .i64 a1_0, .slice A1_1 l1_1.length c1_1] 25 (0, 0))) := ⟨h5_⟩; have n6_ : Aside0 (w71.heap[gb116]? = some (.cells #[.int .i64 t111, .slice Ao64 t112.length co64] 25 (0, 0))) := ⟨h6_⟩; have n7_ : Aside0 (w71.heap[gb126]? = some (.cells #[.int .i64 0, .slice none 0 0] 25 (0, 0))) := ⟨h7_⟩; have n8_ : Aside0 (w.heap.size ≤ gb126) := ⟨h8_⟩; have n9_ : Aside0 (w.heap.size ≤ gb126) := ⟨h9_⟩; have n10_ : Aside0 (gb101 ≠ gb126) := ⟨h10_⟩; have n11_ : Aside0 (gb126 ≠ gb101) := ⟨h11_⟩; have n12_ : Aside0 (gb102 ≠ gb126) := ⟨h12_⟩; have n13_ : Aside0 (gb126 ≠ gb102) := ⟨h13_⟩; have n14_ : Aside0 (gb116 ≠ gb126) := ⟨h14_⟩; have n15_ : Aside0 (gb126 ≠ gb116) := ⟨h15_⟩; have n16_ : Aside0 (Below w.heap.size w w71) := ⟨h16_⟩; clear HO110; clear HO114; clear BK101; clear BK102; clear BK116; clear HB; clear h0_ h1_ h2_ h3_ h4_ h5_ h6_ h7_ h8_ h9_ h10_ h11_ h12_ h13_ h14_ h15_ h16_; have HO110 := n0_; have HO114 := n1_; have HO120 := n2_; have HO124 := n3_; have BK101 := n4_; have BK102 := n5_; have BK116 := n6_; have BK126 := n7_; have GW126 := n8_; have GE126 := n9_; have NB101_126 := n10_; have NB126_101 := n11_; have NB102_126 := n12_; have NB126_102 := n13_; have NB116_126 := n14_; have NB126_116 := n15_; have HB := n16_; clear n0_ n1_ n2_ n3_ n4_ n5_ n6_ n7_ n8_ n9_ n10_ n11_ n12_ n13_ n14_ n15_ n16_; have hHeld : w71.cell? ⟨gb101, 0, none⟩ = some (.int .i64 a0_0) ∧ w71.cell? ⟨gb101, 1, none⟩ = some (.slice A0_1 l0_1.length c0_1) ∧ w71.cell? ⟨gb102, 0, none⟩ = some (.int .i64 a1_0) ∧ w71.cell? ⟨gb102, 1, none⟩ = some (.slice A1_1 l1_1.length c1_1) := hS_; refine norm_ (a' := ?_) ?_ ?_; rotate_left
      ·simp only [putAll, Act.put, List.setIfInBounds_toArray, List.set_cons_zero, List.set_cons_succ]; rfl
      refine on_ 6 7 10 255 (fun K hK => ?_); refine box_step ?hg (N := 7) ?hd (cs := #[.int .i64 0, .slice none 0 0]) (t := 25) ?hr ?_; (case hd => rfl); (case hg => rfl); (case hr => first | (go_simp; done) | (go_simp; rfl))
      intro gb125 hg w72 hbox hb; replace HO110 := Aside0.mk (Kd.R_below (rk_ HO110.out) hb); replace HO114 := Aside0.mk (Kd.R_below (rk_ HO114.out) hb); replace HO120 := Aside0.mk (Kd.R_below (rk_ HO120.out) hb); replace HO124 := Aside0.mk (Kd.R_below (rk_ HO124.out) hb); have BK125 := Aside0.mk (hbox); have GW125 := Aside0.mk ((by rw [hg]; exact (below_size (hs_)) : w.heap.size ≤ gb125)); have GE125 := Aside0.mk ((by rw [hg]; exact (below_size (hs_)) : w.heap.size ≤ gb125)); replace HB := hbs_ hb; have NB101_125 := Aside0.mk (nl2_ hg BK101.out); have NB125_101 := Aside0.mk (ng2_ hg BK101.out); replace BK101 := ab_ BK101 hb; have NB102_125 := Aside0.mk (nl2_ hg BK102.out); have NB125_102 := Aside0.mk (ng2_ hg BK102.out); replace BK102 := ab_ BK102 hb; have NB116_125 := Aside0.mk (nl2_ hg BK116.out); have NB125_116 := Aside0.mk (ng2_ hg BK116.out); replace BK116 := ab_ BK116 hb; have NB126_125 := Aside0.mk (nl2_ hg BK126.out); have NB125_126 := Aside0.mk (ng2_ hg BK126.out); replace BK126 := ab_ BK126 hb; clear hb hbox hg; refine hK.out _ _ ⟨(blk_cell BK101.out 0).trans rfl, (blk_cell BK101.out 1).trans rfl, (blk_cell BK102.out 0).trans rfl, (blk_cell BK102.out 1).trans rfl⟩ (fun hHeld => ?_); clear hK K; refine nrm_ 7 ?_
      exact norm_ z5_ (hJ2_5_6_7 (v119, v123, gb125, gb126) _ ⟨hHeld, (rk_ HO110.out), (rk_ HO114.out), (rk_ HO120.out), (rk_ HO124.out), (bk_ BK101.out), (bk_ BK102.out), (bk_ BK116.out), (bk_ BK125.out), (bk_ BK126.out), GW125.out, GE125.out, NB101_125.out, NB125_101.out, NB102_125.out, NB125_102.out, NB116_125.out, NB125_116.out, NB126_125.out, NB125_126.out, GW126.out, GE126.out, NB101_126.out, NB126_101.out, NB102_126.out, NB126_102.out, NB116_126.out, NB126_116.out, (hs_)⟩)
    ·skip
     rintro ⟨v119, v123, gb125⟩ w71 ⟨hS_, h0_, h1_, h2_, h3_, h4_, h5_, h6_, h7_, h8_, h9_, h10_, h11_, h12_, h13_, h14_, h15_, h16_⟩; have n0_ : Aside0 (Kd.R (Kd.int .i64) 3 w71 w.heap.size (fun k_ => some k_ ≠ (.slice Ao64 t112.length co64 : Value).ownBlock ∧ some k_ ≠ (v119 : Value).ownBlock ∧ some k_ ≠ (v123 : Value).ownBlock) v109 t108) := ⟨h0_⟩; have n1_ : Aside0 (Kd.R (Kd.int .i64) 3 w71 w.heap.size (fun k_ => some k_ ≠ (v109 : Value).ownBlock ∧ some k_ ≠ (v119 : Value).ownBlock ∧ some k_ ≠ (v123 : Value).ownBlock) (.slice Ao64 t112.length co64) t112) := ⟨h1_⟩; have n2_ : Aside0 (Kd.R (Kd.int .i64) 3 w71 w.heap.size (fun k_ => some k_ ≠ (v109 : Value).ownBlock ∧ some k_ ≠ (.slice Ao64 t112.length co64 : Value).ownBlock ∧ some k_ ≠ (v123 : Value).ownBlock) v119 t118) := ⟨h2_⟩; have n3_ : Aside0 (Kd.R (Kd.int .i64) 3 w71 w.heap.size (fun k_ => some k_ ≠ (v109 : Value).ownBlock ∧ some k_ ≠ (.slice Ao64 t112.length co64 : Value).ownBlock ∧ some k_ ≠ (v119 : Value).ownBlock) v123 t122) := ⟨h3_⟩; have n4_ : Aside0 (w71.heap[gb101]? = some (.cells #[.int .i64 a0_0, .slice A0_1 l0_1.length c0_1] 25 (0, 0))) := ⟨h4_⟩; have n5_ : Aside0 (w71.heap[gb102]? = some (.cells #[.int .i64 a1_0, .slice A1_1 l1_1.length c1_1] 25 (0, 0))) := ⟨h5_⟩; have n6_ : Aside0 (w71.heap[gb116]? = some (.cells #[.int .i64 t111, .slice Ao64 t112.length co64] 25 (0, 0))) := ⟨h6_⟩; have n7_ : Aside0 (w71.heap[gb125]? = some (.cells #[.int .i64 0, .slice none 0 0] 25 (0, 0))) := ⟨h7_⟩; have n8_ : Aside0 (w.heap.size ≤ gb125) := ⟨h8_⟩; have n9_ : Aside0 (w.heap.size ≤ gb125) := ⟨h9_⟩; have n10_ : Aside0 (gb101 ≠ gb125) := ⟨h10_⟩; have n11_ : Aside0 (gb125 ≠ gb101) := ⟨h11_⟩; have n12_ : Aside0 (gb102 ≠ gb125) := ⟨h12_⟩; have n13_ : Aside0 (gb125 ≠ gb102) := ⟨h13_⟩; have n14_ : Aside0 (gb116 ≠ gb125) := ⟨h14_⟩; have n15_ : Aside0 (gb125 ≠ gb116) := ⟨h15_⟩; have n16_ : Aside0 (Below w.heap.size w w71) := ⟨h16_⟩; clear HO110; clear HO114; clear BK101; clear BK102; clear BK116; clear HB; clear h0_ h1_ h2_ h3_ h4_ h5_ h6_ h7_ h8_ h9_ h10_ h11_ h12_ h13_ h14_ h15_ h16_; have HO110 := n0_; have HO114 := n1_; have HO120 := n2_; have HO124 := n3_; have BK101 := n4_; have BK102 := n5_; have BK116 := n6_; have BK125 := n7_; have GW125 := n8_; have GE125 := n9_; have NB101_125 := n10_; have NB125_101 := n11_; have NB102_125 := n12_; have NB125_102 := n13_; have NB116_125 := n14_; have NB125_116 := n15_; have HB := n16_; clear n0_ n1_ n2_ n3_ n4_ n5_ n6_ n7_ n8_ n9_ n10_ n11_ n12_ n13_ n14_ n15_ n16_; have hHeld : w71.cell? ⟨gb101, 0, none⟩ = some (.int .i64 a0_0) ∧ w71.cell? ⟨gb101, 1, none⟩ = some (.slice A0_1 l0_1.length c0_1) ∧ w71.cell? ⟨gb102, 0, none⟩ = some (.int .i64 a1_0) ∧ w71.cell? ⟨gb102, 1, none⟩ = some (.slice A1_1 l1_1.length c1_1) := hS_; refine norm_ (a' := ?_) ?_ ?_; rotate_left
     ·simp only [putAll, Act.put, List.setIfInBounds_toArray, List.set_cons_zero, List.set_cons_succ]; rfl
     refine on_ 7 8 10 255 (fun K hK => ?_); refine box_step ?hg (N := 8) ?hd (cs := #[.int .i64 0, .slice none 0 0]) (t := 25) ?hr ?_; (case hd => rfl); (case hg => rfl); (case hr => first | (go_simp; done) | (go_simp; rfl))
     intro gb126 hg w72 hbox hb; replace HO110 := Aside0.mk (Kd.R_below (rk_ HO110.out) hb); replace HO114 := Aside0.mk (Kd.R_below (rk_ HO114.out) hb); replace HO120 := Aside0.mk (Kd.R_below (rk_ HO120.out) hb); replace HO124 := Aside0.mk (Kd.R_below (rk_ HO124.out) hb); have BK126 := Aside0.mk (hbox); have GW126 := Aside0.mk ((by rw [hg]; exact (below_size (hs_)) : w.heap.size ≤ gb126)); have GE126 := Aside0.mk ((by rw [hg]; exact (below_size (hs_)) : w.heap.size ≤ gb126)); replace HB := hbs_ hb; have NB101_126 := Aside0.mk (nl2_ hg BK101.out); have NB126_101 := Aside0.mk (ng2_ hg BK101.out); replace BK101 := ab_ BK101 hb; have NB102_126 := Aside0.mk (nl2_ hg BK102.out); have NB126_102 := Aside0.mk (ng2_ hg BK102.out); replace BK102 := ab_ BK102 hb; have NB116_126 := Aside0.mk (nl2_ hg BK116.out); have NB126_116 := Aside0.mk (ng2_ hg BK116.out); replace BK116 := ab_ BK116 hb; have NB125_126 := Aside0.mk (nl2_ hg BK125.out); have NB126_125 := Aside0.mk (ng2_ hg BK125.out); replace BK125 := ab_ BK125 hb; clear hb hbox hg; refine hK.out _ _ ⟨(blk_cell BK101.out 0).trans rfl, (blk_cell BK101.out 1).trans rfl, (blk_cell BK102.out 0).trans rfl, (blk_cell BK102.out 1).trans rfl⟩ (fun hHeld => ?_); clear hK K; refine nrm_ 8 ?_
     exact norm_ z5_ (hJ2_5_6_7 (v119, v123, gb125, gb126) _ ⟨hHeld, (rk_ HO110.out), (rk_ HO114.out), (rk_ HO120.out), (rk_ HO124.out), (bk_ BK101.out), (bk_ BK102.out), (bk_ BK116.out), (bk_ BK125.out), (bk_ BK126.out), GW125.out, GE125.out, NB101_125.out, NB125_101.out, NB102_125.out, NB125_102.out, NB116_125.out, NB125_116.out, NB126_125.out, NB125_126.out, GW126.out, GE126.out, NB101_126.out, NB126_101.out, NB102_126.out, NB126_102.out, NB116_126.out, NB126_116.out, (hs_)⟩)
   rintro ⟨v119, v123, gb125, gb126⟩ w72 ⟨hS_, h0_, h1_, h2_, h3_, h4_, h5_, h6_, h7_, h8_, h9_, h10_, h11_, h12_, h13_, h14_, h15_, h16_, h17_, h18_, h19_, h20_, h21_, h22_, h23_, h24_, h25_, h26_, h27_⟩; have n0_ : Aside0 (Kd.R (Kd.int .i64) 3 w72 w.heap.size (fun k_ => some k_ ≠ (.slice Ao64 t112.length co64 : Value).ownBlock ∧ some k_ ≠ (v119 : Value).ownBlock ∧ some k_ ≠ (v123 : Value).ownBlock) v109 t108) := ⟨h0_⟩; have n1_ : Aside0 (Kd.R (Kd.int .i64) 3 w72 w.heap.size (fun k_ => some k_ ≠ (v109 : Value).ownBlock ∧ some k_ ≠ (v119 : Value).ownBlock ∧ some k_ ≠ (v123 : Value).ownBlock) (.slice Ao64 t112.length co64) t112) := ⟨h1_⟩; have n2_ : Aside0 (Kd.R (Kd.int .i64) 3 w72 w.heap.size (fun k_ => some k_ ≠ (v109 : Value).ownBlock ∧ some k_ ≠ (.slice Ao64 t112.length co64 : Value).ownBlock ∧ some k_ ≠ (v123 : Value).ownBlock) v119 t118) := ⟨h2_⟩; have n3_ : Aside0 (Kd.R (Kd.int .i64) 3 w72 w.heap.size (fun k_ => some k_ ≠ (v109 : Value).ownBlock ∧ some k_ ≠ (.slice Ao64 t112.length co64 : Value).ownBlock ∧ some k_ ≠ (v119 : Value).ownBlock) v123 t122) := ⟨h3_⟩; have n4_ : Aside0 (w72.heap[gb101]? = some (.cells #[.int .i64 a0_0, .slice A0_1 l0_1.length c0_1] 25 (0, 0))) := ⟨h4_⟩; have n5_ : Aside0 (w72.heap[gb102]? = some (.cells #[.int .i64 a1_0, .slice A1_1 l1_1.length c1_1] 25 (0, 0))) := ⟨h5_⟩; have n6_ : Aside0 (w72.heap[gb116]? = some (.cells #[.int .i64 t111, .slice Ao64 t112.length co64] 25 (0, 0))) := ⟨h6_⟩; have n7_ : Aside0 (w72.heap[gb125]? = some (.cells #[.int .i64 0, .slice none 0 0] 25 (0, 0))) := ⟨h7_⟩; have n8_ : Aside0 (w72.heap[gb126]? = some (.cells #[.int .i64 0, .slice none 0 0] 25 (0, 0))) := ⟨h8_⟩; have n9_ : Aside0 (w.heap.size ≤ gb125) := ⟨h9_⟩; have n10_ : Aside0 (w.heap.size ≤ gb125) := ⟨h10_⟩; have n11_ : Aside0 (gb101 ≠ gb125) := ⟨h11_⟩; have n12_ : Aside0 (gb125 ≠ gb101) := ⟨h12_⟩; have n13_ : Aside0 (gb102 ≠ gb125) := ⟨h13_⟩; have n14_ : Aside0 (gb125 ≠ gb102) := ⟨h14_⟩; have n15_ : Aside0 (gb116 ≠ gb125) := ⟨h15_⟩; have n16_ : Aside0 (gb125 ≠ gb116) := ⟨h16_⟩; have n17_ : Aside0 (gb126 ≠ gb125) := ⟨h17_⟩; have n18_ : Aside0 (gb125 ≠ gb126) := ⟨h18_⟩; have n19_ : Aside0 (w.heap.size ≤ gb126) := ⟨h19_⟩; have n20_ : Aside0 (w.heap.size ≤ gb126) := ⟨h20_⟩; have n21_ : Aside0 (gb101 ≠ gb126) := ⟨h21_⟩; have n22_ : Aside0 (gb126 ≠ gb101) := ⟨h22_⟩; have n23_ : Aside0 (gb102 ≠ gb126) := ⟨h23_⟩; have n24_ : Aside0 (gb126 ≠ gb102) := ⟨h24_⟩; have n25_ : Aside0 (gb116 ≠ gb126) := ⟨h25_⟩; have n26_ : Aside0 (gb126 ≠ gb116) := ⟨h26_⟩; have n27_ : Aside0 (Below w.heap.size w w72) := ⟨h27_⟩; clear HO110; clear HO114; clear BK101; clear BK102; clear BK116; clear HB; clear h0_ h1_ h2_ h3_ h4_ h5_ h6_ h7_ h8_ h9_ h10_ h11_ h12_ h13_ h14_ h15_ h16_ h17_ h18_ h19_ h20_ h21_ h22_ h23_ h24_ h25_ h26_ h27_; have HO110 := n0_; have HO114 := n1_; have HO120 := n2_; have HO124 := n3_; have BK101 := n4_; have BK102 := n5_; have BK116 := n6_; have BK125 := n7_; have BK126 := n8_; have GW125 := n9_; have GE125 := n10_; have NB101_125 := n11_
   have NB125_101 := n12_; have NB102_125 := n13_; have NB125_102 := n14_; have NB116_125 := n15_; have NB125_116 := n16_; have NB126_125 := n17_; have NB125_126 := n18_; have GW126 := n19_; have GE126 := n20_; have NB101_126 := n21_; have NB126_101 := n22_; have NB102_126 := n23_; have NB126_102 := n24_; have NB116_126 := n25_; have NB126_116 := n26_; have HB := n27_; clear n0_ n1_ n2_ n3_ n4_ n5_ n6_ n7_ n8_ n9_ n10_ n11_ n12_ n13_ n14_ n15_ n16_ n17_ n18_ n19_ n20_ n21_ n22_ n23_ n24_ n25_ n26_ n27_; have hHeld : w72.cell? ⟨gb101, 0, none⟩ = some (.int .i64 a0_0) ∧ w72.cell? ⟨gb101, 1, none⟩ = some (.slice A0_1 l0_1.length c0_1) ∧ w72.cell? ⟨gb102, 0, none⟩ = some (.int .i64 a1_0) ∧ w72.cell? ⟨gb102, 1, none⟩ = some (.slice A1_1 l1_1.length c1_1) := hS_; obtain ⟨Ao74, co74, eo74⟩ := Kd.R_slice HO120.out; (first | subst eo74 | (injection eo74 with f1_ f2_ f3_; have f4_ := f1_.symm; have f5_ := f3_.symm; clear f1_ f2_ f3_; subst f4_; subst f5_)); obtain ⟨Ao77, co77, eo77⟩ := Kd.R_slice HO124.out; (first | subst eo77 | (injection eo77 with f1_ f2_ f3_; have f4_ := f1_.symm; have f5_ := f3_.symm; clear f1_ f2_ f3_; subst f4_; subst f5_)); refine norm_ (a' := ?_) ?_ ?_; rotate_left
   ·simp only [putAll, Act.put, List.setIfInBounds_toArray, List.set_cons_zero, List.set_cons_succ]; rfl
   refine one_ (i := 8) (N := none) (bs 10 511) rfl rfl (one_of HT_.out (by kernel_rfl)) (by decide) (fun K hK => ?_); have hs73 : w72.cell? ⟨gb125, 0, none⟩ = some (.int .i64 0) := (blk_cell BK125.out 0).trans rfl; have hfs73 := blk_frozen BK125.out 0; have hns73_0 := NB101_125.out; have hns73_1 := NB102_125.out; have hns73_2 := NB116_125.out; have hns73_4 := NB126_125.out; have hms73_0 := NB125_101.out; have hms73_1 := NB125_102.out; have hms73_2 := NB125_116.out; have hms73_4 := NB125_126.out; have hs75 : w72.cell? ⟨gb125, 1, none⟩ = some (.slice none 0 0) := (blk_cell BK125.out 1).trans rfl; have hfs75 := blk_frozen BK125.out 1; have hns75_0 := NB101_125.out; have hns75_1 := NB102_125.out; have hns75_2 := NB116_125.out; have hns75_4 := NB126_125.out; have hms75_0 := NB125_101.out; have hms75_1 := NB125_102.out; have hms75_2 := NB125_116.out; have hms75_4 := NB125_126.out; refine skip_ (w1 := ?_) (by rfl) rfl ?_ ?_; rotate_left
   ·go_simp
    rfl
   refine hK.out _ _ ⟨((cell_far (p := ⟨gb125, _, none⟩) NB101_125.out _).trans (((cell_far (p := ⟨gb125, _, none⟩) NB101_125.out _).trans (hHeld.1)))), ((cell_far (p := ⟨gb125, _, none⟩) NB101_125.out _).trans (((cell_far (p := ⟨gb125, _, none⟩) NB101_125.out _).trans (hHeld.2.1)))), ((cell_far (p := ⟨gb125, _, none⟩) NB102_125.out _).trans (((cell_far (p := ⟨gb125, _, none⟩) NB102_125.out _).trans (hHeld.2.2.1)))), ((cell_far (p := ⟨gb125, _, none⟩) NB102_125.out _).trans (((cell_far (p := ⟨gb125, _, none⟩) NB102_125.out _).trans (hHeld.2.2.2))))⟩ (fun hHeld => ?_); clear hK K; refine one_ (i := 9) (N := none) (bs 10 1023) rfl rfl (one_of HT_.out (by kernel_rfl)) (by decide) (fun K hK => ?_); have hs76 : w72.cell? ⟨gb126, 0, none⟩ = some (.int .i64 0) := (blk_cell BK126.out 0).trans rfl; have hfs76 := blk_frozen BK126.out 0; have hns76_0 := NB101_126.out; have hns76_1 := NB102_126.out; have hns76_2 := NB116_126.out; have hns76_3 := NB125_126.out; have hms76_0 := NB126_101.out; have hms76_1 := NB126_102.out; have hms76_2 := NB126_116.out; have hms76_3 := NB126_125.out; have hs78 : w72.cell? ⟨gb126, 1, none⟩ = some (.slice none 0 0) := (blk_cell BK126.out 1).trans rfl; have hfs78 := blk_frozen BK126.out 1; have hns78_0 := NB101_126.out; have hns78_1 := NB102_126.out; have hns78_2 := NB116_126.out; have hns78_3 := NB125_126.out; have hms78_0 := NB126_101.out; have hms78_1 := NB126_102.out; have hms78_2 := NB126_116.out; have hms78_3 := NB126_125.out; refine skip_ (w1 := ?_) (by rfl) rfl ?_ ?_; rotate_left
   ·go_simp
    rfl
   refine hK.out _ _ ⟨((cell_far (p := ⟨gb126, _, none⟩) NB101_126.out _).trans (((cell_far (p := ⟨gb126, _, none⟩) NB101_126.out _).trans (hHeld.1)))), ((cell_far (p := ⟨gb126, _, none⟩) NB101_126.out _).trans (((cell_far (p := ⟨gb126, _, none⟩) NB101_126.out _).trans (hHeld.2.1)))), ((cell_far (p := ⟨gb126, _, none⟩) NB102_126.out _).trans (((cell_far (p := ⟨gb126, _, none⟩) NB102_126.out _).trans (hHeld.2.2.1)))), ((cell_far (p := ⟨gb126, _, none⟩) NB102_126.out _).trans (((cell_far (p := ⟨gb126, _, none⟩) NB102_126.out _).trans (hHeld.2.2.2))))⟩ (fun hHeld => ?_); clear hK K; refine dn_ ?_; go_upto_region 5 with (fail)
   go_cut [66] (fun v66 wc => ∃ (kq : Nat) (x66_55 : Bool), v66 = .bool x66_55 ∧ Aside0 (graftagelaw27_BitmapBack.j1 kq x66_55 a0_0 l0_1 a1_0 l1_1 t117 t118 t121 t122 = some r) ∧ Aside0 (kq ≤ kj2) ∧ Aside0 (Kd.R (Kd.int .i64) 3 wc w.heap.size (fun k_ => some k_ ≠ ((.slice Ao74 t118.length co74) : Value).ownBlock ∧ some k_ ≠ ((.slice Ao77 t122.length co77) : Value).ownBlock) (.slice Ao64 t112.length co64) t112) ∧ Aside0 (Kd.R (Kd.int .i64) 3 wc w.heap.size (fun k_ => some k_ ≠ ((.slice Ao64 t112.length co64) : Value).ownBlock ∧ some k_ ≠ ((.slice Ao77 t122.length co77) : Value).ownBlock) (.slice Ao74 t118.length co74) t118) ∧ Aside0 (Kd.R (Kd.int .i64) 3 wc w.heap.size (fun k_ => some k_ ≠ ((.slice Ao64 t112.length co64) : Value).ownBlock ∧ some k_ ≠ ((.slice Ao74 t118.length co74) : Value).ownBlock) (.slice Ao77 t122.length co77) t122) ∧ Aside0 (wc.heap[gb101]? = some (.cells #[.int .i64 a0_0, (.slice A0_1 l0_1.length c0_1)] 25 (0, 0))) ∧ Aside0 (wc.heap[gb102]? = some (.cells #[.int .i64 a1_0, (.slice A1_1 l1_1.length c1_1)] 25 (0, 0))) ∧ Aside0 (wc.heap[gb116]? = some (.cells #[.int .i64 t111, (.slice Ao64 t112.length co64)] 25 (0, 0))) ∧ Aside0 (wc.heap[gb125]? = some (.cells #[.int .i64 t117, (.slice Ao74 t118.length co74)] 25 (0, 0))) ∧ Aside0 (wc.heap[gb126]? = some (.cells #[.int .i64 t121, (.slice Ao77 t122.length co77)] 25 (0, 0))) ∧ Aside0 (Below w.heap.size w wc))
   case first =>
    have H := HC56.out; clear HC56; by_cases c79 : t115 = 0; rotate_left
    ·rw [if_neg c79] at H; have c79b0 := ef_ c79; have c79b1 := nt_ c79; (first | rw [c79b0] | (simp only [i64_w, i32_w]; rw [c79b0]) | skip); (try rw [c79b8])
     have H' := Aside0.mk H; clear H; go_wp2
     go_meet
     case rel => exact ⟨_, (true), z1_, H', ⟨by have := HJ2.out; first | omega | exact Nat.le_refl _⟩, ⟨by (with_reducible repeat (first | apply Kd.R_alloc | apply Kd.R_drewN | apply Kd.R_drew)); exact Kd.R_mono (Kd.R_far (p := ⟨gb126, 1, none⟩) (Kd.R_far (p := ⟨gb126, 0, none⟩) (Kd.R_far (p := ⟨gb125, 1, none⟩) (Kd.R_far (p := ⟨gb125, 0, none⟩) (Kd.R_types (Kd.R_types HO114.out BK125.out (by decide)) BK126.out (by decide)) (fun _ hk => hk.1.2) (.int .i64 t117)) (fun _ hk => hk.1.2) (.slice Ao74 t118.length co74)) (fun _ hk => hk.2) (.int .i64 t121)) (fun _ hk => hk.2) (.slice Ao77 t122.length co77)) (fun _ hk => ⟨hk.1.1.2.1, hk.1.1.2.2⟩)⟩, ⟨by (with_reducible repeat (first | apply Kd.R_alloc | apply Kd.R_drewN | apply Kd.R_drew)); exact Kd.R_mono (Kd.R_far (p := ⟨gb126, 1, none⟩) (Kd.R_far (p := ⟨gb126, 0, none⟩) (Kd.R_far (p := ⟨gb125, 1, none⟩) (Kd.R_far (p := ⟨gb125, 0, none⟩) (Kd.R_types (Kd.R_types HO120.out BK125.out (by decide)) BK126.out (by decide)) (fun _ hk => hk.1.2) (.int .i64 t117)) (fun _ hk => hk.1.2) (.slice Ao74 t118.length co74)) (fun _ hk => hk.2) (.int .i64 t121)) (fun _ hk => hk.2) (.slice Ao77 t122.length co77)) (fun _ hk => ⟨hk.1.1.2.1, hk.1.1.2.2⟩)⟩, ⟨by (with_reducible repeat (first | apply Kd.R_alloc | apply Kd.R_drewN | apply Kd.R_drew)); exact Kd.R_mono (Kd.R_far (p := ⟨gb126, 1, none⟩) (Kd.R_far (p := ⟨gb126, 0, none⟩) (Kd.R_far (p := ⟨gb125, 1, none⟩) (Kd.R_far (p := ⟨gb125, 0, none⟩) (Kd.R_types (Kd.R_types HO124.out BK125.out (by decide)) BK126.out (by decide)) (fun _ hk => hk.1.2) (.int .i64 t117)) (fun _ hk => hk.1.2) (.slice Ao74 t118.length co74)) (fun _ hk => hk.2) (.int .i64 t121)) (fun _ hk => hk.2) (.slice Ao77 t122.length co77)) (fun _ hk => ⟨hk.1.1.2.1, hk.1.1.2.2⟩)⟩, ⟨z14_⟩, ⟨z15_⟩, ⟨z16_⟩, ⟨by have b_ := BK125; have f_ := NB125_126; exact zb_⟩, ⟨by have b_ := BK126; have f_ := NB126_125; exact zb_⟩, ⟨hs_⟩⟩
    rw [if_pos c79] at H; have c79b0 := et_ c79; have c79b1 := nf_ c79; clear c79; (first | rw [c79b0] | (simp only [i64_w, i32_w]; rw [c79b0]) | skip); (try rw [c79b8])
    obtain ⟨t127, A80, H⟩ := bx_ H; by_cases c81 : t127 = true; rotate_left
    ·replace c81 := Bool.eq_false_iff.mpr c81; subst c81; rw [if_neg nft_] at H; have H' := Aside0.mk H; clear H; have hnb116 := NB116_101.out; have hnc116 := NB101_116.out; have hnb117 := NB116_102.out; have hnc117 := NB102_116.out; have hnb118 := NB116_125.out; have hnc118 := NB125_116.out; have hnb119 := NB116_126.out; have hnc119 := NB126_116.out; obtain ⟨Z120_0, Z120_1, F120⟩ := bc2 BK116.out; have hnb121 := NB101_102.out; have hnc121 := NB102_101.out; have hnb122 := NB101_125.out; have hnc122 := NB125_101.out; have hnb123 := NB101_126.out; have hnc123 := NB126_101.out; obtain ⟨Z124_0, Z124_1, F124⟩ := bc2 BK101.out; go_wp2_with (first | (go_at_call 10; (with_reducible refine (graftageref27_Same.calls kj2 t111 _ _ t112 a0_0 _ _ l0_1 false _ ?side1 ?side2 ?side3 ?side4 A80.out).mono ?_); (case side1 => refine (Kd.R_reads' (e := 3) (base := w.heap.size) (ok := fun k_ => (some k_ ≠ (v109 : Value).ownBlock ∧ (some k_ ≠ (.slice Ao74 t118.length co74 : Value).ownBlock ∧ some k_ ≠ (.slice Ao77 t122.length co77 : Value).ownBlock))) (n := t112.length) (c := co64) ?_).2.2; exact (by (with_reducible repeat (first | apply Kd.R_alloc | apply Kd.R_drewN | apply Kd.R_drew)); exact (Kd.R_mono (Kd.R_mono (Kd.R_far (p := ⟨gb126, 1, none⟩) (Kd.R_far (p := ⟨gb126, 0, none⟩) (Kd.R_far (p := ⟨gb125, 1, none⟩) (Kd.R_far (p := ⟨gb125, 0, none⟩) (Kd.R_types (Kd.R_types HO114.out BK125.out (by decide)) BK126.out (by decide)) (fun _ hk => hk.1.2) (.int .i64 t117)) (fun _ hk => hk.1.2) (.slice Ao74 t118.length co74)) (fun _ hk => hk.2) (.int .i64 t121)) (fun _ hk => hk.2) (.slice Ao77 t122.length co77)) (fun _ h_ => h_.1)) (fun _ h_ => h_.1)))); (case side2 => exact (Kd.R_reads' HO114.out).2.1); (case side3 => exact Kd.C_below HR0_1.out (hs_)); (case side4 => exact HC0_1.out); rintro e w125 ⟨rfl, hb⟩; replace HO110 := Aside0.mk (Kd.R_below (by (with_reducible repeat (first | apply Kd.R_alloc | apply Kd.R_drewN | apply Kd.R_drew)); exact (Kd.R_mono (Kd.R_mono (Kd.R_far (p := ⟨gb126, 1, none⟩) (Kd.R_far (p := ⟨gb126, 0, none⟩) (Kd.R_far (p := ⟨gb125, 1, none⟩) (Kd.R_far (p := ⟨gb125, 0, none⟩) (Kd.R_types (Kd.R_types HO110.out BK125.out (by decide)) BK126.out (by decide)) (fun _ hk => hk.1.2) (.int .i64 t117)) (fun _ hk => hk.1.2) (.slice Ao74 t118.length co74)) (fun _ hk => hk.2) (.int .i64 t121)) (fun _ hk => hk.2) (.slice Ao77 t122.length co77)) (fun _ h_ => h_.1)) (fun _ h_ => h_.1))) hb); replace HO114 := Aside0.mk (Kd.R_below (by (with_reducible repeat (first | apply Kd.R_alloc | apply Kd.R_drewN | apply Kd.R_drew)); exact (Kd.R_mono (Kd.R_mono (Kd.R_far (p := ⟨gb126, 1, none⟩) (Kd.R_far (p := ⟨gb126, 0, none⟩) (Kd.R_far (p := ⟨gb125, 1, none⟩) (Kd.R_far (p := ⟨gb125, 0, none⟩) (Kd.R_types (Kd.R_types HO114.out BK125.out (by decide)) BK126.out (by decide)) (fun _ hk => hk.1.2) (.int .i64 t117)) (fun _ hk => hk.1.2) (.slice Ao74 t118.length co74)) (fun _ hk => hk.2) (.int .i64 t121)) (fun _ hk => hk.2) (.slice Ao77 t122.length co77)) (fun _ h_ => h_.1)) (fun _ h_ => h_.1))) hb); replace HO120 := Aside0.mk (Kd.R_below (by (with_reducible repeat (first | apply Kd.R_alloc | apply Kd.R_drewN | apply Kd.R_drew)); exact (Kd.R_mono (Kd.R_mono (Kd.R_far (p := ⟨gb126, 1, none⟩) (Kd.R_far (p := ⟨gb126, 0, none⟩) (Kd.R_far (p := ⟨gb125, 1, none⟩) (Kd.R_far (p := ⟨gb125, 0, none⟩) (Kd.R_types (Kd.R_types HO120.out BK125.out (by decide)) BK126.out (by decide)) (fun _ hk => hk.1.2) (.int .i64 t117)) (fun _ hk => hk.1.2) (.slice Ao74 t118.length co74)) (fun _ hk => hk.2) (.int .i64 t121)) (fun _ hk => hk.2) (.slice Ao77 t122.length co77)) (fun _ h_ => h_.1)) (fun _ h_ => h_.1))) hb); replace HO124 := Aside0.mk (Kd.R_below (by (with_reducible repeat (first | apply Kd.R_alloc | apply Kd.R_drewN | apply Kd.R_drew)); exact (Kd.R_mono (Kd.R_mono (Kd.R_far (p := ⟨gb126, 1, none⟩) (Kd.R_far (p := ⟨gb126, 0, none⟩) (Kd.R_far (p := ⟨gb125, 1, none⟩) (Kd.R_far (p := ⟨gb125, 0, none⟩) (Kd.R_types (Kd.R_types HO124.out BK125.out (by decide)) BK126.out (by decide)) (fun _ hk => hk.1.2) (.int .i64 t117)) (fun _ hk => hk.1.2) (.slice Ao74 t118.length co74)) (fun _ hk => hk.2) (.int .i64 t121)) (fun _ hk => hk.2) (.slice Ao77 t122.length co77)) (fun _ h_ => h_.1)) (fun _ h_ => h_.1))) hb); replace BK101 := Aside0.mk (blk_below (g := gb101) (o := .cells #[.int .i64 a0_0, .slice A0_1 l0_1.length c0_1] 25 (0, 0)) z14_ hb); replace BK102 := Aside0.mk (blk_below (g := gb102) (o := .cells #[.int .i64 a1_0, .slice A1_1 l1_1.length c1_1] 25 (0, 0)) z15_ hb); replace BK116 := Aside0.mk (blk_below (g := gb116) (o := .cells #[.int .i64 t111, .slice Ao64 t112.length co64] 25 (0, 0)) z16_ hb); replace BK125 := Aside0.mk (blk_below (g := gb125) (o := .cells #[.int .i64 t117, .slice Ao74 t118.length co74] 25 (0, 0)) (by have b_ := BK125; have f_ := NB125_126; exact zb_) hb); replace BK126 := Aside0.mk (blk_below (g := gb126) (o := .cells #[.int .i64 t121, .slice Ao77 t122.length co77] 25 (0, 0)) (by have b_ := BK126; have f_ := NB126_125; exact zb_) hb); replace HB := hbs_ hb; (try clear hb); (try clear hb2); (try clear hk); (try clear hi)))
     go_meet
     case rel => exact ⟨_, (true), z1_, H', ⟨by have := HJ2.out; first | omega | exact Nat.le_refl _⟩, ⟨z19_⟩, ⟨z20_⟩, ⟨z21_⟩, ⟨bk_ BK101.out⟩, ⟨bk_ BK102.out⟩, ⟨bk_ BK116.out⟩, ⟨bk_ BK125.out⟩, ⟨bk_ BK126.out⟩, ⟨hs_⟩⟩
    subst c81; rw [if_pos rfl] at H; obtain ⟨t128, A82, H⟩ := bx_ H; by_cases c83 : t128 = true; rotate_left
    ·replace c83 := Bool.eq_false_iff.mpr c83; subst c83; rw [if_neg nft_] at H; have H' := Aside0.mk H; clear H; have hnb102 := NB116_101.out; have hnc102 := NB101_116.out; have hnb103 := NB116_102.out; have hnc103 := NB102_116.out; have hnb104 := NB116_125.out; have hnc104 := NB125_116.out; have hnb105 := NB116_126.out; have hnc105 := NB126_116.out; obtain ⟨Z106_0, Z106_1, F106⟩ := bc2 BK116.out; have hnb107 := NB101_102.out; have hnc107 := NB102_101.out; have hnb108 := NB101_125.out; have hnc108 := NB125_101.out; have hnb109 := NB101_126.out; have hnc109 := NB126_101.out; obtain ⟨Z110_0, Z110_1, F110⟩ := bc2 BK101.out; go_wp2_with (first | (go_at_call 10; (with_reducible refine (graftageref27_Same.calls kj2 t111 _ _ t112 a0_0 _ _ l0_1 true _ ?side1 ?side2 ?side3 ?side4 A80.out).mono ?_); (case side1 => refine (Kd.R_reads' (e := 3) (base := w.heap.size) (ok := fun k_ => (some k_ ≠ (v109 : Value).ownBlock ∧ (some k_ ≠ (.slice Ao74 t118.length co74 : Value).ownBlock ∧ some k_ ≠ (.slice Ao77 t122.length co77 : Value).ownBlock))) (n := t112.length) (c := co64) ?_).2.2; exact (by (with_reducible repeat (first | apply Kd.R_alloc | apply Kd.R_drewN | apply Kd.R_drew)); exact (Kd.R_mono (Kd.R_mono (Kd.R_far (p := ⟨gb126, 1, none⟩) (Kd.R_far (p := ⟨gb126, 0, none⟩) (Kd.R_far (p := ⟨gb125, 1, none⟩) (Kd.R_far (p := ⟨gb125, 0, none⟩) (Kd.R_types (Kd.R_types HO114.out BK125.out (by decide)) BK126.out (by decide)) (fun _ hk => hk.1.2) (.int .i64 t117)) (fun _ hk => hk.1.2) (.slice Ao74 t118.length co74)) (fun _ hk => hk.2) (.int .i64 t121)) (fun _ hk => hk.2) (.slice Ao77 t122.length co77)) (fun _ h_ => h_.1)) (fun _ h_ => h_.1)))); (case side2 => exact (Kd.R_reads' HO114.out).2.1); (case side3 => exact Kd.C_below HR0_1.out (hs_)); (case side4 => exact HC0_1.out); rintro e w111 ⟨rfl, hb⟩; replace HO110 := Aside0.mk (Kd.R_below (by (with_reducible repeat (first | apply Kd.R_alloc | apply Kd.R_drewN | apply Kd.R_drew)); exact (Kd.R_mono (Kd.R_mono (Kd.R_far (p := ⟨gb126, 1, none⟩) (Kd.R_far (p := ⟨gb126, 0, none⟩) (Kd.R_far (p := ⟨gb125, 1, none⟩) (Kd.R_far (p := ⟨gb125, 0, none⟩) (Kd.R_types (Kd.R_types HO110.out BK125.out (by decide)) BK126.out (by decide)) (fun _ hk => hk.1.2) (.int .i64 t117)) (fun _ hk => hk.1.2) (.slice Ao74 t118.length co74)) (fun _ hk => hk.2) (.int .i64 t121)) (fun _ hk => hk.2) (.slice Ao77 t122.length co77)) (fun _ h_ => h_.1)) (fun _ h_ => h_.1))) hb); replace HO114 := Aside0.mk (Kd.R_below (by (with_reducible repeat (first | apply Kd.R_alloc | apply Kd.R_drewN | apply Kd.R_drew)); exact (Kd.R_mono (Kd.R_mono (Kd.R_far (p := ⟨gb126, 1, none⟩) (Kd.R_far (p := ⟨gb126, 0, none⟩) (Kd.R_far (p := ⟨gb125, 1, none⟩) (Kd.R_far (p := ⟨gb125, 0, none⟩) (Kd.R_types (Kd.R_types HO114.out BK125.out (by decide)) BK126.out (by decide)) (fun _ hk => hk.1.2) (.int .i64 t117)) (fun _ hk => hk.1.2) (.slice Ao74 t118.length co74)) (fun _ hk => hk.2) (.int .i64 t121)) (fun _ hk => hk.2) (.slice Ao77 t122.length co77)) (fun _ h_ => h_.1)) (fun _ h_ => h_.1))) hb); replace HO120 := Aside0.mk (Kd.R_below (by (with_reducible repeat (first | apply Kd.R_alloc | apply Kd.R_drewN | apply Kd.R_drew)); exact (Kd.R_mono (Kd.R_mono (Kd.R_far (p := ⟨gb126, 1, none⟩) (Kd.R_far (p := ⟨gb126, 0, none⟩) (Kd.R_far (p := ⟨gb125, 1, none⟩) (Kd.R_far (p := ⟨gb125, 0, none⟩) (Kd.R_types (Kd.R_types HO120.out BK125.out (by decide)) BK126.out (by decide)) (fun _ hk => hk.1.2) (.int .i64 t117)) (fun _ hk => hk.1.2) (.slice Ao74 t118.length co74)) (fun _ hk => hk.2) (.int .i64 t121)) (fun _ hk => hk.2) (.slice Ao77 t122.length co77)) (fun _ h_ => h_.1)) (fun _ h_ => h_.1))) hb); replace HO124 := Aside0.mk (Kd.R_below (by (with_reducible repeat (first | apply Kd.R_alloc | apply Kd.R_drewN | apply Kd.R_drew)); exact (Kd.R_mono (Kd.R_mono (Kd.R_far (p := ⟨gb126, 1, none⟩) (Kd.R_far (p := ⟨gb126, 0, none⟩) (Kd.R_far (p := ⟨gb125, 1, none⟩) (Kd.R_far (p := ⟨gb125, 0, none⟩) (Kd.R_types (Kd.R_types HO124.out BK125.out (by decide)) BK126.out (by decide)) (fun _ hk => hk.1.2) (.int .i64 t117)) (fun _ hk => hk.1.2) (.slice Ao74 t118.length co74)) (fun _ hk => hk.2) (.int .i64 t121)) (fun _ hk => hk.2) (.slice Ao77 t122.length co77)) (fun _ h_ => h_.1)) (fun _ h_ => h_.1))) hb); replace BK101 := Aside0.mk (blk_below (g := gb101) (o := .cells #[.int .i64 a0_0, .slice A0_1 l0_1.length c0_1] 25 (0, 0)) z14_ hb); replace BK102 := Aside0.mk (blk_below (g := gb102) (o := .cells #[.int .i64 a1_0, .slice A1_1 l1_1.length c1_1] 25 (0, 0)) z15_ hb); replace BK116 := Aside0.mk (blk_below (g := gb116) (o := .cells #[.int .i64 t111, .slice Ao64 t112.length co64] 25 (0, 0)) z16_ hb); replace BK125 := Aside0.mk (blk_below (g := gb125) (o := .cells #[.int .i64 t117, .slice Ao74 t118.length co74] 25 (0, 0)) (by have b_ := BK125; have f_ := NB125_126; exact zb_) hb); replace BK126 := Aside0.mk (blk_below (g := gb126) (o := .cells #[.int .i64 t121, .slice Ao77 t122.length co77] 25 (0, 0)) (by have b_ := BK126; have f_ := NB126_125; exact zb_) hb); replace HB := hbs_ hb; (try clear hb); (try clear hb2); (try clear hk); (try clear hi); have hnb112 := NB125_102.out; have hnc112 := NB102_125.out; have hnb113 := NB125_126.out; have hnc113 := NB126_125.out; obtain ⟨Z114_0, Z114_1, F114⟩ := bc2 BK125.out) | (go_at_call 15; (with_reducible refine (bitmap_Valid.calls kj2 t117 _ _ t118 false _ ?side1 ?side2 A82.out).mono ?_); (case side1 => repeat (first | exact (Kd.R_reads' HO120.out).2.2 | (with_reducible refine Kd.C_alloc ?_ _) | (with_reducible refine Kd.C_drewN ?_ _) | (with_reducible refine Kd.C_drew ?_))); (case side2 => exact (Kd.R_reads' HO120.out).2.1); rintro e w115 ⟨rfl, hb⟩; replace HO110 := Aside0.mk (Kd.R_below (rk_ HO110.out) hb); replace HO114 := Aside0.mk (Kd.R_below (rk_ HO114.out) hb); replace HO120 := Aside0.mk (Kd.R_below (rk_ HO120.out) hb); replace HO124 := Aside0.mk (Kd.R_below (rk_ HO124.out) hb); replace BK101 := ab_ BK101 hb; replace BK102 := ab_ BK102 hb; replace BK116 := ab_ BK116 hb; replace BK125 := ab_ BK125 hb; replace BK126 := ab_ BK126 hb; replace HB := hbs_ hb; (try clear hb); (try clear hb2); (try clear hk); (try clear hi)))
     go_meet
     case rel => exact ⟨_, (true), z1_, H', ⟨by have := HJ2.out; first | omega | exact Nat.le_refl _⟩, ⟨z19_⟩, ⟨z20_⟩, ⟨z21_⟩, ⟨bk_ BK101.out⟩, ⟨bk_ BK102.out⟩, ⟨bk_ BK116.out⟩, ⟨bk_ BK125.out⟩, ⟨bk_ BK126.out⟩, ⟨hs_⟩⟩
    subst c83; rw [if_pos rfl] at H; obtain ⟨t129, A84, H⟩ := bx_ H; have H' := Aside0.mk H; clear H; have hnb85 := NB116_101.out; have hnc85 := NB101_116.out; have hnb86 := NB116_102.out; have hnc86 := NB102_116.out; have hnb87 := NB116_125.out; have hnc87 := NB125_116.out; have hnb88 := NB116_126.out; have hnc88 := NB126_116.out; obtain ⟨Z89_0, Z89_1, F89⟩ := bc2 BK116.out; have hnb90 := NB101_102.out; have hnc90 := NB102_101.out; have hnb91 := NB101_125.out; have hnc91 := NB125_101.out; have hnb92 := NB101_126.out; have hnc92 := NB126_101.out; obtain ⟨Z93_0, Z93_1, F93⟩ := bc2 BK101.out; have tk13_ : True := trivial; have tk14_ : True := trivial; go_wp2_with (first | (go_at_call 10; (with_reducible refine (graftageref27_Same.calls kj2 t111 _ _ t112 a0_0 _ _ l0_1 true _ ?side1 ?side2 ?side3 ?side4 A80.out).mono ?_); (case side1 => refine (Kd.R_reads' (e := 3) (base := w.heap.size) (ok := fun k_ => (some k_ ≠ (v109 : Value).ownBlock ∧ (some k_ ≠ (.slice Ao74 t118.length co74 : Value).ownBlock ∧ some k_ ≠ (.slice Ao77 t122.length co77 : Value).ownBlock))) (n := t112.length) (c := co64) ?_).2.2; exact (by (with_reducible repeat (first | apply Kd.R_alloc | apply Kd.R_drewN | apply Kd.R_drew)); exact (Kd.R_mono (Kd.R_mono (Kd.R_far (p := ⟨gb126, 1, none⟩) (Kd.R_far (p := ⟨gb126, 0, none⟩) (Kd.R_far (p := ⟨gb125, 1, none⟩) (Kd.R_far (p := ⟨gb125, 0, none⟩) (Kd.R_types (Kd.R_types HO114.out BK125.out (by decide)) BK126.out (by decide)) (fun _ hk => hk.1.2) (.int .i64 t117)) (fun _ hk => hk.1.2) (.slice Ao74 t118.length co74)) (fun _ hk => hk.2) (.int .i64 t121)) (fun _ hk => hk.2) (.slice Ao77 t122.length co77)) (fun _ h_ => h_.1)) (fun _ h_ => h_.1)))); (case side2 => exact (Kd.R_reads' HO114.out).2.1); (case side3 => exact Kd.C_below HR0_1.out (hs_)); (case side4 => exact HC0_1.out); rintro e w94 ⟨rfl, hb⟩; replace HO110 := Aside0.mk (Kd.R_below (by (with_reducible repeat (first | apply Kd.R_alloc | apply Kd.R_drewN | apply Kd.R_drew)); exact (Kd.R_mono (Kd.R_mono (Kd.R_far (p := ⟨gb126, 1, none⟩) (Kd.R_far (p := ⟨gb126, 0, none⟩) (Kd.R_far (p := ⟨gb125, 1, none⟩) (Kd.R_far (p := ⟨gb125, 0, none⟩) (Kd.R_types (Kd.R_types HO110.out BK125.out (by decide)) BK126.out (by decide)) (fun _ hk => hk.1.2) (.int .i64 t117)) (fun _ hk => hk.1.2) (.slice Ao74 t118.length co74)) (fun _ hk => hk.2) (.int .i64 t121)) (fun _ hk => hk.2) (.slice Ao77 t122.length co77)) (fun _ h_ => h_.1)) (fun _ h_ => h_.1))) hb); replace HO114 := Aside0.mk (Kd.R_below (by (with_reducible repeat (first | apply Kd.R_alloc | apply Kd.R_drewN | apply Kd.R_drew)); exact (Kd.R_mono (Kd.R_mono (Kd.R_far (p := ⟨gb126, 1, none⟩) (Kd.R_far (p := ⟨gb126, 0, none⟩) (Kd.R_far (p := ⟨gb125, 1, none⟩) (Kd.R_far (p := ⟨gb125, 0, none⟩) (Kd.R_types (Kd.R_types HO114.out BK125.out (by decide)) BK126.out (by decide)) (fun _ hk => hk.1.2) (.int .i64 t117)) (fun _ hk => hk.1.2) (.slice Ao74 t118.length co74)) (fun _ hk => hk.2) (.int .i64 t121)) (fun _ hk => hk.2) (.slice Ao77 t122.length co77)) (fun _ h_ => h_.1)) (fun _ h_ => h_.1))) hb); replace HO120 := Aside0.mk (Kd.R_below (by (with_reducible repeat (first | apply Kd.R_alloc | apply Kd.R_drewN | apply Kd.R_drew)); exact (Kd.R_mono (Kd.R_mono (Kd.R_far (p := ⟨gb126, 1, none⟩) (Kd.R_far (p := ⟨gb126, 0, none⟩) (Kd.R_far (p := ⟨gb125, 1, none⟩) (Kd.R_far (p := ⟨gb125, 0, none⟩) (Kd.R_types (Kd.R_types HO120.out BK125.out (by decide)) BK126.out (by decide)) (fun _ hk => hk.1.2) (.int .i64 t117)) (fun _ hk => hk.1.2) (.slice Ao74 t118.length co74)) (fun _ hk => hk.2) (.int .i64 t121)) (fun _ hk => hk.2) (.slice Ao77 t122.length co77)) (fun _ h_ => h_.1)) (fun _ h_ => h_.1))) hb); replace HO124 := Aside0.mk (Kd.R_below (by (with_reducible repeat (first | apply Kd.R_alloc | apply Kd.R_drewN | apply Kd.R_drew)); exact (Kd.R_mono (Kd.R_mono (Kd.R_far (p := ⟨gb126, 1, none⟩) (Kd.R_far (p := ⟨gb126, 0, none⟩) (Kd.R_far (p := ⟨gb125, 1, none⟩) (Kd.R_far (p := ⟨gb125, 0, none⟩) (Kd.R_types (Kd.R_types HO124.out BK125.out (by decide)) BK126.out (by decide)) (fun _ hk => hk.1.2) (.int .i64 t117)) (fun _ hk => hk.1.2) (.slice Ao74 t118.length co74)) (fun _ hk => hk.2) (.int .i64 t121)) (fun _ hk => hk.2) (.slice Ao77 t122.length co77)) (fun _ h_ => h_.1)) (fun _ h_ => h_.1))) hb); replace BK101 := Aside0.mk (blk_below (g := gb101) (o := .cells #[.int .i64 a0_0, .slice A0_1 l0_1.length c0_1] 25 (0, 0)) z14_ hb); replace BK102 := Aside0.mk (blk_below (g := gb102) (o := .cells #[.int .i64 a1_0, .slice A1_1 l1_1.length c1_1] 25 (0, 0)) z15_ hb); replace BK116 := Aside0.mk (blk_below (g := gb116) (o := .cells #[.int .i64 t111, .slice Ao64 t112.length co64] 25 (0, 0)) z16_ hb); replace BK125 := Aside0.mk (blk_below (g := gb125) (o := .cells #[.int .i64 t117, .slice Ao74 t118.length co74] 25 (0, 0)) (by have b_ := BK125; have f_ := NB125_126; exact zb_) hb); replace BK126 := Aside0.mk (blk_below (g := gb126) (o := .cells #[.int .i64 t121, .slice Ao77 t122.length co77] 25 (0, 0)) (by have b_ := BK126; have f_ := NB126_125; exact zb_) hb); replace HB := hbs_ hb; (try clear hb); (try clear hb2); (try clear hk); (try clear hi); have hnb95 := NB125_102.out; have hnc95 := NB102_125.out; have hnb96 := NB125_126.out; have hnc96 := NB126_125.out; obtain ⟨Z97_0, Z97_1, F97⟩ := bc2 BK125.out) | (go_at_call 15; have _t := tk13_; (with_reducible refine (bitmap_Valid.calls kj2 t117 _ _ t118 true _ ?side1 ?side2 A82.out).mono ?_); (case side1 => repeat (first | exact (Kd.R_reads' HO120.out).2.2 | (with_reducible refine Kd.C_alloc ?_ _) | (with_reducible refine Kd.C_drewN ?_ _) | (with_reducible refine Kd.C_drew ?_))); (case side2 => exact (Kd.R_reads' HO120.out).2.1); rintro e w98 ⟨rfl, hb⟩; replace HO110 := Aside0.mk (Kd.R_below (rk_ HO110.out) hb); replace HO114 := Aside0.mk (Kd.R_below (rk_ HO114.out) hb); replace HO120 := Aside0.mk (Kd.R_below (rk_ HO120.out) hb); replace HO124 := Aside0.mk (Kd.R_below (rk_ HO124.out) hb); replace BK101 := ab_ BK101 hb; replace BK102 := ab_ BK102 hb; replace BK116 := ab_ BK116 hb; replace BK125 := ab_ BK125 hb; replace BK126 := ab_ BK126 hb; replace HB := hbs_ hb; (try clear hb); (try clear hb2); (try clear hk); (try clear hi); have hnb99 := NB126_102.out; have hnc99 := NB102_126.out; obtain ⟨Z100_0, Z100_1, F100⟩ := bc2 BK126.out; clear tk13_) | (go_at_call 15; have _t := tk14_; (with_reducible refine (bitmap_Valid.calls kj2 t121 _ _ t122 t129 _ ?side1 ?side2 A84.out).mono ?_); (case side1 => repeat (first | exact (Kd.R_reads' HO124.out).2.2 | (with_reducible refine Kd.C_alloc ?_ _) | (with_reducible refine Kd.C_drewN ?_ _) | (with_reducible refine Kd.C_drew ?_))); (case side2 => exact (Kd.R_reads' HO124.out).2.1); rintro e w101 ⟨rfl, hb⟩; replace HO110 := Aside0.mk (Kd.R_below (rk_ HO110.out) hb); replace HO114 := Aside0.mk (Kd.R_below (rk_ HO114.out) hb); replace HO120 := Aside0.mk (Kd.R_below (rk_ HO120.out) hb); replace HO124 := Aside0.mk (Kd.R_below (rk_ HO124.out) hb); replace BK101 := ab_ BK101 hb; replace BK102 := ab_ BK102 hb; replace BK116 := ab_ BK116 hb; replace BK125 := ab_ BK125 hb; replace BK126 := ab_ BK126 hb; replace HB := hbs_ hb; (try clear hb); (try clear hb2); (try clear hk); (try clear hi); clear tk14_))
    go_meet
    case rel => exact ⟨_, (!t129), z1_, H', ⟨by have := HJ2.out; first | omega | exact Nat.le_refl _⟩, ⟨z19_⟩, ⟨z20_⟩, ⟨z21_⟩, ⟨bk_ BK101.out⟩, ⟨bk_ BK102.out⟩, ⟨bk_ BK116.out⟩, ⟨bk_ BK125.out⟩, ⟨bk_ BK126.out⟩, ⟨hs_⟩⟩
   case rest =>
    clear HC56; try clear c1
    try clear p2
    try clear c7
    try clear c8
    try clear c9
    try clear c10
    try clear c11
    try clear c12
    try clear c19
    try clear c79
    try clear c79b0
    try clear c79b1
    try clear c81
    try clear c83
    try clear c85
    try clear c86
    try clear c87
    try clear c88
    try clear c90
    try clear c91
    try clear c92
    try clear c95
    try clear c96
    try clear c99
    try clear c102
    try clear c103
    try clear c104
    try clear c105
    try clear c107
    try clear c108
    try clear c109
    try clear c112
    try clear c113
    try clear c116
    try clear c117
    try clear c118
    try clear c119
    try clear c121
    try clear c122
    try clear c123
    try clear Z100_0 Z100_1
    try clear Z106_0 Z106_1
    try clear Z110_0 Z110_1
    try clear Z114_0 Z114_1
    try clear Z120_0 Z120_1
    try clear Z124_0 Z124_1
    try clear Z89_0 Z89_1
    try clear Z93_0 Z93_1
    try clear Z97_0 Z97_1
    try clear F100
    try clear F106
    try clear F110
    try clear F114
    try clear F120
    try clear F124
    try clear F89
    try clear F93
    try clear F97
    obtain ⟨kq, x66_55, rfl, HA, HJ55, HO_117001, HO_126001, HO_127001, BK101, BK102, BK116, BK125, BK126, HB⟩ := hcut
    cases kq with
    | zero => exact absurd HA.out (by simp [graftagelaw27_BitmapBack.j1])
    | succ kj55 =>
     have H := HA.out; clear HA; simp only [graftagelaw27_BitmapBack.j1] at H; by_cases c126 : x66_55 = true
     ·subst c126; rw [if_pos rfl] at H; exact absurd ((Option.some.inj H).trans hr_) (by simp)
     replace c126 := Bool.eq_false_iff.mpr c126; subst c126; rw [if_neg nft_] at H; obtain ⟨t130, A127, H⟩ := bx_ H; obtain ⟨t133, A128, H⟩ := bx_ H; obtain ⟨t136, A129, H⟩ := bx_ H; obtain ⟨t139, A130, H⟩ := bx_ H; by_cases c131 : (wrap64 ((t130.length : Int) + (t133.length : Int))) = (wrap64 ((t136.length : Int) + (t139.length : Int))); rotate_left
     ·rw [if_neg c131] at H; have c131b0 := ef_ c131; have c131b1 := nt_ c131; exact absurd ((Option.some.inj H).trans hr_) (by simp)
     rw [if_pos c131] at H; have c131b0 := et_ c131; have c131b1 := nf_ c131; clear c131; obtain ⟨⟨t142, t143⟩, A132, H⟩ := bx_ H; dsimp only at H; obtain ⟨t146, A133, H⟩ := bx_ H; by_cases c134 : t146 = true; rotate_left
     ·replace c134 := Bool.eq_false_iff.mpr c134; subst c134; rw [if_neg nft_] at H; exact absurd ((Option.some.inj H).trans hr_) (by simp)
     subst c134; rw [if_pos rfl] at H; obtain ⟨⟨t147, t148⟩, A135, H⟩ := bx_ H; dsimp only at H; obtain ⟨t151, A136, H⟩ := bx_ H; by_cases c137 : t151 = true; rotate_left
     ·replace c137 := Bool.eq_false_iff.mpr c137; subst c137; rw [if_neg nft_] at H; exact absurd ((Option.some.inj H).trans hr_) (by simp)
     subst c137; rw [if_pos rfl] at H; obtain ⟨⟨t152, t153⟩, A138, H⟩ := bx_ H; dsimp only at H; obtain ⟨⟨t156, t157⟩, A139, H⟩ := bx_ H; dsimp only at H; obtain ⟨t160, A140, H⟩ := bx_ H; by_cases c141 : t160 = true; rotate_left
     ·replace c141 := Bool.eq_false_iff.mpr c141; subst c141; rw [if_neg nft_] at H; exact absurd ((Option.some.inj H).trans hr_) (by simp)
     subst c141; rw [if_pos rfl] at H; obtain ⟨⟨t161, t162⟩, A142, H⟩ := bx_ H; dsimp only at H; obtain ⟨⟨t165, t166⟩, A143, H⟩ := bx_ H; dsimp only at H; obtain ⟨⟨t169, t170⟩, A144, H⟩ := bx_ H; dsimp only at H; obtain ⟨t173, A145, H⟩ := bx_ H; by_cases c146 : t173 = true; rotate_left
     ·replace c146 := Bool.eq_false_iff.mpr c146; subst c146; rw [if_neg nft_] at H; exact absurd ((Option.some.inj H).trans hr_) (by simp)
     subst c146; rw [if_pos rfl] at H; obtain ⟨t174, A147, H⟩ := bx_ H; obtain rfl := oi_ H; try go_wp2
     replace HO_117001 := Aside0.mk (Kd.R_drew HO_117001.out); replace HO_126001 := Aside0.mk (Kd.R_drew HO_126001.out); replace HO_127001 := Aside0.mk (Kd.R_drew HO_127001.out); replace BK101 := ad_ BK101; replace BK102 := ad_ BK102; replace BK116 := ad_ BK116; replace BK125 := ad_ BK125; replace BK126 := ad_ BK126; replace HB := hd_ HB; refine start_ (n := 15) (S := fun w' => w'.cell? ⟨gb125, 0, none⟩ = some (.int .i64 t117) ∧ w'.cell? ⟨gb125, 1, none⟩ = some (.slice Ao74 t118.length co74) ∧ w'.cell? ⟨gb126, 0, none⟩ = some (.int .i64 t121) ∧ w'.cell? ⟨gb126, 1, none⟩ = some (.slice Ao77 t122.length co77) ∧ w'.cell? ⟨gb101, 0, none⟩ = some (.int .i64 a0_0) ∧ w'.cell? ⟨gb101, 1, none⟩ = some (.slice A0_1 l0_1.length c0_1) ∧ w'.cell? ⟨gb102, 0, none⟩ = some (.int .i64 a1_0) ∧ w'.cell? ⟨gb102, 1, none⟩ = some (.slice A1_1 l1_1.length c1_1)) (ds := []) (bs 15 0) (by kernel_rfl) rfl rfl ⟨(blk_cell BK125.out 0).trans rfl, (blk_cell BK125.out 1).trans rfl, (blk_cell BK126.out 0).trans rfl, (blk_cell BK126.out 1).trans rfl, (blk_cell BK101.out 0).trans rfl, (blk_cell BK101.out 1).trans rfl, (blk_cell BK102.out 0).trans rfl, (blk_cell BK102.out 1).trans rfl⟩ (fun hHeld => ?_); refine with_tabW graftagelaw27_BitmapBack.tab7 graftagelaw27_BitmapBack.bits7 (fun HT_ HW_ => ?_); generalize wc.drew = w148 at HO_117001 HO_126001 HO_127001 BK101 BK102 BK116 BK125 BK126 HB hHeld ⊢; refine tkW8n_ 0 67 15 1 hHeld ?_; refine tkW8n_ 3 70 15 9 hHeld ?_; refine tkW8n_ 7 74 15 137 hHeld ?_; refine tkW8n_ 10 77 15 1161 hHeld ?_; refine on_ 1 68 15 1163 (fun K hK => ?_); refine goes_ Try.func12 (by kernel_rfl) rfl #[.agg #[.int .i64 t117, .slice Ao74 t118.length co74]] (by rfl) rfl rfl z2_ ?_
     with_reducible refine (bitmap_List.calls kj55 t117 _ _ t118 t130 _ ?side1 ?side2 A127.out).mono ?_
     (case side1 => repeat (first | exact (Kd.R_reads' HO_126001.out).2.2 | (with_reducible refine Kd.C_alloc ?_ _) | (with_reducible refine Kd.C_drewN ?_ _) | (with_reducible refine Kd.C_drew ?_)))
     (case side2 => exact (Kd.R_reads' HO_126001.out).2.1)
     rintro e w149 ⟨v131, rfl, ho0, hb⟩; refine ⟨_, rfl, ?_⟩; have HO132 := Aside0.mk (Kd.R_lower (Kd.R_new' (Kd.R_new' (Kd.R_new' ho0 (Kd.R_lt (rk_ HO_117001.out))) (Kd.R_lt (rk_ HO_126001.out))) (Kd.R_lt (rk_ HO_127001.out))) (below_size (hs_))); replace HO_117001 := Aside0.mk (Kd.R_elder' (rk_ HO_117001.out) (Kd.R_base ho0) hb); replace HO_126001 := Aside0.mk (Kd.R_elder' (rk_ HO_126001.out) (Kd.R_base ho0) hb); replace HO_127001 := Aside0.mk (Kd.R_elder' (rk_ HO_127001.out) (Kd.R_base ho0) hb); replace BK101 := ab_ BK101 hb; replace BK102 := ab_ BK102 hb; replace BK116 := ab_ BK116 hb; replace BK125 := ab_ BK125 hb; replace BK126 := ab_ BK126 hb; replace HB := hbs_ hb; (try clear hb)
     (try clear hb2)
     (try clear hk)
     (try clear hi)
     (try clear ho0)
     obtain ⟨Ao150, co150, eo150⟩ := Kd.R_slice HO132.out; (first | subst eo150 | (injection eo150 with f1_ f2_ f3_; have f4_ := f1_.symm; have f5_ := f3_.symm; clear f1_ f2_ f3_; subst f4_; subst f5_)); refine hK.out _ _ ⟨(blk_cell BK125.out 0).trans rfl, (blk_cell BK125.out 1).trans rfl, (blk_cell BK126.out 0).trans rfl, (blk_cell BK126.out 1).trans rfl, (blk_cell BK101.out 0).trans rfl, (blk_cell BK101.out 1).trans rfl, (blk_cell BK102.out 0).trans rfl, (blk_cell BK102.out 1).trans rfl⟩ (fun hHeld => ?_); clear hK K; refine nrm_ 68 ?_
     refine pun_ 2 69 15 1167 ?_; refine on_ 4 71 15 1183 (fun K hK => ?_); refine goes_ Try.func12 (by kernel_rfl) rfl #[.agg #[.int .i64 t121, .slice Ao77 t122.length co77]] (by rfl) rfl rfl z2_ ?_
     with_reducible refine (bitmap_List.calls kj55 t121 _ _ t122 t133 _ ?side1 ?side2 A128.out).mono ?_
     (case side1 => repeat (first | exact (Kd.R_reads' HO_127001.out).2.2 | (with_reducible refine Kd.C_alloc ?_ _) | (with_reducible refine Kd.C_drewN ?_ _) | (with_reducible refine Kd.C_drew ?_)))
     (case side2 => exact (Kd.R_reads' HO_127001.out).2.1)
     rintro e w151 ⟨v134, rfl, ho0, hb⟩; refine ⟨_, rfl, ?_⟩; have HO135 := Aside0.mk (Kd.R_lower (Kd.R_new' (Kd.R_new' (Kd.R_new' (Kd.R_new' ho0 (Kd.R_lt (rk_ HO_117001.out))) (Kd.R_lt (rk_ HO_126001.out))) (Kd.R_lt (rk_ HO_127001.out))) (Kd.R_lt (rk_ HO132.out))) (below_size (hs_))); replace HO_117001 := Aside0.mk (Kd.R_elder' (rk_ HO_117001.out) (Kd.R_base ho0) hb); replace HO_126001 := Aside0.mk (Kd.R_elder' (rk_ HO_126001.out) (Kd.R_base ho0) hb); replace HO_127001 := Aside0.mk (Kd.R_elder' (rk_ HO_127001.out) (Kd.R_base ho0) hb); replace HO132 := Aside0.mk (Kd.R_elder' (rk_ HO132.out) (Kd.R_base ho0) hb); replace BK101 := ab_ BK101 hb; replace BK102 := ab_ BK102 hb; replace BK116 := ab_ BK116 hb; replace BK125 := ab_ BK125 hb; replace BK126 := ab_ BK126 hb; replace HB := hbs_ hb; (try clear hb)
     (try clear hb2)
     (try clear hk)
     (try clear hi)
     (try clear ho0)
     obtain ⟨Ao152, co152, eo152⟩ := Kd.R_slice HO135.out; (first | subst eo152 | (injection eo152 with f1_ f2_ f3_; have f4_ := f1_.symm; have f5_ := f3_.symm; clear f1_ f2_ f3_; subst f4_; subst f5_)); refine hK.out _ _ ⟨(blk_cell BK125.out 0).trans rfl, (blk_cell BK125.out 1).trans rfl, (blk_cell BK126.out 0).trans rfl, (blk_cell BK126.out 1).trans rfl, (blk_cell BK101.out 0).trans rfl, (blk_cell BK101.out 1).trans rfl, (blk_cell BK102.out 0).trans rfl, (blk_cell BK102.out 1).trans rfl⟩ (fun hHeld => ?_); clear hK K; refine nrm_ 71 ?_
     refine pun_ 5 72 15 1215 ?_; refine pun_ 6 73 15 1279 ?_; refine on_ 8 75 15 1535 (fun K hK => ?_); refine goes_ Try.func12 (by kernel_rfl) rfl #[.agg #[.int .i64 a0_0, .slice A0_1 l0_1.length c0_1]] (by rfl) rfl rfl z2_ ?_
     with_reducible refine (bitmap_List.calls kj55 a0_0 _ _ l0_1 t136 _ ?side1 ?side2 A129.out).mono ?_
     (case side1 => repeat (first | exact (Kd.C_below HR0_1.out HB.out) | (with_reducible refine Kd.C_alloc ?_ _) | (with_reducible refine Kd.C_drewN ?_ _) | (with_reducible refine Kd.C_drew ?_)))
     (case side2 => exact HC0_1.out)
     rintro e w153 ⟨v137, rfl, ho0, hb⟩; refine ⟨_, rfl, ?_⟩; have HO138 := Aside0.mk (Kd.R_lower (Kd.R_new' (Kd.R_new' (Kd.R_new' (Kd.R_new' (Kd.R_new' ho0 (Kd.R_lt (rk_ HO_117001.out))) (Kd.R_lt (rk_ HO_126001.out))) (Kd.R_lt (rk_ HO_127001.out))) (Kd.R_lt (rk_ HO132.out))) (Kd.R_lt (rk_ HO135.out))) (below_size (hs_))); replace HO_117001 := Aside0.mk (Kd.R_elder' (rk_ HO_117001.out) (Kd.R_base ho0) hb); replace HO_126001 := Aside0.mk (Kd.R_elder' (rk_ HO_126001.out) (Kd.R_base ho0) hb); replace HO_127001 := Aside0.mk (Kd.R_elder' (rk_ HO_127001.out) (Kd.R_base ho0) hb); replace HO132 := Aside0.mk (Kd.R_elder' (rk_ HO132.out) (Kd.R_base ho0) hb); replace HO135 := Aside0.mk (Kd.R_elder' (rk_ HO135.out) (Kd.R_base ho0) hb); replace BK101 := ab_ BK101 hb; replace BK102 := ab_ BK102 hb; replace BK116 := ab_ BK116 hb; replace BK125 := ab_ BK125 hb; replace BK126 := ab_ BK126 hb; replace HB := hbs_ hb; (try clear hb)
     (try clear hb2)
     (try clear hk)
     (try clear hi)
     (try clear ho0)
     obtain ⟨Ao154, co154, eo154⟩ := Kd.R_slice HO138.out; (first | subst eo154 | (injection eo154 with f1_ f2_ f3_; have f4_ := f1_.symm; have f5_ := f3_.symm; clear f1_ f2_ f3_; subst f4_; subst f5_)); refine hK.out _ _ ⟨(blk_cell BK125.out 0).trans rfl, (blk_cell BK125.out 1).trans rfl, (blk_cell BK126.out 0).trans rfl, (blk_cell BK126.out 1).trans rfl, (blk_cell BK101.out 0).trans rfl, (blk_cell BK101.out 1).trans rfl, (blk_cell BK102.out 0).trans rfl, (blk_cell BK102.out 1).trans rfl⟩ (fun hHeld => ?_); clear hK K; refine nrm_ 75 ?_
     refine pun_ 9 76 15 2047 ?_; refine on_ 11 78 15 4095 (fun K hK => ?_); refine goes_ Try.func12 (by kernel_rfl) rfl #[.agg #[.int .i64 a1_0, .slice A1_1 l1_1.length c1_1]] (by rfl) rfl rfl z2_ ?_
     with_reducible refine (bitmap_List.calls kj55 a1_0 _ _ l1_1 t139 _ ?side1 ?side2 A130.out).mono ?_
     (case side1 => repeat (first | exact (Kd.C_below HR1_1.out HB.out) | (with_reducible refine Kd.C_alloc ?_ _) | (with_reducible refine Kd.C_drewN ?_ _) | (with_reducible refine Kd.C_drew ?_)))
     (case side2 => exact HC1_1.out)
     rintro e w155 ⟨v140, rfl, ho0, hb⟩; refine ⟨_, rfl, ?_⟩; have HO141 := Aside0.mk (Kd.R_lower (Kd.R_new' (Kd.R_new' (Kd.R_new' (Kd.R_new' (Kd.R_new' (Kd.R_new' ho0 (Kd.R_lt (rk_ HO_117001.out))) (Kd.R_lt (rk_ HO_126001.out))) (Kd.R_lt (rk_ HO_127001.out))) (Kd.R_lt (rk_ HO132.out))) (Kd.R_lt (rk_ HO135.out))) (Kd.R_lt (rk_ HO138.out))) (below_size (hs_))); replace HO_117001 := Aside0.mk (Kd.R_elder' (rk_ HO_117001.out) (Kd.R_base ho0) hb); replace HO_126001 := Aside0.mk (Kd.R_elder' (rk_ HO_126001.out) (Kd.R_base ho0) hb); replace HO_127001 := Aside0.mk (Kd.R_elder' (rk_ HO_127001.out) (Kd.R_base ho0) hb); replace HO132 := Aside0.mk (Kd.R_elder' (rk_ HO132.out) (Kd.R_base ho0) hb); replace HO135 := Aside0.mk (Kd.R_elder' (rk_ HO135.out) (Kd.R_base ho0) hb); replace HO138 := Aside0.mk (Kd.R_elder' (rk_ HO138.out) (Kd.R_base ho0) hb); replace BK101 := ab_ BK101 hb; replace BK102 := ab_ BK102 hb; replace BK116 := ab_ BK116 hb; replace BK125 := ab_ BK125 hb; replace BK126 := ab_ BK126 hb; replace HB := hbs_ hb; (try clear hb)
     (try clear hb2)
     (try clear hk)
     (try clear hi)
     (try clear ho0)
     obtain ⟨Ao156, co156, eo156⟩ := Kd.R_slice HO141.out; (first | subst eo156 | (injection eo156 with f1_ f2_ f3_; have f4_ := f1_.symm; have f5_ := f3_.symm; clear f1_ f2_ f3_; subst f4_; subst f5_)); refine hK.out _ _ ⟨(blk_cell BK125.out 0).trans rfl, (blk_cell BK125.out 1).trans rfl, (blk_cell BK126.out 0).trans rfl, (blk_cell BK126.out 1).trans rfl, (blk_cell BK101.out 0).trans rfl, (blk_cell BK101.out 1).trans rfl, (blk_cell BK102.out 0).trans rfl, (blk_cell BK102.out 1).trans rfl⟩ (fun hHeld => ?_); clear hK K; refine nrm_ 78 ?_
     refine pun_ 12 79 15 8191 ?_; refine pun_ 13 80 15 16383 ?_; refine pun_ 14 81 15 32767 ?_; refine dn_ ?_; try go_wp2
     replace HO_117001 := Aside0.mk (Kd.R_drew HO_117001.out); replace HO_126001 := Aside0.mk (Kd.R_drew HO_126001.out); replace HO_127001 := Aside0.mk (Kd.R_drew HO_127001.out); replace HO132 := Aside0.mk (Kd.R_drew HO132.out); replace HO135 := Aside0.mk (Kd.R_drew HO135.out); replace HO138 := Aside0.mk (Kd.R_drew HO138.out); replace HO141 := Aside0.mk (Kd.R_drew HO141.out); replace BK101 := ad_ BK101; replace BK102 := ad_ BK102; replace BK116 := ad_ BK116; replace BK125 := ad_ BK125; replace BK126 := ad_ BK126; replace HB := hd_ HB; refine start_ (n := 36) (S := fun w' => w'.cell? ⟨gb125, 0, none⟩ = some (.int .i64 t117) ∧ w'.cell? ⟨gb125, 1, none⟩ = some (.slice Ao74 t118.length co74) ∧ w'.cell? ⟨gb102, 0, none⟩ = some (.int .i64 a1_0) ∧ w'.cell? ⟨gb102, 1, none⟩ = some (.slice A1_1 l1_1.length c1_1) ∧ w'.cell? ⟨gb101, 0, none⟩ = some (.int .i64 a0_0) ∧ w'.cell? ⟨gb101, 1, none⟩ = some (.slice A0_1 l0_1.length c0_1) ∧ w'.cell? ⟨gb126, 0, none⟩ = some (.int .i64 t121) ∧ w'.cell? ⟨gb126, 1, none⟩ = some (.slice Ao77 t122.length co77)) (ds := []) (bs 36 0) (by kernel_rfl) rfl rfl ⟨(blk_cell BK125.out 0).trans rfl, (blk_cell BK125.out 1).trans rfl, (blk_cell BK102.out 0).trans rfl, (blk_cell BK102.out 1).trans rfl, (blk_cell BK101.out 0).trans rfl, (blk_cell BK101.out 1).trans rfl, (blk_cell BK126.out 0).trans rfl, (blk_cell BK126.out 1).trans rfl⟩ (fun hHeld => ?_); refine with_tabW graftagelaw27_BitmapBack.tab9 graftagelaw27_BitmapBack.bits9 (fun HT_ HW_ => ?_); generalize w155.drew = w157 at HO_117001 HO_126001 HO_127001 HO132 HO135 HO138 HO141 BK101 BK102 BK116 BK125 BK126 HB hHeld ⊢; refine tkW8n_ 0 82 36 1 hHeld ?_; refine tkW8n_ 1 83 36 3 hHeld ?_; refine tkW8n_ 2 84 36 7 hHeld ?_; refine on_ 3 85 36 15 (fun K hK => ?_); refine goes_ Try.func17 (by kernel_rfl) rfl #[.agg #[.int .i64 a1_0, .slice A1_1 l1_1.length c1_1], .agg #[.int .i64 a0_0, .slice A0_1 l0_1.length c0_1]] (by rfl) rfl rfl z2_ ?_
     with_reducible refine (bitmap_Or.calls a1_0 _ _ l1_1 a0_0 _ _ l0_1 t142 t143 _ ?side1 ?side2 ?side3 ?side4 A132.out).mono ?_
     (case side1 => repeat (first | exact (Kd.C_below HR1_1.out HB.out) | (with_reducible refine Kd.C_alloc ?_ _) | (with_reducible refine Kd.C_drewN ?_ _) | (with_reducible refine Kd.C_drew ?_)))
     (case side2 => exact HC1_1.out)
     (case side3 => repeat (first | exact (Kd.C_below HR0_1.out HB.out) | (with_reducible refine Kd.C_alloc ?_ _) | (with_reducible refine Kd.C_drewN ?_ _) | (with_reducible refine Kd.C_drew ?_)))
     (case side4 => exact HC0_1.out)
     rintro e w158 ⟨v144, rfl, ho0, hb⟩; refine ⟨_, rfl, ?_⟩; have HO145 := Aside0.mk (Kd.R_lower (Kd.R_new' (Kd.R_new' (Kd.R_new' (Kd.R_new' (Kd.R_new' (Kd.R_new' (Kd.R_new' ho0 (Kd.R_lt (rk_ HO_117001.out))) (Kd.R_lt (rk_ HO_126001.out))) (Kd.R_lt (rk_ HO_127001.out))) (Kd.R_lt (rk_ HO132.out))) (Kd.R_lt (rk_ HO135.out))) (Kd.R_lt (rk_ HO138.out))) (Kd.R_lt (rk_ HO141.out))) (below_size (hs_))); replace HO_117001 := Aside0.mk (Kd.R_elder' (rk_ HO_117001.out) (Kd.R_base ho0) hb); replace HO_126001 := Aside0.mk (Kd.R_elder' (rk_ HO_126001.out) (Kd.R_base ho0) hb); replace HO_127001 := Aside0.mk (Kd.R_elder' (rk_ HO_127001.out) (Kd.R_base ho0) hb); replace HO132 := Aside0.mk (Kd.R_elder' (rk_ HO132.out) (Kd.R_base ho0) hb); replace HO135 := Aside0.mk (Kd.R_elder' (rk_ HO135.out) (Kd.R_base ho0) hb); replace HO138 := Aside0.mk (Kd.R_elder' (rk_ HO138.out) (Kd.R_base ho0) hb); replace HO141 := Aside0.mk (Kd.R_elder' (rk_ HO141.out) (Kd.R_base ho0) hb); replace BK101 := ab_ BK101 hb; replace BK102 := ab_ BK102 hb; replace BK116 := ab_ BK116 hb; replace BK125 := ab_ BK125 hb; replace BK126 := ab_ BK126 hb; replace HB := hbs_ hb; (try clear hb)
     (try clear hb2)
     (try clear hk)
     (try clear hi)
     (try clear ho0)
     obtain ⟨Ao159, co159, eo159⟩ := Kd.R_slice HO145.out; (first | subst eo159 | (injection eo159 with f1_ f2_ f3_; have f4_ := f1_.symm; have f5_ := f3_.symm; clear f1_ f2_ f3_; subst f4_; subst f5_)); refine hK.out _ _ ⟨(blk_cell BK125.out 0).trans rfl, (blk_cell BK125.out 1).trans rfl, (blk_cell BK102.out 0).trans rfl, (blk_cell BK102.out 1).trans rfl, (blk_cell BK101.out 0).trans rfl, (blk_cell BK101.out 1).trans rfl, (blk_cell BK126.out 0).trans rfl, (blk_cell BK126.out 1).trans rfl⟩ (fun hHeld => ?_); clear hK K; refine nrm_ 85 ?_
     refine on_ 4 86 36 31 (fun K hK => ?_); refine goes_ Try.func10 (by kernel_rfl) rfl #[.agg #[.int .i64 t117, .slice Ao74 t118.length co74], .agg #[.int .i64 t142, .slice Ao159 t143.length co159]] (by rfl) rfl rfl z2_ ?_
     with_reducible refine (graftageref27_Same.calls kj55 t117 _ _ t118 t142 _ _ t143 true _ ?side1 ?side2 ?side3 ?side4 A133.out).mono ?_
     (case side1 => repeat (first | exact (Kd.R_reads' HO_126001.out).2.2 | (with_reducible refine Kd.C_alloc ?_ _) | (with_reducible refine Kd.C_drewN ?_ _) | (with_reducible refine Kd.C_drew ?_)))
     (case side2 => exact (Kd.R_reads' HO_126001.out).2.1)
     (case side3 => repeat (first | exact (Kd.R_reads' HO145.out).2.2 | (with_reducible refine Kd.C_alloc ?_ _) | (with_reducible refine Kd.C_drewN ?_ _) | (with_reducible refine Kd.C_drew ?_)))
     (case side4 => exact (Kd.R_reads' HO145.out).2.1)
     rintro e w160 ⟨rfl, hb⟩; refine ⟨_, rfl, ?_⟩; replace HO_117001 := Aside0.mk (Kd.R_below (rk_ HO_117001.out) hb); replace HO_126001 := Aside0.mk (Kd.R_below (rk_ HO_126001.out) hb); replace HO_127001 := Aside0.mk (Kd.R_below (rk_ HO_127001.out) hb); replace HO132 := Aside0.mk (Kd.R_below (rk_ HO132.out) hb); replace HO135 := Aside0.mk (Kd.R_below (rk_ HO135.out) hb); replace HO138 := Aside0.mk (Kd.R_below (rk_ HO138.out) hb); replace HO141 := Aside0.mk (Kd.R_below (rk_ HO141.out) hb); replace HO145 := Aside0.mk (Kd.R_below (rk_ HO145.out) hb); replace BK101 := ab_ BK101 hb; replace BK102 := ab_ BK102 hb; replace BK116 := ab_ BK116 hb; replace BK125 := ab_ BK125 hb; replace BK126 := ab_ BK126 hb; replace HB := hbs_ hb; (try clear hb)
     (try clear hb2)
     (try clear hk)
     (try clear hi)
     refine hK.out _ _ ⟨(blk_cell BK125.out 0).trans rfl, (blk_cell BK125.out 1).trans rfl, (blk_cell BK102.out 0).trans rfl, (blk_cell BK102.out 1).trans rfl, (blk_cell BK101.out 0).trans rfl, (blk_cell BK101.out 1).trans rfl, (blk_cell BK126.out 0).trans rfl, (blk_cell BK126.out 1).trans rfl⟩ (fun hHeld => ?_); clear hK K; refine nrm_ 86 ?_
     refine pun_ 5 87 36 63 ?_; refine tkW8n_ 6 88 36 127 hHeld ?_; refine tkW8n_ 7 89 36 255 hHeld ?_; refine tkW8n_ 8 90 36 511 hHeld ?_; refine on_ 9 91 36 1023 (fun K hK => ?_); refine goes_ Try.func19 (by kernel_rfl) rfl #[.agg #[.int .i64 a1_0, .slice A1_1 l1_1.length c1_1], .agg #[.int .i64 a0_0, .slice A0_1 l0_1.length c0_1]] (by rfl) rfl rfl z2_ ?_
     with_reducible refine (bitmap_And.calls a1_0 _ _ l1_1 a0_0 _ _ l0_1 t147 t148 _ ?side1 ?side2 ?side3 ?side4 A135.out).mono ?_
     (case side1 => repeat (first | exact (Kd.C_below HR1_1.out HB.out) | (with_reducible refine Kd.C_alloc ?_ _) | (with_reducible refine Kd.C_drewN ?_ _) | (with_reducible refine Kd.C_drew ?_)))
     (case side2 => exact HC1_1.out)
     (case side3 => repeat (first | exact (Kd.C_below HR0_1.out HB.out) | (with_reducible refine Kd.C_alloc ?_ _) | (with_reducible refine Kd.C_drewN ?_ _) | (with_reducible refine Kd.C_drew ?_)))
     (case side4 => exact HC0_1.out)
     rintro e w161 ⟨v149, rfl, ho0, hb⟩; refine ⟨_, rfl, ?_⟩; have HO150 := Aside0.mk (Kd.R_lower (Kd.R_new' (Kd.R_new' (Kd.R_new' (Kd.R_new' (Kd.R_new' (Kd.R_new' (Kd.R_new' (Kd.R_new' ho0 (Kd.R_lt (rk_ HO_117001.out))) (Kd.R_lt (rk_ HO_126001.out))) (Kd.R_lt (rk_ HO_127001.out))) (Kd.R_lt (rk_ HO132.out))) (Kd.R_lt (rk_ HO135.out))) (Kd.R_lt (rk_ HO138.out))) (Kd.R_lt (rk_ HO141.out))) (Kd.R_lt (rk_ HO145.out))) (below_size (hs_))); replace HO_117001 := Aside0.mk (Kd.R_elder' (rk_ HO_117001.out) (Kd.R_base ho0) hb); replace HO_126001 := Aside0.mk (Kd.R_elder' (rk_ HO_126001.out) (Kd.R_base ho0) hb); replace HO_127001 := Aside0.mk (Kd.R_elder' (rk_ HO_127001.out) (Kd.R_base ho0) hb); replace HO132 := Aside0.mk (Kd.R_elder' (rk_ HO132.out) (Kd.R_base ho0) hb); replace HO135 := Aside0.mk (Kd.R_elder' (rk_ HO135.out) (Kd.R_base ho0) hb); replace HO138 := Aside0.mk (Kd.R_elder' (rk_ HO138.out) (Kd.R_base ho0) hb); replace HO141 := Aside0.mk (Kd.R_elder' (rk_ HO141.out) (Kd.R_base ho0) hb); replace HO145 := Aside0.mk (Kd.R_elder' (rk_ HO145.out) (Kd.R_base ho0) hb); replace BK101 := ab_ BK101 hb; replace BK102 := ab_ BK102 hb; replace BK116 := ab_ BK116 hb; replace BK125 := ab_ BK125 hb; replace BK126 := ab_ BK126 hb; replace HB := hbs_ hb; (try clear hb)
     (try clear hb2)
     (try clear hk)
     (try clear hi)
     (try clear ho0)
     obtain ⟨Ao162, co162, eo162⟩ := Kd.R_slice HO150.out; (first | subst eo162 | (injection eo162 with f1_ f2_ f3_; have f4_ := f1_.symm; have f5_ := f3_.symm; clear f1_ f2_ f3_; subst f4_; subst f5_)); refine hK.out _ _ ⟨(blk_cell BK125.out 0).trans rfl, (blk_cell BK125.out 1).trans rfl, (blk_cell BK102.out 0).trans rfl, (blk_cell BK102.out 1).trans rfl, (blk_cell BK101.out 0).trans rfl, (blk_cell BK101.out 1).trans rfl, (blk_cell BK126.out 0).trans rfl, (blk_cell BK126.out 1).trans rfl⟩ (fun hHeld => ?_); clear hK K; refine nrm_ 91 ?_
     refine on_ 10 92 36 2047 (fun K hK => ?_); refine goes_ Try.func10 (by kernel_rfl) rfl #[.agg #[.int .i64 t121, .slice Ao77 t122.length co77], .agg #[.int .i64 t147, .slice Ao162 t148.length co162]] (by rfl) rfl rfl z2_ ?_
     with_reducible refine (graftageref27_Same.calls kj55 t121 _ _ t122 t147 _ _ t148 true _ ?side1 ?side2 ?side3 ?side4 A136.out).mono ?_
     (case side1 => repeat (first | exact (Kd.R_reads' HO_127001.out).2.2 | (with_reducible refine Kd.C_alloc ?_ _) | (with_reducible refine Kd.C_drewN ?_ _) | (with_reducible refine Kd.C_drew ?_)))
     (case side2 => exact (Kd.R_reads' HO_127001.out).2.1)
     (case side3 => repeat (first | exact (Kd.R_reads' HO150.out).2.2 | (with_reducible refine Kd.C_alloc ?_ _) | (with_reducible refine Kd.C_drewN ?_ _) | (with_reducible refine Kd.C_drew ?_)))
     (case side4 => exact (Kd.R_reads' HO150.out).2.1)
     rintro e w163 ⟨rfl, hb⟩; refine ⟨_, rfl, ?_⟩; replace HO_117001 := Aside0.mk (Kd.R_below (rk_ HO_117001.out) hb); replace HO_126001 := Aside0.mk (Kd.R_below (rk_ HO_126001.out) hb); replace HO_127001 := Aside0.mk (Kd.R_below (rk_ HO_127001.out) hb); replace HO132 := Aside0.mk (Kd.R_below (rk_ HO132.out) hb); replace HO135 := Aside0.mk (Kd.R_below (rk_ HO135.out) hb); replace HO138 := Aside0.mk (Kd.R_below (rk_ HO138.out) hb); replace HO141 := Aside0.mk (Kd.R_below (rk_ HO141.out) hb); replace HO145 := Aside0.mk (Kd.R_below (rk_ HO145.out) hb); replace HO150 := Aside0.mk (Kd.R_below (rk_ HO150.out) hb); replace BK101 := ab_ BK101 hb; replace BK102 := ab_ BK102 hb; replace BK116 := ab_ BK116 hb; replace BK125 := ab_ BK125 hb; replace BK126 := ab_ BK126 hb; replace HB := hbs_ hb; (try clear hb)
     (try clear hb2)
     (try clear hk)
     (try clear hi)
     refine hK.out _ _ ⟨(blk_cell BK125.out 0).trans rfl, (blk_cell BK125.out 1).trans rfl, (blk_cell BK102.out 0).trans rfl, (blk_cell BK102.out 1).trans rfl, (blk_cell BK101.out 0).trans rfl, (blk_cell BK101.out 1).trans rfl, (blk_cell BK126.out 0).trans rfl, (blk_cell BK126.out 1).trans rfl⟩ (fun hHeld => ?_); clear hK K; refine nrm_ 92 ?_
     refine pun_ 11 93 36 4095 ?_; refine pun_ 12 94 36 8191 ?_; refine tkW8n_ 13 95 36 16383 hHeld ?_; refine tkW8n_ 14 96 36 32767 hHeld ?_; refine tkW8n_ 16 98 36 98303 hHeld ?_; refine tkW8n_ 18 100 36 360447 hHeld ?_; refine on_ 15 97 36 393215 (fun K hK => ?_); refine goes_ Try.func21 (by kernel_rfl) rfl #[.agg #[.int .i64 a0_0, .slice A0_1 l0_1.length c0_1], .agg #[.int .i64 a1_0, .slice A1_1 l1_1.length c1_1]] (by rfl) rfl rfl z2_ ?_
     with_reducible refine (bitmap_AndNot.calls a0_0 _ _ l0_1 a1_0 _ _ l1_1 t152 t153 _ ?side1 ?side2 ?side3 ?side4 A138.out).mono ?_
     (case side1 => repeat (first | exact (Kd.C_below HR0_1.out HB.out) | (with_reducible refine Kd.C_alloc ?_ _) | (with_reducible refine Kd.C_drewN ?_ _) | (with_reducible refine Kd.C_drew ?_)))
     (case side2 => exact HC0_1.out)
     (case side3 => repeat (first | exact (Kd.C_below HR1_1.out HB.out) | (with_reducible refine Kd.C_alloc ?_ _) | (with_reducible refine Kd.C_drewN ?_ _) | (with_reducible refine Kd.C_drew ?_)))
     (case side4 => exact HC1_1.out)
     rintro e w164 ⟨v154, rfl, ho0, hb⟩; refine ⟨_, rfl, ?_⟩; have HO155 := Aside0.mk (Kd.R_lower (Kd.R_new' (Kd.R_new' (Kd.R_new' (Kd.R_new' (Kd.R_new' (Kd.R_new' (Kd.R_new' (Kd.R_new' (Kd.R_new' ho0 (Kd.R_lt (rk_ HO_117001.out))) (Kd.R_lt (rk_ HO_126001.out))) (Kd.R_lt (rk_ HO_127001.out))) (Kd.R_lt (rk_ HO132.out))) (Kd.R_lt (rk_ HO135.out))) (Kd.R_lt (rk_ HO138.out))) (Kd.R_lt (rk_ HO141.out))) (Kd.R_lt (rk_ HO145.out))) (Kd.R_lt (rk_ HO150.out))) (below_size (hs_))); replace HO_117001 := Aside0.mk (Kd.R_elder' (rk_ HO_117001.out) (Kd.R_base ho0) hb); replace HO_126001 := Aside0.mk (Kd.R_elder' (rk_ HO_126001.out) (Kd.R_base ho0) hb); replace HO_127001 := Aside0.mk (Kd.R_elder' (rk_ HO_127001.out) (Kd.R_base ho0) hb); replace HO132 := Aside0.mk (Kd.R_elder' (rk_ HO132.out) (Kd.R_base ho0) hb); replace HO135 := Aside0.mk (Kd.R_elder' (rk_ HO135.out) (Kd.R_base ho0) hb); replace HO138 := Aside0.mk (Kd.R_elder' (rk_ HO138.out) (Kd.R_base ho0) hb); replace HO141 := Aside0.mk (Kd.R_elder' (rk_ HO141.out) (Kd.R_base ho0) hb); replace HO145 := Aside0.mk (Kd.R_elder' (rk_ HO145.out) (Kd.R_base ho0) hb); replace HO150 := Aside0.mk (Kd.R_elder' (rk_ HO150.out) (Kd.R_base ho0) hb); replace BK101 := ab_ BK101 hb; replace BK102 := ab_ BK102 hb; replace BK116 := ab_ BK116 hb; replace BK125 := ab_ BK125 hb; replace BK126 := ab_ BK126 hb; replace HB := hbs_ hb; (try clear hb)
     (try clear hb2)
     (try clear hk)
     (try clear hi)
     (try clear ho0)
     obtain ⟨Ao165, co165, eo165⟩ := Kd.R_slice HO155.out; (first | subst eo165 | (injection eo165 with f1_ f2_ f3_; have f4_ := f1_.symm; have f5_ := f3_.symm; clear f1_ f2_ f3_; subst f4_; subst f5_)); refine hK.out _ _ ⟨(blk_cell BK125.out 0).trans rfl, (blk_cell BK125.out 1).trans rfl, (blk_cell BK102.out 0).trans rfl, (blk_cell BK102.out 1).trans rfl, (blk_cell BK101.out 0).trans rfl, (blk_cell BK101.out 1).trans rfl, (blk_cell BK126.out 0).trans rfl, (blk_cell BK126.out 1).trans rfl⟩ (fun hHeld => ?_); clear hK K; refine nrm_ 97 ?_
     refine on_ 17 99 36 524287 (fun K hK => ?_); refine goes_ Try.func17 (by kernel_rfl) rfl #[.agg #[.int .i64 t152, .slice Ao165 t153.length co165], .agg #[.int .i64 t121, .slice Ao77 t122.length co77]] (by rfl) rfl rfl z2_ ?_
     with_reducible refine (bitmap_Or.calls t152 _ _ t153 t121 _ _ t122 t156 t157 _ ?side1 ?side2 ?side3 ?side4 A139.out).mono ?_
     (case side1 => repeat (first | exact (Kd.R_reads' HO155.out).2.2 | (with_reducible refine Kd.C_alloc ?_ _) | (with_reducible refine Kd.C_drewN ?_ _) | (with_reducible refine Kd.C_drew ?_)))
     (case side2 => exact (Kd.R_reads' HO155.out).2.1)
     (case side3 => repeat (first | exact (Kd.R_reads' HO_127001.out).2.2 | (with_reducible refine Kd.C_alloc ?_ _) | (with_reducible refine Kd.C_drewN ?_ _) | (with_reducible refine Kd.C_drew ?_)))
     (case side4 => exact (Kd.R_reads' HO_127001.out).2.1)
     rintro e w166 ⟨v158, rfl, ho0, hb⟩; refine ⟨_, rfl, ?_⟩; have HO159 := Aside0.mk (Kd.R_lower (Kd.R_new' (Kd.R_new' (Kd.R_new' (Kd.R_new' (Kd.R_new' (Kd.R_new' (Kd.R_new' (Kd.R_new' (Kd.R_new' (Kd.R_new' ho0 (Kd.R_lt (rk_ HO_117001.out))) (Kd.R_lt (rk_ HO_126001.out))) (Kd.R_lt (rk_ HO_127001.out))) (Kd.R_lt (rk_ HO132.out))) (Kd.R_lt (rk_ HO135.out))) (Kd.R_lt (rk_ HO138.out))) (Kd.R_lt (rk_ HO141.out))) (Kd.R_lt (rk_ HO145.out))) (Kd.R_lt (rk_ HO150.out))) (Kd.R_lt (rk_ HO155.out))) (below_size (hs_))); replace HO_117001 := Aside0.mk (Kd.R_elder' (rk_ HO_117001.out) (Kd.R_base ho0) hb); replace HO_126001 := Aside0.mk (Kd.R_elder' (rk_ HO_126001.out) (Kd.R_base ho0) hb); replace HO_127001 := Aside0.mk (Kd.R_elder' (rk_ HO_127001.out) (Kd.R_base ho0) hb); replace HO132 := Aside0.mk (Kd.R_elder' (rk_ HO132.out) (Kd.R_base ho0) hb); replace HO135 := Aside0.mk (Kd.R_elder' (rk_ HO135.out) (Kd.R_base ho0) hb); replace HO138 := Aside0.mk (Kd.R_elder' (rk_ HO138.out) (Kd.R_base ho0) hb); replace HO141 := Aside0.mk (Kd.R_elder' (rk_ HO141.out) (Kd.R_base ho0) hb); replace HO145 := Aside0.mk (Kd.R_elder' (rk_ HO145.out) (Kd.R_base ho0) hb); replace HO150 := Aside0.mk (Kd.R_elder' (rk_ HO150.out) (Kd.R_base ho0) hb); replace HO155 := Aside0.mk (Kd.R_elder' (rk_ HO155.out) (Kd.R_base ho0) hb); replace BK101 := ab_ BK101 hb; replace BK102 := ab_ BK102 hb; replace BK116 := ab_ BK116 hb; replace BK125 := ab_ BK125 hb; replace BK126 := ab_ BK126 hb; replace HB := hbs_ hb; (try clear hb)
     (try clear hb2)
     (try clear hk)
     (try clear hi)
     (try clear ho0)
     obtain ⟨Ao167, co167, eo167⟩ := Kd.R_slice HO159.out; (first | subst eo167 | (injection eo167 with f1_ f2_ f3_; have f4_ := f1_.symm; have f5_ := f3_.symm; clear f1_ f2_ f3_; subst f4_; subst f5_)); refine hK.out _ _ ⟨(blk_cell BK125.out 0).trans rfl, (blk_cell BK125.out 1).trans rfl, (blk_cell BK102.out 0).trans rfl, (blk_cell BK102.out 1).trans rfl, (blk_cell BK101.out 0).trans rfl, (blk_cell BK101.out 1).trans rfl, (blk_cell BK126.out 0).trans rfl, (blk_cell BK126.out 1).trans rfl⟩ (fun hHeld => ?_); clear hK K; refine nrm_ 99 ?_
     refine on_ 19 101 36 1048575 (fun K hK => ?_); refine goes_ Try.func10 (by kernel_rfl) rfl #[.agg #[.int .i64 t156, .slice Ao167 t157.length co167], .agg #[.int .i64 a0_0, .slice A0_1 l0_1.length c0_1]] (by rfl) rfl rfl z2_ ?_
     with_reducible refine (graftageref27_Same.calls kj55 t156 _ _ t157 a0_0 _ _ l0_1 true _ ?side1 ?side2 ?side3 ?side4 A140.out).mono ?_
     (case side1 => repeat (first | exact (Kd.R_reads' HO159.out).2.2 | (with_reducible refine Kd.C_alloc ?_ _) | (with_reducible refine Kd.C_drewN ?_ _) | (with_reducible refine Kd.C_drew ?_)))
     (case side2 => exact (Kd.R_reads' HO159.out).2.1)
     (case side3 => repeat (first | exact (Kd.C_below HR0_1.out HB.out) | (with_reducible refine Kd.C_alloc ?_ _) | (with_reducible refine Kd.C_drewN ?_ _) | (with_reducible refine Kd.C_drew ?_)))
     (case side4 => exact HC0_1.out)
     rintro e w168 ⟨rfl, hb⟩; refine ⟨_, rfl, ?_⟩; replace HO_117001 := Aside0.mk (Kd.R_below (rk_ HO_117001.out) hb); replace HO_126001 := Aside0.mk (Kd.R_below (rk_ HO_126001.out) hb); replace HO_127001 := Aside0.mk (Kd.R_below (rk_ HO_127001.out) hb); replace HO132 := Aside0.mk (Kd.R_below (rk_ HO132.out) hb); replace HO135 := Aside0.mk (Kd.R_below (rk_ HO135.out) hb); replace HO138 := Aside0.mk (Kd.R_below (rk_ HO138.out) hb); replace HO141 := Aside0.mk (Kd.R_below (rk_ HO141.out) hb); replace HO145 := Aside0.mk (Kd.R_below (rk_ HO145.out) hb); replace HO150 := Aside0.mk (Kd.R_below (rk_ HO150.out) hb); replace HO155 := Aside0.mk (Kd.R_below (rk_ HO155.out) hb); replace HO159 := Aside0.mk (Kd.R_below (rk_ HO159.out) hb); replace BK101 := ab_ BK101 hb; replace BK102 := ab_ BK102 hb; replace BK116 := ab_ BK116 hb; replace BK125 := ab_ BK125 hb; replace BK126 := ab_ BK126 hb; replace HB := hbs_ hb; (try clear hb)
     (try clear hb2)
     (try clear hk)
     (try clear hi)
     refine hK.out _ _ ⟨(blk_cell BK125.out 0).trans rfl, (blk_cell BK125.out 1).trans rfl, (blk_cell BK102.out 0).trans rfl, (blk_cell BK102.out 1).trans rfl, (blk_cell BK101.out 0).trans rfl, (blk_cell BK101.out 1).trans rfl, (blk_cell BK126.out 0).trans rfl, (blk_cell BK126.out 1).trans rfl⟩ (fun hHeld => ?_); clear hK K; refine nrm_ 101 ?_
     refine pun_ 20 102 36 2097151 ?_; refine pun_ 21 103 36 4194303 ?_; refine tkW8n_ 22 104 36 8388607 hHeld ?_; refine tkW8n_ 23 105 36 16777215 hHeld ?_; refine tkW8n_ 25 107 36 50331647 hHeld ?_; refine tkW8n_ 27 109 36 184549375 hHeld ?_; refine tkW8n_ 28 110 36 452984831 hHeld ?_; refine on_ 24 106 36 469762047 (fun K hK => ?_); refine goes_ Try.func21 (by kernel_rfl) rfl #[.agg #[.int .i64 a0_0, .slice A0_1 l0_1.length c0_1], .agg #[.int .i64 a1_0, .slice A1_1 l1_1.length c1_1]] (by rfl) rfl rfl z2_ ?_
     with_reducible refine (bitmap_AndNot.calls a0_0 _ _ l0_1 a1_0 _ _ l1_1 t161 t162 _ ?side1 ?side2 ?side3 ?side4 A142.out).mono ?_
     (case side1 => repeat (first | exact (Kd.C_below HR0_1.out HB.out) | (with_reducible refine Kd.C_alloc ?_ _) | (with_reducible refine Kd.C_drewN ?_ _) | (with_reducible refine Kd.C_drew ?_)))
     (case side2 => exact HC0_1.out)
     (case side3 => repeat (first | exact (Kd.C_below HR1_1.out HB.out) | (with_reducible refine Kd.C_alloc ?_ _) | (with_reducible refine Kd.C_drewN ?_ _) | (with_reducible refine Kd.C_drew ?_)))
     (case side4 => exact HC1_1.out)
     rintro e w169 ⟨v163, rfl, ho0, hb⟩; refine ⟨_, rfl, ?_⟩; have HO164 := Aside0.mk (Kd.R_lower (Kd.R_new' (Kd.R_new' (Kd.R_new' (Kd.R_new' (Kd.R_new' (Kd.R_new' (Kd.R_new' (Kd.R_new' (Kd.R_new' (Kd.R_new' (Kd.R_new' ho0 (Kd.R_lt (rk_ HO_117001.out))) (Kd.R_lt (rk_ HO_126001.out))) (Kd.R_lt (rk_ HO_127001.out))) (Kd.R_lt (rk_ HO132.out))) (Kd.R_lt (rk_ HO135.out))) (Kd.R_lt (rk_ HO138.out))) (Kd.R_lt (rk_ HO141.out))) (Kd.R_lt (rk_ HO145.out))) (Kd.R_lt (rk_ HO150.out))) (Kd.R_lt (rk_ HO155.out))) (Kd.R_lt (rk_ HO159.out))) (below_size (hs_))); replace HO_117001 := Aside0.mk (Kd.R_elder' (rk_ HO_117001.out) (Kd.R_base ho0) hb); replace HO_126001 := Aside0.mk (Kd.R_elder' (rk_ HO_126001.out) (Kd.R_base ho0) hb); replace HO_127001 := Aside0.mk (Kd.R_elder' (rk_ HO_127001.out) (Kd.R_base ho0) hb); replace HO132 := Aside0.mk (Kd.R_elder' (rk_ HO132.out) (Kd.R_base ho0) hb); replace HO135 := Aside0.mk (Kd.R_elder' (rk_ HO135.out) (Kd.R_base ho0) hb); replace HO138 := Aside0.mk (Kd.R_elder' (rk_ HO138.out) (Kd.R_base ho0) hb); replace HO141 := Aside0.mk (Kd.R_elder' (rk_ HO141.out) (Kd.R_base ho0) hb); replace HO145 := Aside0.mk (Kd.R_elder' (rk_ HO145.out) (Kd.R_base ho0) hb); replace HO150 := Aside0.mk (Kd.R_elder' (rk_ HO150.out) (Kd.R_base ho0) hb); replace HO155 := Aside0.mk (Kd.R_elder' (rk_ HO155.out) (Kd.R_base ho0) hb); replace HO159 := Aside0.mk (Kd.R_elder' (rk_ HO159.out) (Kd.R_base ho0) hb); replace BK101 := ab_ BK101 hb; replace BK102 := ab_ BK102 hb; replace BK116 := ab_ BK116 hb; replace BK125 := ab_ BK125 hb; replace BK126 := ab_ BK126 hb; replace HB := hbs_ hb; (try clear hb)
     (try clear hb2)
     (try clear hk)
     (try clear hi)
     (try clear ho0)
     obtain ⟨Ao170, co170, eo170⟩ := Kd.R_slice HO164.out; (first | subst eo170 | (injection eo170 with f1_ f2_ f3_; have f4_ := f1_.symm; have f5_ := f3_.symm; clear f1_ f2_ f3_; subst f4_; subst f5_)); refine hK.out _ _ ⟨(blk_cell BK125.out 0).trans rfl, (blk_cell BK125.out 1).trans rfl, (blk_cell BK102.out 0).trans rfl, (blk_cell BK102.out 1).trans rfl, (blk_cell BK101.out 0).trans rfl, (blk_cell BK101.out 1).trans rfl, (blk_cell BK126.out 0).trans rfl, (blk_cell BK126.out 1).trans rfl⟩ (fun hHeld => ?_); clear hK K; refine nrm_ 106 ?_
     refine on_ 26 108 36 536870911 (fun K hK => ?_); refine goes_ Try.func19 (by kernel_rfl) rfl #[.agg #[.int .i64 t161, .slice Ao170 t162.length co170], .agg #[.int .i64 a1_0, .slice A1_1 l1_1.length c1_1]] (by rfl) rfl rfl z2_ ?_
     with_reducible refine (bitmap_And.calls t161 _ _ t162 a1_0 _ _ l1_1 t165 t166 _ ?side1 ?side2 ?side3 ?side4 A143.out).mono ?_
     (case side1 => repeat (first | exact (Kd.R_reads' HO164.out).2.2 | (with_reducible refine Kd.C_alloc ?_ _) | (with_reducible refine Kd.C_drewN ?_ _) | (with_reducible refine Kd.C_drew ?_)))
     (case side2 => exact (Kd.R_reads' HO164.out).2.1)
     (case side3 => repeat (first | exact (Kd.C_below HR1_1.out HB.out) | (with_reducible refine Kd.C_alloc ?_ _) | (with_reducible refine Kd.C_drewN ?_ _) | (with_reducible refine Kd.C_drew ?_)))
     (case side4 => exact HC1_1.out)
     rintro e w171 ⟨v167, rfl, ho0, hb⟩; refine ⟨_, rfl, ?_⟩; have HO168 := Aside0.mk (Kd.R_lower (Kd.R_new' (Kd.R_new' (Kd.R_new' (Kd.R_new' (Kd.R_new' (Kd.R_new' (Kd.R_new' (Kd.R_new' (Kd.R_new' (Kd.R_new' (Kd.R_new' (Kd.R_new' ho0 (Kd.R_lt (rk_ HO_117001.out))) (Kd.R_lt (rk_ HO_126001.out))) (Kd.R_lt (rk_ HO_127001.out))) (Kd.R_lt (rk_ HO132.out))) (Kd.R_lt (rk_ HO135.out))) (Kd.R_lt (rk_ HO138.out))) (Kd.R_lt (rk_ HO141.out))) (Kd.R_lt (rk_ HO145.out))) (Kd.R_lt (rk_ HO150.out))) (Kd.R_lt (rk_ HO155.out))) (Kd.R_lt (rk_ HO159.out))) (Kd.R_lt (rk_ HO164.out))) (below_size (hs_))); replace HO_117001 := Aside0.mk (Kd.R_elder' (rk_ HO_117001.out) (Kd.R_base ho0) hb); replace HO_126001 := Aside0.mk (Kd.R_elder' (rk_ HO_126001.out) (Kd.R_base ho0) hb); replace HO_127001 := Aside0.mk (Kd.R_elder' (rk_ HO_127001.out) (Kd.R_base ho0) hb); replace HO132 := Aside0.mk (Kd.R_elder' (rk_ HO132.out) (Kd.R_base ho0) hb); replace HO135 := Aside0.mk (Kd.R_elder' (rk_ HO135.out) (Kd.R_base ho0) hb); replace HO138 := Aside0.mk (Kd.R_elder' (rk_ HO138.out) (Kd.R_base ho0) hb); replace HO141 := Aside0.mk (Kd.R_elder' (rk_ HO141.out) (Kd.R_base ho0) hb); replace HO145 := Aside0.mk (Kd.R_elder' (rk_ HO145.out) (Kd.R_base ho0) hb); replace HO150 := Aside0.mk (Kd.R_elder' (rk_ HO150.out) (Kd.R_base ho0) hb); replace HO155 := Aside0.mk (Kd.R_elder' (rk_ HO155.out) (Kd.R_base ho0) hb); replace HO159 := Aside0.mk (Kd.R_elder' (rk_ HO159.out) (Kd.R_base ho0) hb); replace HO164 := Aside0.mk (Kd.R_elder' (rk_ HO164.out) (Kd.R_base ho0) hb); replace BK101 := ab_ BK101 hb; replace BK102 := ab_ BK102 hb; replace BK116 := ab_ BK116 hb; replace BK125 := ab_ BK125 hb; replace BK126 := ab_ BK126 hb; replace HB := hbs_ hb; (try clear hb)
     (try clear hb2)
     (try clear hk)
     (try clear hi)
     (try clear ho0)
     refine hK.out _ _ ⟨(blk_cell BK125.out 0).trans rfl, (blk_cell BK125.out 1).trans rfl, (blk_cell BK102.out 0).trans rfl, (blk_cell BK102.out 1).trans rfl, (blk_cell BK101.out 0).trans rfl, (blk_cell BK101.out 1).trans rfl, (blk_cell BK126.out 0).trans rfl, (blk_cell BK126.out 1).trans rfl⟩ (fun hHeld => ?_); clear hK K; refine nrm_ 108 ?_
     refine on_ 29 111 36 1073741823 (fun K hK => ?_); refine goes_ Try.func21 (by kernel_rfl) rfl #[.agg #[.int .i64 a1_0, .slice A1_1 l1_1.length c1_1], .agg #[.int .i64 a1_0, .slice A1_1 l1_1.length c1_1]] (by rfl) rfl rfl z2_ ?_
     with_reducible refine (bitmap_AndNot.calls a1_0 _ _ l1_1 a1_0 _ _ l1_1 t169 t170 _ ?side1 ?side2 ?side3 ?side4 A144.out).mono ?_
     (case side1 => repeat (first | exact (Kd.C_below HR1_1.out HB.out) | (with_reducible refine Kd.C_alloc ?_ _) | (with_reducible refine Kd.C_drewN ?_ _) | (with_reducible refine Kd.C_drew ?_)))
     (case side2 => exact HC1_1.out)
     (case side3 => repeat (first | exact (Kd.C_below HR1_1.out HB.out) | (with_reducible refine Kd.C_alloc ?_ _) | (with_reducible refine Kd.C_drewN ?_ _) | (with_reducible refine Kd.C_drew ?_)))
     (case side4 => exact HC1_1.out)
     rintro e w172 ⟨v171, rfl, ho0, hb⟩; refine ⟨_, rfl, ?_⟩; have HO172 := Aside0.mk (Kd.R_lower (Kd.R_new' (Kd.R_new' (Kd.R_new' (Kd.R_new' (Kd.R_new' (Kd.R_new' (Kd.R_new' (Kd.R_new' (Kd.R_new' (Kd.R_new' (Kd.R_new' (Kd.R_new' (Kd.R_new' ho0 (Kd.R_lt (rk_ HO_117001.out))) (Kd.R_lt (rk_ HO_126001.out))) (Kd.R_lt (rk_ HO_127001.out))) (Kd.R_lt (rk_ HO132.out))) (Kd.R_lt (rk_ HO135.out))) (Kd.R_lt (rk_ HO138.out))) (Kd.R_lt (rk_ HO141.out))) (Kd.R_lt (rk_ HO145.out))) (Kd.R_lt (rk_ HO150.out))) (Kd.R_lt (rk_ HO155.out))) (Kd.R_lt (rk_ HO159.out))) (Kd.R_lt (rk_ HO164.out))) (Kd.R_lt (rk_ HO168.out))) (below_size (hs_))); replace HO_117001 := Aside0.mk (Kd.R_elder' (rk_ HO_117001.out) (Kd.R_base ho0) hb); replace HO_126001 := Aside0.mk (Kd.R_elder' (rk_ HO_126001.out) (Kd.R_base ho0) hb); replace HO_127001 := Aside0.mk (Kd.R_elder' (rk_ HO_127001.out) (Kd.R_base ho0) hb); replace HO132 := Aside0.mk (Kd.R_elder' (rk_ HO132.out) (Kd.R_base ho0) hb); replace HO135 := Aside0.mk (Kd.R_elder' (rk_ HO135.out) (Kd.R_base ho0) hb); replace HO138 := Aside0.mk (Kd.R_elder' (rk_ HO138.out) (Kd.R_base ho0) hb); replace HO141 := Aside0.mk (Kd.R_elder' (rk_ HO141.out) (Kd.R_base ho0) hb); replace HO145 := Aside0.mk (Kd.R_elder' (rk_ HO145.out) (Kd.R_base ho0) hb); replace HO150 := Aside0.mk (Kd.R_elder' (rk_ HO150.out) (Kd.R_base ho0) hb); replace HO155 := Aside0.mk (Kd.R_elder' (rk_ HO155.out) (Kd.R_base ho0) hb); replace HO159 := Aside0.mk (Kd.R_elder' (rk_ HO159.out) (Kd.R_base ho0) hb); replace HO164 := Aside0.mk (Kd.R_elder' (rk_ HO164.out) (Kd.R_base ho0) hb); replace HO168 := Aside0.mk (Kd.R_elder' (rk_ HO168.out) (Kd.R_base ho0) hb); replace BK101 := ab_ BK101 hb; replace BK102 := ab_ BK102 hb; replace BK116 := ab_ BK116 hb; replace BK125 := ab_ BK125 hb; replace BK126 := ab_ BK126 hb; replace HB := hbs_ hb; (try clear hb)
     (try clear hb2)
     (try clear hk)
     (try clear hi)
     (try clear ho0)
     obtain ⟨Ao173, co173, eo173⟩ := Kd.R_slice HO168.out; (first | subst eo173 | (injection eo173 with f1_ f2_ f3_; have f4_ := f1_.symm; have f5_ := f3_.symm; clear f1_ f2_ f3_; subst f4_; subst f5_)); obtain ⟨Ao174, co174, eo174⟩ := Kd.R_slice HO172.out; (first | subst eo174 | (injection eo174 with f1_ f2_ f3_; have f4_ := f1_.symm; have f5_ := f3_.symm; clear f1_ f2_ f3_; subst f4_; subst f5_)); refine hK.out _ _ ⟨(blk_cell BK125.out 0).trans rfl, (blk_cell BK125.out 1).trans rfl, (blk_cell BK102.out 0).trans rfl, (blk_cell BK102.out 1).trans rfl, (blk_cell BK101.out 0).trans rfl, (blk_cell BK101.out 1).trans rfl, (blk_cell BK126.out 0).trans rfl, (blk_cell BK126.out 1).trans rfl⟩ (fun hHeld => ?_); clear hK K; refine nrm_ 111 ?_
     refine on_ 30 112 36 2147483647 (fun K hK => ?_); refine goes_ Try.func10 (by kernel_rfl) rfl #[.agg #[.int .i64 t165, .slice Ao173 t166.length co173], .agg #[.int .i64 t169, .slice Ao174 t170.length co174]] (by rfl) rfl rfl z2_ ?_
     with_reducible refine (graftageref27_Same.calls kj55 t165 _ _ t166 t169 _ _ t170 true _ ?side1 ?side2 ?side3 ?side4 A145.out).mono ?_
     (case side1 => repeat (first | exact (Kd.R_reads' HO168.out).2.2 | (with_reducible refine Kd.C_alloc ?_ _) | (with_reducible refine Kd.C_drewN ?_ _) | (with_reducible refine Kd.C_drew ?_)))
     (case side2 => exact (Kd.R_reads' HO168.out).2.1)
     (case side3 => repeat (first | exact (Kd.R_reads' HO172.out).2.2 | (with_reducible refine Kd.C_alloc ?_ _) | (with_reducible refine Kd.C_drewN ?_ _) | (with_reducible refine Kd.C_drew ?_)))
     (case side4 => exact (Kd.R_reads' HO172.out).2.1)
     rintro e w175 ⟨rfl, hb⟩; refine ⟨_, rfl, ?_⟩; replace HO_117001 := Aside0.mk (Kd.R_below (rk_ HO_117001.out) hb); replace HO_126001 := Aside0.mk (Kd.R_below (rk_ HO_126001.out) hb); replace HO_127001 := Aside0.mk (Kd.R_below (rk_ HO_127001.out) hb); replace HO132 := Aside0.mk (Kd.R_below (rk_ HO132.out) hb); replace HO135 := Aside0.mk (Kd.R_below (rk_ HO135.out) hb); replace HO138 := Aside0.mk (Kd.R_below (rk_ HO138.out) hb); replace HO141 := Aside0.mk (Kd.R_below (rk_ HO141.out) hb); replace HO145 := Aside0.mk (Kd.R_below (rk_ HO145.out) hb); replace HO150 := Aside0.mk (Kd.R_below (rk_ HO150.out) hb); replace HO155 := Aside0.mk (Kd.R_below (rk_ HO155.out) hb); replace HO159 := Aside0.mk (Kd.R_below (rk_ HO159.out) hb); replace HO164 := Aside0.mk (Kd.R_below (rk_ HO164.out) hb); replace HO168 := Aside0.mk (Kd.R_below (rk_ HO168.out) hb); replace HO172 := Aside0.mk (Kd.R_below (rk_ HO172.out) hb); replace BK101 := ab_ BK101 hb; replace BK102 := ab_ BK102 hb; replace BK116 := ab_ BK116 hb; replace BK125 := ab_ BK125 hb; replace BK126 := ab_ BK126 hb; replace HB := hbs_ hb; (try clear hb)
     (try clear hb2)
     (try clear hk)
     (try clear hi)
     refine hK.out _ _ ⟨(blk_cell BK125.out 0).trans rfl, (blk_cell BK125.out 1).trans rfl, (blk_cell BK102.out 0).trans rfl, (blk_cell BK102.out 1).trans rfl, (blk_cell BK101.out 0).trans rfl, (blk_cell BK101.out 1).trans rfl, (blk_cell BK126.out 0).trans rfl, (blk_cell BK126.out 1).trans rfl⟩ (fun hHeld => ?_); clear hK K; refine nrm_ 112 ?_
     refine pun_ 31 113 36 4294967295 ?_; refine pun_ 32 114 36 8589934591 ?_; refine on_ 33 115 36 17179869183 (fun K hK => ?_); refine goes_ Try.func7 (by kernel_rfl) rfl #[] (by rfl) rfl rfl z2_ ?_
     with_reducible refine (graftagelaw27_lives.calls kj55  t174 _ A147.out).mono ?_
     rintro e w176 ⟨rfl, hb⟩; refine ⟨_, rfl, ?_⟩; replace HO_117001 := Aside0.mk (Kd.R_below (rk_ HO_117001.out) hb); replace HO_126001 := Aside0.mk (Kd.R_below (rk_ HO_126001.out) hb); replace HO_127001 := Aside0.mk (Kd.R_below (rk_ HO_127001.out) hb); replace HO132 := Aside0.mk (Kd.R_below (rk_ HO132.out) hb); replace HO135 := Aside0.mk (Kd.R_below (rk_ HO135.out) hb); replace HO138 := Aside0.mk (Kd.R_below (rk_ HO138.out) hb); replace HO141 := Aside0.mk (Kd.R_below (rk_ HO141.out) hb); replace HO145 := Aside0.mk (Kd.R_below (rk_ HO145.out) hb); replace HO150 := Aside0.mk (Kd.R_below (rk_ HO150.out) hb); replace HO155 := Aside0.mk (Kd.R_below (rk_ HO155.out) hb); replace HO159 := Aside0.mk (Kd.R_below (rk_ HO159.out) hb); replace HO164 := Aside0.mk (Kd.R_below (rk_ HO164.out) hb); replace HO168 := Aside0.mk (Kd.R_below (rk_ HO168.out) hb); replace HO172 := Aside0.mk (Kd.R_below (rk_ HO172.out) hb); replace BK101 := ab_ BK101 hb; replace BK102 := ab_ BK102 hb; replace BK116 := ab_ BK116 hb; replace BK125 := ab_ BK125 hb; replace BK126 := ab_ BK126 hb; replace HB := hbs_ hb; (try clear hb)
     (try clear hb2)
     (try clear hk)
     (try clear hi)
     refine hK.out _ _ ⟨(blk_cell BK125.out 0).trans rfl, (blk_cell BK125.out 1).trans rfl, (blk_cell BK102.out 0).trans rfl, (blk_cell BK102.out 1).trans rfl, (blk_cell BK101.out 0).trans rfl, (blk_cell BK101.out 1).trans rfl, (blk_cell BK126.out 0).trans rfl, (blk_cell BK126.out 1).trans rfl⟩ (fun hHeld => ?_); clear hK K; refine nrm_ 115 ?_
     refine pun_ 34 116 36 34359738367 ?_; refine pun_ 35 4 36 68719476735 ?_; refine dn_ ?_; try go_wp2
     go_ret
     exact ⟨z3_, hs_⟩


def graftageref27_fits.f (k : Nat) (a0_0 : Int) (l0_1 : List Int) (a1_0 : Int) (l1_1 : List Int) : Option (Bool) := (graftageref27_Right.f k a0_0 l0_1).bind fun t124 => (if t124 = true then ((graftageref27_Right.f k a1_0 l1_1).bind fun t125 => (if t125 = true then (some (a0_0 == a1_0)) else (some false))) else (some false))

def graftageref27_Or.l0 : Nat → List Int → List Int → Int → Int → List Int → Option (Int × List Int)
 | 0, _, _, _, _, _ => none
 | k + 1, x5, x6, x7, x155000, x155001 => if x7 < (x6.length : Int) then (if 0 ≤ x7 then (if x5.length < 17592186044416 then (graftageref27_Or.l0 k (x5 ++ [rd x6 x7]) x6 (wrap64 (x7 + 1)) x155000 x155001) else (none)) else (none)) else ((graftageref27_Of.f k x155000 x5).bind fun bt168 => (some (bt168.1, bt168.2.1)))
def graftageref27_Or.f (k : Nat) (a0_0 : Int) (l0_1 : List Int) (a1_0 : Int) (l1_1 : List Int) : Option (Int × List Int) := (graftageref27_fits.f k a0_0 l0_1 a1_0 l1_1).bind fun t157 => (if t157 = true then ((graftageref27_List.f k a0_0 l0_1).bind fun t158 => ((graftageref27_List.f k a1_0 l1_1).bind fun t161 => (graftageref27_Or.l0 k t158 t161 0 a0_0 l0_1))) else (some (0, ([] : List Int))))

def graftageref27_Has.l0 : Nat → List Int → Int → Int → Option (Bool)
 | 0, _, _, _ => none
 | k + 1, x0, x1, x5 => if x5 < (x0.length : Int) then (if 0 ≤ x5 then (if (rd x0 x5) = x1 then (some true) else (graftageref27_Has.l0 k x0 x1 (wrap64 (x5 + 1)))) else (none)) else (some false)
def graftageref27_Has.f (k : Nat) (l0 : List Int) (a1 : Int) : Option (Bool) := graftageref27_Has.l0 k l0 a1 0

def graftageref27_both.l0 : Nat → Bool → List Int → List Int → List Int → Int → Int → List Int → Option (Int × List Int)
 | 0, _, _, _, _, _, _, _ => none
 | k + 1, x2, x7, x8, x9, x10, x175000, x175001 => if x10 < (x7.length : Int) then (if 0 ≤ x10 then ((graftageref27_Has.f k x8 (rd x7 x10)).bind fun t185 => (if (t185 == x2) = true then (if x9.length < 17592186044416 then (graftageref27_both.l0 k x2 x7 x8 (x9 ++ [rd x7 x10]) (wrap64 (x10 + 1)) x175000 x175001) else (none)) else (graftageref27_both.l0 k x2 x7 x8 x9 (wrap64 (x10 + 1)) x175000 x175001))) else (none)) else ((graftageref27_Of.f k x175000 x9).bind fun bt190 => (some (bt190.1, bt190.2.1)))
def graftageref27_both.f (k : Nat) (a0_0 : Int) (l0_1 : List Int) (a1_0 : Int) (l1_1 : List Int) (a2 : Bool) : Option (Int × List Int) := (graftageref27_fits.f k a0_0 l0_1 a1_0 l1_1).bind fun t177 => (if t177 = true then ((graftageref27_List.f k a0_0 l0_1).bind fun t178 => ((graftageref27_List.f k a1_0 l1_1).bind fun t181 => (graftageref27_both.l0 k a2 t178 t181 ([] : List Int) 0 a0_0 l0_1))) else (some (0, ([] : List Int))))

def graftageref27_And.f (k : Nat) (a0_0 : Int) (l0_1 : List Int) (a1_0 : Int) (l1_1 : List Int) : Option (Int × List Int) := (graftageref27_both.f k a0_0 l0_1 a1_0 l1_1 true).bind fun bt199 => (some (bt199.1, bt199.2))

def graftageref27_Less.f (k : Nat) (a0_0 : Int) (l0_1 : List Int) (a1_0 : Int) (l1_1 : List Int) : Option (Int × List Int) := (graftageref27_both.f k a0_0 l0_1 a1_0 l1_1 false).bind fun bt206 => (some (bt206.1, bt206.2))
end Go.Proofs.Ytibnkopdkfjgpaa.Q


/- Bitmaps: the sets that two of them make, and their reference's. -/
namespace Go.Proofs.Ytibnkopdkfjgpaa.Q
open Go.RowKit Go.Proofs.YtibnkopdkfjgpaaW.PrintWords Go.Proofs.YtibnkopdkfjgpaaW.PrintLast Go.Proofs.YtibnkopdkfjgpaaW.PrintMore
open Bm
theorem fits_ev (s : Int) (a : List Int) (u : Int) (b : List Int) (ha : a.length ≤ 1099511627776) (hb : b.length ≤ 1099511627776) : Ev (fun k => graftageref27_fits.f k s a u b) (vd s a && (vd u b && decide (s = u))) := by
  refine Ev.bind (Right_ev s a ha) (ev_ite (fun g => ?_) (fun g => ev_eq (Ev.now _) ?_))
  · refine Ev.bind (Right_ev u b hb) (ev_ite (fun g2 => ev_eq (Ev.now _) ?_) (fun g2 => ev_eq (Ev.now _) ?_))
    · rw [g, g2, Bool.eq_iff_iff]; simp
    · rw [Bool.not_eq_true] at g2; rw [g, g2]; rfl
  · rw [Bool.not_eq_true] at g; rw [g]; rfl
theorem lst_len {s : Int} {l : List Int} : (lst s l).length ≤ 1048576 := by
  unfold lst bitsOf
  split
  · rename_i h
    have h1 := exp_len h
    have h2 := pos_length (exp false l) 0
    have h3 := List.count_le_length (a := true) (l := exp false l)
    have := (vd_iff.1 h).2.1
    omega
  · simp
theorem okP_iff {s : Int} : ∀ {l : List Int}, okP s l = true ↔ ∀ n ∈ l, 0 ≤ n ∧ n < s
  | [] => by simp [okP]
  | n :: t => by
    rw [okP, Bool.and_eq_true, okP_iff (l := t)]
    simp only [Bool.not_eq_true', Bool.or_eq_false_iff, decide_eq_false_iff_not, List.mem_cons, forall_eq_or_imp]
    exact and_congr_left (fun _ => ⟨fun h => by omega, fun h => by omega⟩)
theorem pos_okP {s : Int} {m : List Bool} (h : (m.length : Int) = s) : okP s (pos 0 m) = true := by
  rw [okP_iff]
  intro n hn
  have := (mem_pos m 0 n).1 hn
  omega
theorem ofB_of {s : Int} {l : List Int} {m : List Bool} (h0 : (m.length : Int) = s) (h1 : s ≤ 1048576) (hp : okP s l = true) (hm : ∀ j : Nat, j < m.length → (decide ((j : Int) ∈ l)) = m.getD j false) : ofB s l = (s, enc m, 0) := by
  unfold ofB
  rw [if_neg (by omega), if_pos hp]
  have e : setAll (List.replicate s.toNat false) l = m := by
    apply list_ext_getD
    · rw [setAll_length, List.length_replicate]; omega
    intro j hj
    rw [setAll_length, List.length_replicate] at hj
    rw [setAll_get _ _ _ (fun n hn => ?_) (by rwa [List.length_replicate]), hm j (by omega)]
    · have : (List.replicate s.toNat false).getD j false = false := by
        rw [List.getD_eq_getElem?_getD, List.getElem?_replicate]
        split <;> rfl
      rw [this, Bool.false_or]
    · rw [List.length_replicate]
      have := okP_iff.1 hp n hn
      omega
  rw [e]
theorem mem_posB {m : List Bool} {j : Nat} (h : j < m.length) : decide ((j : Int) ∈ pos 0 m) = m.getD j false := by
  rw [Bool.eq_iff_iff, decide_eq_true_eq, mem_pos]
  simp
  omega
theorem zip_getD {f : Bool → Bool → Bool} {a b : List Bool} (h : a.length = b.length) {j : Nat} (hj : j < a.length) : (List.zipWith f a b).getD j false = f (a.getD j false) (b.getD j false) := by
  rw [List.getD_eq_getElem?_getD, List.getD_eq_getElem?_getD, List.getD_eq_getElem?_getD, List.getElem?_zipWith, List.getElem?_eq_getElem hj, List.getElem?_eq_getElem (by omega)]
  rfl
theorem refOr_l0 (s : Int) (a m : List Int) (hm : m.length ≤ 1048576) : ∀ (t : List Int) (i : Nat) (l : List Int), m.drop i = t → l.length + t.length ≤ 4194304 → Ev (fun k => graftageref27_Or.l0 k l m i s a) ((ofB s (l ++ t)).1, (ofB s (l ++ t)).2.1)
  | [], i, l, ht, hl => by
    have := drop_end ht
    rw [List.append_nil]
    exact Ev.step (f := ?_) (fun k => by rw [graftageref27_Or.l0, if_neg (by omega)]) (Ev.bind (refOf_ev s l (by simp at hl; omega)) (Ev.now ((ofB s l).1, (ofB s l).2.1)))
  | r :: t, i, l, ht, hl => by
    obtain ⟨hlt, hr, ht2⟩ := drop_at ht
    rw [List.length_cons] at hl
    have e1 : wrap64 ((i : Int) + 1) = ((i + 1 : Nat) : Int) := by rw [wrap_id (by omega) (by omega)]; omega
    refine Ev.step (f := ?_) (fun k => by rw [graftageref27_Or.l0, if_pos (by omega), if_pos (by omega), if_pos (by omega), hr, e1]) ?_
    have := refOr_l0 s a m hm t (i + 1) (l ++ [r]) ht2 (by rw [List.length_append, List.length_singleton]; omega)
    rw [List.append_assoc] at this
    exact this
theorem refOr_ev (s : Int) (a : List Int) (u : Int) (b : List Int) (ha : a.length ≤ 1099511627776) (hb : b.length ≤ 1099511627776) : Ev (fun k => graftageref27_Or.f k s a u b) (joinB (fun x y => x || y) s a u b) := by
  refine Ev.bind (fits_ev s a u b ha hb) ?_
  unfold joinB
  refine ev_ite (fun g => ?_) (fun g => ?_)
  · rw [if_pos g]
    simp only [Bool.and_eq_true, decide_eq_true_eq] at g
    obtain ⟨g1, g2, rfl⟩ := g
    refine Ev.bind (refList_ev s a ha) (Ev.bind (refList_ev s b hb) ?_)
    have h1 := exp_len g1
    have h2 := exp_len g2
    have hs := (vd_iff.1 g1).2.1
    have hla : (lst s a).length ≤ 1048576 := lst_len
    have hlb : (lst s b).length ≤ 1048576 := lst_len
    have key := refOr_l0 s a (lst s b) hlb (lst s b) 0 (lst s a) rfl (by omega)
    have e : ofB s (lst s a ++ lst s b) = (s, enc (List.zipWith (fun x y => x || y) (exp false a) (exp false b)), 0) := by
      have hz : (List.zipWith (fun x y => x || y) (exp false a) (exp false b)).length = (exp false a).length := by rw [List.length_zipWith]; omega
      apply ofB_of (by rw [hz]; exact h1) hs
      · unfold lst bitsOf
        rw [if_pos g1, if_pos g2, okP_iff]
        intro n hn
        rcases List.mem_append.1 hn with hn | hn
        · exact okP_iff.1 (pos_okP h1) n hn
        · exact okP_iff.1 (pos_okP h2) n hn
      · intro j hj
        rw [hz] at hj
        rw [zip_getD (by omega) hj]
        unfold lst bitsOf
        rw [if_pos g1, if_pos g2, ← mem_posB hj, ← mem_posB (m := exp false b) (by omega), Bool.eq_iff_iff]
        simp
    rw [e] at key
    exact_mod_cast key
  · rw [if_neg g]; exact Ev.now _
theorem Has_l0 (l : List Int) (x : Int) (hL : l.length ≤ 1099511627776) : ∀ (t : List Int) (i : Nat), l.drop i = t → Ev (fun k => graftageref27_Has.l0 k l x i) (decide (x ∈ t))
  | [], i, ht => by
    have := drop_end ht
    exact Ev.step (f := ?_) (fun k => by rw [graftageref27_Has.l0, if_neg (by omega)]) (ev_eq (Ev.now _) (by simp))
  | r :: t, i, ht => by
    obtain ⟨hlt, hr, ht2⟩ := drop_at ht
    have e1 : wrap64 ((i : Int) + 1) = ((i + 1 : Nat) : Int) := by rw [wrap_id (by omega) (by omega)]; omega
    refine Ev.step (f := ?_) (fun k => by rw [graftageref27_Has.l0, if_pos (by omega), if_pos (by omega), hr, e1]) ?_
    refine ev_ite (fun g => ev_eq (Ev.now _) (by simp [g])) (fun g => ?_)
    refine ev_eq (Has_l0 l x hL t (i + 1) ht2) ?_
    rw [Bool.eq_iff_iff]
    simp
    intro e; exact absurd e.symm g
theorem Has_ev (l : List Int) (x : Int) (hL : l.length ≤ 1099511627776) : Ev (fun k => graftageref27_Has.f k l x) (decide (x ∈ l)) := by
  exact_mod_cast Has_l0 l x hL l 0 rfl
theorem refBoth_l0 (s : Int) (a l m : List Int) (has : Bool) (hl : l.length ≤ 1048576) (hm : m.length ≤ 1048576) : ∀ (t : List Int) (i : Nat) (o : List Int), l.drop i = t → o.length + t.length ≤ 4194304 → Ev (fun k => graftageref27_both.l0 k has l m o i s a) ((ofB s (o ++ t.filter (fun x => decide (x ∈ m) == has))).1, (ofB s (o ++ t.filter (fun x => decide (x ∈ m) == has))).2.1)
  | [], i, o, ht, ho => by
    have := drop_end ht
    rw [List.filter_nil, List.append_nil]
    exact Ev.step (f := ?_) (fun k => by rw [graftageref27_both.l0, if_neg (by omega)]) (Ev.bind (refOf_ev s o (by simp at ho; omega)) (Ev.now ((ofB s o).1, (ofB s o).2.1)))
  | r :: t, i, o, ht, ho => by
    obtain ⟨hlt, hr, ht2⟩ := drop_at ht
    rw [List.length_cons] at ho
    have e1 : wrap64 ((i : Int) + 1) = ((i + 1 : Nat) : Int) := by rw [wrap_id (by omega) (by omega)]; omega
    refine Ev.step (f := ?_) (fun k => by rw [graftageref27_both.l0, if_pos (by omega), if_pos (by omega), hr, e1]) ?_
    refine Ev.bind (Has_ev m r (by omega)) ?_
    refine ev_ite (fun g => ?_) (fun g => ?_)
    · refine ev_yes (by omega) ?_
      have := refBoth_l0 s a l m has hl hm t (i + 1) (o ++ [r]) ht2 (by rw [List.length_append, List.length_singleton]; omega)
      rw [List.append_assoc] at this
      rw [List.filter_cons_of_pos (by simpa using g)]
      exact this
    · have := refBoth_l0 s a l m has hl hm t (i + 1) o ht2 (by omega)
      rw [List.filter_cons_of_neg (by simpa using g)]
      exact this
theorem refBoth_ev (s : Int) (a : List Int) (u : Int) (b : List Int) (has : Bool) (ha : a.length ≤ 1099511627776) (hb : b.length ≤ 1099511627776) : Ev (fun k => graftageref27_both.f k s a u b has) (joinB (fun x y => x && (y == has)) s a u b) := by
  refine Ev.bind (fits_ev s a u b ha hb) ?_
  unfold joinB
  refine ev_ite (fun g => ?_) (fun g => ?_)
  · rw [if_pos g]
    simp only [Bool.and_eq_true, decide_eq_true_eq] at g
    obtain ⟨g1, g2, rfl⟩ := g
    refine Ev.bind (refList_ev s a ha) (Ev.bind (refList_ev s b hb) ?_)
    have h1 := exp_len g1
    have h2 := exp_len g2
    have hs := (vd_iff.1 g1).2.1
    have hla : (lst s a).length ≤ 1048576 := lst_len
    have hlb : (lst s b).length ≤ 1048576 := lst_len
    have key := refBoth_l0 s a (lst s a) (lst s b) has hla hlb (lst s a) 0 [] rfl (by simp; omega)
    have e : ofB s ([] ++ (lst s a).filter (fun x => decide (x ∈ lst s b) == has)) = (s, enc (List.zipWith (fun x y => x && (y == has)) (exp false a) (exp false b)), 0) := by
      have hz : (List.zipWith (fun x y => x && (y == has)) (exp false a) (exp false b)).length = (exp false a).length := by rw [List.length_zipWith]; omega
      rw [List.nil_append]
      apply ofB_of (by rw [hz]; exact h1) hs
      · rw [okP_iff]
        intro n hn
        have hn := (List.mem_filter.1 hn).1
        unfold lst bitsOf at hn
        rw [if_pos g1] at hn
        exact okP_iff.1 (pos_okP h1) n hn
      · intro j hj
        rw [hz] at hj
        rw [zip_getD (by omega) hj]
        unfold lst bitsOf
        rw [if_pos g1, if_pos g2, ← mem_posB hj, ← mem_posB (m := exp false b) (by omega), Bool.eq_iff_iff]
        simp
    rw [e] at key
    exact_mod_cast key
  · rw [if_neg g]; exact Ev.now _
theorem refAnd_ev (s : Int) (a : List Int) (u : Int) (b : List Int) (ha : a.length ≤ 1099511627776) (hb : b.length ≤ 1099511627776) : Ev (fun k => graftageref27_And.f k s a u b) (joinB (fun x y => x && y) s a u b) := by
  refine Ev.bind (refBoth_ev s a u b true ha hb) (ev_eq (Ev.now _) ?_)
  have : (fun x y : Bool => x && (y == true)) = (fun x y => x && y) := by funext x y; cases x <;> cases y <;> rfl
  rw [this]
theorem refLess_ev (s : Int) (a : List Int) (u : Int) (b : List Int) (ha : a.length ≤ 1099511627776) (hb : b.length ≤ 1099511627776) : Ev (fun k => graftageref27_Less.f k s a u b) (joinB (fun x y => x && !y) s a u b) := by
  refine Ev.bind (refBoth_ev s a u b false ha hb) (ev_eq (Ev.now _) ?_)
  have : (fun x y : Bool => x && (y == false)) = (fun x y => x && !y) := by funext x y; cases x <;> cases y <;> rfl
  rw [this]
theorem joinB_len (f : Bool → Bool → Bool) (s : Int) (a : List Int) (u : Int) (b : List Int) : (joinB f s a u b).2.length ≤ 1048577 := by
  unfold joinB
  split
  · rename_i g
    simp only [Bool.and_eq_true, decide_eq_true_eq] at g
    show (enc _).length ≤ _
    have := enc_len (List.zipWith f (exp false a) (exp false b))
    rw [List.length_zipWith] at this
    have := exp_len g.1
    have := (vd_iff.1 g.1).2.1
    omega
  · simp
end Go.Proofs.Ytibnkopdkfjgpaa.Q


/- The laws of set algebra over lists of bits, and over joinB. -/
namespace Go.Proofs.Ytibnkopdkfjgpaa.Q
open Go.RowKit Go.Proofs.YtibnkopdkfjgpaaW.PrintWords Go.Proofs.YtibnkopdkfjgpaaW.PrintLast Go.Proofs.YtibnkopdkfjgpaaW.PrintMore
open Bm
theorem zw_comm (f : Bool → Bool → Bool) (hf : ∀ x y, f x y = f y x) : ∀ X Y : List Bool, List.zipWith f X Y = List.zipWith f Y X
  | [], Y => by simp
  | X, [] => by simp
  | x :: X, y :: Y => by rw [List.zipWith_cons_cons, List.zipWith_cons_cons, hf, zw_comm f hf X Y]
theorem zw_or : ∀ X Y : List Bool, X.length = Y.length → List.zipWith (fun x y => x || y) (List.zipWith (fun x y => x && !y) X Y) (List.zipWith (fun x y => x && y) X Y) = X
  | [], [], _ => rfl
  | [], _ :: _, h => by simp at h
  | _ :: _, [], h => by simp at h
  | x :: X, y :: Y, h => by
    simp only [List.zipWith_cons_cons, zw_or X Y (by simpa using h)]
    cases x <;> cases y <;> rfl
theorem zw_none : ∀ X Y : List Bool, X.length = Y.length → List.zipWith (fun x y => x && y) (List.zipWith (fun x y => x && !y) X Y) Y = List.zipWith (fun x y => x && !y) Y Y
  | [], [], _ => rfl
  | [], _ :: _, h => by simp at h
  | _ :: _, [], h => by simp at h
  | x :: X, y :: Y, h => by
    simp only [List.zipWith_cons_cons, zw_none X Y (by simpa using h)]
    cases x <;> cases y <;> rfl
theorem zw_count : ∀ X Y : List Bool, X.length = Y.length → (List.zipWith (fun x y => x || y) X Y).count true + (List.zipWith (fun x y => x && y) X Y).count true = X.count true + Y.count true
  | [], [], _ => rfl
  | [], _ :: _, h => by simp at h
  | _ :: _, [], h => by simp at h
  | x :: X, y :: Y, h => by
    have := zw_count X Y (by simpa using h)
    simp only [List.zipWith_cons_cons, List.count_cons]
    cases x <;> cases y <;> simp <;> omega
/-- the runs of a list of bits are right -/
theorem vd_enc {s : Int} {Z : List Bool} (h : (Z.length : Int) = s) (h1 : s ≤ 1048576) : vd s (enc Z) = true := by
  refine vd_iff.2 ⟨by omega, h1, enc_canon Z, ?_⟩
  have := exp_length (enc Z) false (canon_nonneg (enc_canon Z))
  rw [exp_enc] at this
  omega
theorem joinB_eq (f : Bool → Bool → Bool) {s : Int} {a b : List Int} (ha : vd s a = true) (hb : vd s b = true) : joinB f s a s b = (s, enc (List.zipWith f (exp false a) (exp false b))) := by
  unfold joinB; rw [if_pos (by simp [ha, hb])]
theorem lst_enc {s : Int} {Z : List Bool} (h : (Z.length : Int) = s) (h1 : s ≤ 1048576) : lst s (enc Z) = pos 0 Z := by
  unfold lst bitsOf; rw [if_pos (vd_enc h h1), exp_enc]
theorem ofB_lst {s : Int} {a : List Int} (ha : vd s a = true) : ofB s (lst s a) = (s, a, 0) := by
  have h1 := exp_len ha
  have h2 := (vd_iff.1 ha).2.1
  have hc := (vd_iff.1 ha).2.2.1
  have : ofB s (lst s a) = (s, enc (exp false a), 0) := by
    unfold lst bitsOf
    rw [if_pos ha]
    exact ofB_of h1 h2 (pos_okP h1) (fun j hj => mem_posB hj)
  rw [this, enc_exp hc]
end Go.Proofs.Ytibnkopdkfjgpaa.Q


namespace Go.Proofs.Ytibnkopdkfjgpaa.Q
open Go.RowKit Go.Proofs.YtibnkopdkfjgpaaW.PrintWords Go.Proofs.YtibnkopdkfjgpaaW.PrintLast Go.Proofs.YtibnkopdkfjgpaaW.PrintMore
attribute [local go_sem] max2_int min2_int max_two min_two max_three min_three max_four min_four   -- for this text's walks alone

mutual
def graftagelaw27_BitmapSets.j0 : Nat → Bool → Int → List Int → Int → List Int → Option (Bool)
 | 0, _, _, _, _, _ => none
 | k + 1, x12, x102000, x102001, x103000, x103001 => if x12 = true then ((graftagelaw27_lives.f k).bind fun t105 => (some t105)) else ((bitmap_Valid.f k x102000 x102001).bind fun t106 => ((graftageref27_Right.f k x102000 x102001).bind fun t107 => (if (t106 != t107) = true then (graftagelaw27_BitmapSets.j1 k true x102000 x102001 x103000 x103001) else ((bitmap_List.f k x102000 x102001).bind fun t108 => ((graftageref27_List.f k x102000 x102001).bind fun t111 => ((graftageref27_Ints.f k t108 t111).bind fun t114 => (graftagelaw27_BitmapSets.j1 k (!t114) x102000 x102001 x103000 x103001)))))))
def graftagelaw27_BitmapSets.j1 : Nat → Bool → Int → List Int → Int → List Int → Option (Bool)
 | 0, _, _, _, _, _ => none
 | k + 1, x26, x102000, x102001, x103000, x103001 => if x26 = true then (some false) else ((bitmap_Or.f x102000 x102001 x103000 x103001).bind fun bt115 => ((graftageref27_Or.f k x102000 x102001 x103000 x103001).bind fun bt119 => ((graftageref27_Same.f k bt115.1 bt115.2 bt119.1 bt119.2).bind fun t123 => (if t123 = true then ((bitmap_And.f x102000 x102001 x103000 x103001).bind fun bt124 => ((graftageref27_And.f k x102000 x102001 x103000 x103001).bind fun bt128 => ((graftageref27_Same.f k bt124.1 bt124.2 bt128.1 bt128.2).bind fun t132 => (if t132 = true then ((bitmap_AndNot.f x102000 x102001 x103000 x103001).bind fun bt133 => ((graftageref27_Less.f k x102000 x102001 x103000 x103001).bind fun bt137 => ((graftageref27_Same.f k bt133.1 bt133.2 bt137.1 bt137.2).bind fun t141 => (if t141 = true then ((graftagelaw27_lives.f k).bind fun t142 => (some t142)) else (some false))))) else (some false))))) else (some false)))))
end
def graftagelaw27_BitmapSets.f (k : Nat) (a0_0 : Int) (l0_1 : List Int) (a1_0 : Int) (l1_1 : List Int) : Option (Bool) := (graftagelaw27_few.f a0_0 l0_1).bind fun t103 => (if t103 = true then ((graftagelaw27_few.f a1_0 l1_1).bind fun t104 => (graftagelaw27_BitmapSets.j0 k (!t104) a0_0 l0_1 a1_0 l1_1)) else (graftagelaw27_BitmapSets.j0 k true a0_0 l0_1 a1_0 l1_1))
def graftagelaw27_BitmapSets.T3 : Bool × List (List Nat × List Nat) := (true, [([], []), ([0], [0]), ([], []), ([2, 1], [2]), ([1, 3], [1, 3]), ([4, 3], [4]), ([5], [5]), ([6, 5, 5], [5, 6]), ([5], [5]), ([8, 7, 5], [5, 8]), ([7, 9, 9, 5], [5, 7, 9]), ([10, 5], [5, 10]), ([5, 11], [5, 11])])
def graftagelaw27_BitmapSets.B3 : List Nat := [0, 1, 0, 7, 15, 31, 63, 127, 63, 511, 1023, 2047, 4095]
theorem graftagelaw27_BitmapSets.tab3 : rtab .any (opsOf Try.f4 3) = graftagelaw27_BitmapSets.T3 := by kernel_rfl
theorem graftagelaw27_BitmapSets.bits3 : waitsOk graftagelaw27_BitmapSets.T3.2 graftagelaw27_BitmapSets.B3 = true := by kernel_rfl
def graftagelaw27_BitmapSets.B5 : List Nat := [0, 0, 3, 0, 0, 31, 63, 127, 255, 255, 1023, 255, 255, 8191, 16383, 32767, 65535, 131071, 131071, 524287, 131071, 131071, 4194303, 8388607, 16777215, 33554431, 67108863, 134217727, 268435455]
end Go.Proofs.Ytibnkopdkfjgpaa.Q


/- BitmapSets, over plain lists and numbers. -/
namespace Go.Proofs.Ytibnkopdkfjgpaa.Pure
open Go.RowKit Go.Proofs.Ytibnkopdkfjgpaa.Q Go.Proofs.YtibnkopdkfjgpaaW.PrintWords Go.Proofs.YtibnkopdkfjgpaaW.PrintLast Go.Proofs.YtibnkopdkfjgpaaW.PrintMore
theorem few_len {s : Int} {a : List Int} {b : Bool} (h : graftagelaw27_few.f s a = some b) : b = true → a.length ≤ 300 := by
  intro hb
  subst hb
  unfold graftagelaw27_few.f at h
  by_cases h1 : s ≤ 300
  · rw [if_pos h1] at h
    have := of_decide_eq_true (Option.some.inj h)
    omega
  · rw [if_neg h1] at h; cases h
theorem few_now (s : Int) (a : List Int) : ∃ b, graftagelaw27_few.f s a = some b := by
  unfold graftagelaw27_few.f
  split <;> exact ⟨_, rfl⟩
theorem opOr (s : Int) (a : List Int) (u : Int) (b : List Int) (ha : a.length ≤ 300) (hb : b.length ≤ 300) : bitmap_Or.f s a u b = some (joinB (fun x y => x || y) s a u b) := by
  unfold bitmap_Or.f; rw [if_pos ⟨by omega, by omega⟩]
theorem opAnd (s : Int) (a : List Int) (u : Int) (b : List Int) (ha : a.length ≤ 300) (hb : b.length ≤ 300) : bitmap_And.f s a u b = some (joinB (fun x y => x && y) s a u b) := by
  unfold bitmap_And.f; rw [if_pos ⟨by omega, by omega⟩]
theorem opAndNot (s : Int) (a : List Int) (u : Int) (b : List Int) (ha : a.length ≤ 300) (hb : b.length ≤ 300) : bitmap_AndNot.f s a u b = some (joinB (fun x y => x && !y) s a u b) := by
  unfold bitmap_AndNot.f; rw [if_pos ⟨by omega, by omega⟩]
theorem ev_now {α : Type} {o : Option α} {r : α} (h : o = some r) : Ev (fun _ => o) r := by rw [h]; exact Ev.now _
theorem BitmapSets_ev (s : Int) (a : List Int) (u : Int) (b : List Int) : Ev (fun k => graftagelaw27_BitmapSets.f k s a u b) true := by
  have live : Ev (fun k => graftagelaw27_BitmapSets.j0 k true s a u b) true := Ev.step (f := fun k => (graftagelaw27_lives.f k).bind fun t => some t) (fun k => by rw [graftagelaw27_BitmapSets.j0, if_pos rfl]) liveOr27
  obtain ⟨x, hx⟩ := few_now s a
  obtain ⟨y, hy⟩ := few_now u b
  refine Ev.bind (ev_now hx) (ev_ite (fun g => ?_) (fun _ => live))
  refine Ev.bind (ev_now hy) ?_
  cases y with
  | false => exact live
  | true =>
    have ha := few_len hx g
    have hb := few_len hy rfl
    have hl : (lst s a).length ≤ 1048576 := lst_len
    have h1 := joinB_len (fun x y => x || y) s a u b
    have h2 := joinB_len (fun x y => x && y) s a u b
    have h3 := joinB_len (fun x y => x && !y) s a u b
    refine Ev.step (f := ?_) (fun k => by rw [graftagelaw27_BitmapSets.j0, if_neg (by decide)]) ?_
    refine Ev.bind (Valid_ev s a (by omega)) (Ev.bind (Right_ev s a (by omega)) (ev_no (by simp) ?_))
    refine Ev.bind (List_ev s a (by omega)) (Ev.bind (refList_ev s a (by omega)) (Ev.bind (Ints_ev _ _ (by omega)) ?_))
    have e0 : (!decide (lst s a = lst s a)) = false := by simp
    rw [e0]
    refine Ev.step (f := ?_) (fun k => by rw [graftagelaw27_BitmapSets.j1, if_neg (by decide), opOr s a u b ha hb, opAnd s a u b ha hb, opAndNot s a u b ha hb]) ?_
    refine Ev.bind (Ev.now _) (Ev.bind (refOr_ev s a u b (by omega) (by omega)) (Ev.bind (Same_ev _ _ _ _ (by omega)) (ev_yes (by simp) ?_)))
    refine Ev.bind (Ev.now _) (Ev.bind (refAnd_ev s a u b (by omega) (by omega)) (Ev.bind (Same_ev _ _ _ _ (by omega)) (ev_yes (by simp) ?_)))
    exact Ev.bind (Ev.now _) (Ev.bind (refLess_ev s a u b (by omega) (by omega)) (Ev.bind (Same_ev _ _ _ _ (by omega)) (ev_yes (by simp) liveOr27)))
theorem BitmapSets : ∀ (y0 : S25), ∀ (y1 : S25), ((Lit.int .i64 y0.f0).wf = true ∧ (y0.f1.length * 8 ≤ 140737488351232 ∧ ∀ y_y0f1 ∈ y0.f1, (Lit.int .i64 y_y0f1).wf = true)) → ((Lit.int .i64 y1.f0).wf = true ∧ (y1.f1.length * 8 ≤ 140737488351232 ∧ ∀ y_y1f1 ∈ y1.f1, (Lit.int .i64 y_y1f1).wf = true)) → ∃ k, graftagelaw27_BitmapSets.f k y0.f0 y0.f1 y1.f0 y1.f1 = some true :=
  fun y0 y1 _ _ => (BitmapSets_ev y0.f0 y0.f1 y1.f0 y1.f1).rounds
end Go.Proofs.Ytibnkopdkfjgpaa.Pure


/- BitmapBack, over plain lists and numbers. -/
namespace Go.Proofs.Ytibnkopdkfjgpaa.Pure
open Go.RowKit Go.Proofs.Ytibnkopdkfjgpaa.Q Go.Proofs.YtibnkopdkfjgpaaW.PrintWords Go.Proofs.YtibnkopdkfjgpaaW.PrintLast Go.Proofs.YtibnkopdkfjgpaaW.PrintMore
open Bm
theorem same_ (s : Int) (a : List Int) (h : a.length ≤ 1099511627776) : Ev (fun k => graftageref27_Same.f k s a s a) true := ev_eq (Same_ev s a s a h) (by simp)
theorem BitmapBack_main (s : Int) (a b : List Int) (ha : a.length ≤ 300) (hb : b.length ≤ 300) (va : vd s a = true) (vb : vd s b = true) : Ev (fun k => graftagelaw27_BitmapBack.j0 k false s a s b) true := by
  have la := exp_len va
  have lb := exp_len vb
  have hs := (vd_iff.1 va).2.1
  have hl : (lst s a).length ≤ 1048576 := lst_len
  have zl : ∀ (f : Bool → Bool → Bool) (X Y : List Bool), (X.length : Int) = s → (Y.length : Int) = s → ((List.zipWith f X Y).length : Int) = s := fun f X Y h1 h2 => by rw [List.length_zipWith]; omega
  have hxy : (exp false a).length = (exp false b).length := by omega
  have en : ∀ Z : List Bool, (Z.length : Int) = s → (enc Z).length ≤ 1099511627776 := fun Z h => by have := enc_len Z; omega
  have zor := zl (fun x y => x || y) _ _ la lb
  have zand := zl (fun x y => x && y) _ _ la lb
  have znot := zl (fun x y => x && !y) _ _ la lb
  have zbb := zl (fun x y => x && !y) _ _ lb lb
  have op : ∀ (f : Bool → Bool → Bool) (c d : List Int), vd s c = true → vd s d = true → joinB f s c s d = (s, enc (List.zipWith f (exp false c) (exp false d))) := fun f c d h1 h2 => joinB_eq f h1 h2
  refine Ev.step (f := ?_) (fun k => by rw [graftagelaw27_BitmapBack.j0, if_neg (by decide), opOr s a s b ha hb, opAnd s a s b ha hb, op _ _ _ va vb, op _ _ _ va vb]) ?_
  refine Ev.bind (List_ev s a (by omega)) (Ev.bind (Of_ev s _ (by omega)) ?_)
  rw [ofB_lst va]
  refine Ev.bind (Ev.now _) (Ev.bind (Ev.now _) (ev_yes rfl ?_))
  refine Ev.bind (same_ s a (by omega)) (ev_yes rfl ?_)
  refine Ev.bind (ev_eq (Valid_ev s _ (en _ zor)) (vd_enc zor hs)) (ev_yes rfl ?_)
  refine Ev.bind (ev_eq (Valid_ev s _ (en _ zand)) (vd_enc zand hs)) ?_
  have big : ∀ (f : Bool → Bool → Bool) (c d : List Int), c.length ≤ 1099511627776 → d.length ≤ 1099511627776 → c.length ≤ 1099511627776 ∧ d.length ≤ 1099511627776 := fun _ _ _ h1 h2 => ⟨h1, h2⟩
  refine Ev.step (f := ?_) (fun k => by rw [graftagelaw27_BitmapBack.j1, if_neg (by decide)]) ?_
  refine Ev.bind (ev_eq (List_ev s _ (en _ zor)) (lst_enc zor hs)) (Ev.bind (ev_eq (List_ev s _ (en _ zand)) (lst_enc zand hs)) (Ev.bind (List_ev s a (by omega)) (Ev.bind (List_ev s b (by omega)) ?_)))
  have lA : lst s a = pos 0 (exp false a) := by unfold lst bitsOf; rw [if_pos va]
  have lB : lst s b = pos 0 (exp false b) := by unfold lst bitsOf; rw [if_pos vb]
  rw [lA, lB]
  refine ev_yes ?_ ?_
  · have := zw_count _ _ hxy
    congr 1
    rw [pos_length, pos_length, pos_length, pos_length]
    omega
  have eo : bitmap_Or.f s b s a = some (s, enc (List.zipWith (fun x y => x || y) (exp false a) (exp false b))) := by
    rw [opOr s b s a hb ha, op _ _ _ vb va, zw_comm _ (fun x y => by cases x <;> cases y <;> rfl)]
  have ea : bitmap_And.f s b s a = some (s, enc (List.zipWith (fun x y => x && y) (exp false a) (exp false b))) := by
    rw [opAnd s b s a hb ha, op _ _ _ vb va, zw_comm _ (fun x y => by cases x <;> cases y <;> rfl)]
  have en1 : bitmap_AndNot.f s a s b = some (s, enc (List.zipWith (fun x y => x && !y) (exp false a) (exp false b))) := by
    rw [opAndNot s a s b ha hb, op _ _ _ va vb]
  have en2 : bitmap_AndNot.f s b s b = some (s, enc (List.zipWith (fun x y => x && !y) (exp false b) (exp false b))) := by
    rw [opAndNot s b s b hb hb, op _ _ _ vb vb]
  have eo2 : bitmap_Or.f s (enc (List.zipWith (fun x y => x && !y) (exp false a) (exp false b))) s (enc (List.zipWith (fun x y => x && y) (exp false a) (exp false b))) = some (s, a) := by
    unfold bitmap_Or.f
    rw [if_pos ⟨en _ znot, en _ zand⟩, op _ _ _ (vd_enc znot hs) (vd_enc zand hs), exp_enc, exp_enc, zw_or _ _ hxy, enc_exp (vd_iff.1 va).2.2.1]
  have ea2 : bitmap_And.f s (enc (List.zipWith (fun x y => x && !y) (exp false a) (exp false b))) s b = some (s, enc (List.zipWith (fun x y => x && !y) (exp false b) (exp false b))) := by
    unfold bitmap_And.f
    rw [if_pos ⟨en _ znot, by omega⟩, op _ _ _ (vd_enc znot hs) vb, exp_enc, zw_none _ _ hxy]
  refine Ev.bind (ev_now eo) (Ev.bind (same_ s _ (en _ zor)) (ev_yes rfl ?_))
  refine Ev.bind (ev_now ea) (Ev.bind (same_ s _ (en _ zand)) (ev_yes rfl ?_))
  refine Ev.bind (ev_now en1) (Ev.bind (ev_now eo2) (Ev.bind (same_ s a (by omega)) (ev_yes rfl ?_)))
  exact Ev.bind (ev_now en1) (Ev.bind (ev_now ea2) (Ev.bind (ev_now en2) (Ev.bind (same_ s _ (en _ zbb)) (ev_yes rfl liveOr27))))
theorem BitmapBack_ev (s : Int) (a : List Int) (u : Int) (b : List Int) : Ev (fun k => graftagelaw27_BitmapBack.f k s a u b) true := by
  have live : Ev (fun k => graftagelaw27_BitmapBack.j0 k true s a u b) true := Ev.step (f := fun k => (graftagelaw27_lives.f k).bind fun t => some t) (fun k => by rw [graftagelaw27_BitmapBack.j0, if_pos rfl]) liveOr27
  obtain ⟨x, hx⟩ := few_now s a
  obtain ⟨y, hy⟩ := few_now u b
  refine Ev.bind (ev_now hx) (ev_ite (fun g => ?_) (fun _ => live))
  refine Ev.bind (ev_now hy) (ev_ite (fun g2 => ?_) (fun _ => live))
  have ha := few_len hx g
  have hb := few_len hy g2
  refine Ev.bind (Valid_ev s a (by omega)) (ev_ite (fun va => ?_) (fun _ => live))
  refine Ev.bind (Valid_ev u b (by omega)) (ev_ite (fun vb => ?_) (fun _ => live))
  by_cases e : s = u
  · subst e
    rw [show (s != s) = false by simp]
    exact BitmapBack_main s a b ha hb va vb
  · rw [show (s != u) = true by simpa using e]
    exact live
theorem BitmapBack : ∀ (y0 : S25), ∀ (y1 : S25), ((Lit.int .i64 y0.f0).wf = true ∧ (y0.f1.length * 8 ≤ 140737488351232 ∧ ∀ y_y0f1 ∈ y0.f1, (Lit.int .i64 y_y0f1).wf = true)) → ((Lit.int .i64 y1.f0).wf = true ∧ (y1.f1.length * 8 ≤ 140737488351232 ∧ ∀ y_y1f1 ∈ y1.f1, (Lit.int .i64 y_y1f1).wf = true)) → ∃ k, graftagelaw27_BitmapBack.f k y0.f0 y0.f1 y1.f0 y1.f1 = some true :=
  fun y0 y1 _ _ => (BitmapBack_ev y0.f0 y0.f1 y1.f0 y1.f1).rounds
end Go.Proofs.Ytibnkopdkfjgpaa.Pure


/- What a law's argument reads as (numbers, bools, strings, structs, slices, nested) opens into the printed kinds, with the reach's bounds; for the rows of this seat. -/
namespace Go.Proofs.Ytibnkopdkfjgpaa.Ro
open Go.RowKit Go.Deep Go.Proofs.YtibnkopdkfjgpaaW.PrintWords

/-- What a reading of type t by the form tells in the words of kind d; S: the bounds. -/
def Opens (P : Program) (t : TypeId) {α : Type} (d : Kd α) (S : α → Prop) : Prop :=
  ∀ {H : Type} (enc : TypeId × Value → H) (w : World) (fuel : Nat) (cs : List Value) (x : DataW H × List MemPlace),
    DataW.trod enc P w 0 (fun _ => true) true fuel t cs = some x → (∀ n ∈ DataW.weights P t x.1, n ≤ reachBytes) → ∃ y : α, d.K w y cs ∧ S y

section
variable {P : Program} {t e : TypeId}

theorem Opens.int {k : IntKind} (ht : P.underlying t = some (.int k)) : Opens P t (Kd.int k) (fun y => (Lit.int k y).wf = true) := by
  intro H enc w fuel cs x h _
  obtain ⟨n, rfl, rfl, hw⟩ := DataW.trod_int ht h
  exact ⟨n, rfl, hw⟩

theorem Opens.bool (ht : P.underlying t = some .bool) : Opens P t Kd.bool (fun _ => True) := by
  intro H enc w fuel cs x h _
  obtain ⟨b, rfl, rfl⟩ := DataW.trod_bool ht h
  exact ⟨b, rfl, trivial⟩

theorem Opens.string (ht : P.underlying t = some .string) : Opens P t Kd.string (fun y => y.size ≤ 140737488351232) := by
  intro H enc w fuel cs x h hn
  obtain ⟨s, rfl, rfl, _⟩ := DataW.trod_string ht h
  refine ⟨s, rfl, ?_⟩
  have := hn s.data.toList.length (by simp [DataW.weights])
  simpa [reachBytes] using this

theorem choose_list {α : Type} {n : Nat} {p : Nat → α → Prop} (h : ∀ i, i < n → ∃ y, p i y) : ∃ l : List α, l.length = n ∧ ∀ i y, l[i]? = some y → p i y := by
  induction n with
  | zero => exact ⟨[], rfl, fun i y hy => by simp at hy⟩
  | succ n ih =>
    obtain ⟨l, hl, hp⟩ := ih (fun i hi => h i (by omega))
    obtain ⟨y, hy⟩ := h n (by omega)
    refine ⟨l ++ [y], by simp [hl], fun i z hz => ?_⟩
    rcases Nat.lt_or_ge i l.length with hi | hi
    · rw [List.getElem?_append_left hi] at hz
      exact hp i z hz
    · rw [List.getElem?_append_right hi] at hz
      have : i - l.length = 0 := by
        have := (List.getElem?_eq_some_iff.1 hz).1
        simpa using this
      rw [this] at hz
      have h1 : i = n := by omega
      subst h1
      have : y = z := by simpa using hz
      subst this
      exact hy

theorem weightsAll_mem {H : Type} {e : TypeId} : ∀ {l : List (DataW H)} {d : DataW H}, d ∈ l → ∀ n ∈ d.weights P e, n ∈ DataW.weightsAll P e l
  | a :: l, d, hd, n, hn => by
    simp only [DataW.weightsAll, List.mem_append]
    rcases List.mem_cons.1 hd with rfl | hd
    · exact .inl hn
    · exact .inr (weightsAll_mem hd n hn)

theorem Opens.slice {α : Type} {d : Kd α} {S : α → Prop} {b : Nat} (ht : P.underlying t = some (.slice e)) (hc : P.cellsOf e = d.sz) (hb : P.bytesOf e = b) (h : Opens P e d S) :
    Opens P t (Kd.slice e d) (fun l => l.length * b ≤ 140737488351232 ∧ ∀ y ∈ l, S y) := by
  intro H enc w fuel cs x hx hn
  rcases open_slice ht hx with ⟨rfl, rfl⟩ | ⟨a, len, cap, m, n, D, Pl, rfl, _, hl, hm, hmm, rfl, hall⟩
  · exact ⟨[], ⟨none, 0, rfl, Nat.le_refl _, rfl, by simp, fun h => absurd h (by simp)⟩, by simp, by simp⟩
  · simp only [if_true] at hmm
    obtain rfl : m = cap := hmm
    have hel : ∀ i, i < len → ∃ y : α, (∃ cs', w.cells? 0 (a.add (i * P.cellsOf e)) (P.cellsOf e) = some cs' ∧ d.K w y cs') ∧ S y := by
      intro i hi
      obtain ⟨cs', h1, h2⟩ := hall i (by omega)
      obtain ⟨y, hy, hs⟩ := h enc w n cs' _ h2 (fun k hk => hn k (by
        simp only [DataW.weights, ht, List.mem_cons, List.mem_append]
        exact .inr (.inl (weightsAll_mem (List.mem_map.2 ⟨i, List.mem_range.2 hi, rfl⟩) k hk))))
      exact ⟨y, ⟨cs', h1, hy⟩, hs⟩
    obtain ⟨l, hll, hp⟩ := choose_list hel
    subst hll
    have hw : (l.length + (m - l.length)) * b ≤ reachBytes := by
      have := hn _ (by simp only [DataW.weights, ht, List.mem_cons]; exact .inl rfl)
      simpa [hb] using this
    refine ⟨l, ⟨some a, m, rfl, hl, rfl, by unfold maxLen at hm; omega, fun _ => ⟨a, rfl, fun j p hj => ?_⟩⟩, ?_, fun y hy => ?_⟩
    · obtain ⟨⟨cs', h1, hk⟩, _⟩ := hp j p hj
      obtain ⟨_, hlen, hcell⟩ := World.cells?_some h1
      refine ⟨cs', by rw [hlen, hc], hk, fun i u hu => ?_⟩
      have hi : i < P.cellsOf e := by
        have := (List.getElem?_eq_some_iff.1 hu).1
        omega
      have := hcell i hi
      rw [Go.Deep.add_add, hu, hc] at this
      exact this
    · have : l.length * b ≤ (l.length + (m - l.length)) * b := Nat.mul_le_mul_right _ (by omega)
      simp only [reachBytes] at hw
      omega
    · obtain ⟨j, hj⟩ := List.mem_iff_getElem?.1 hy
      exact (hp j y hj).2

/-- The fields from one on, in line. -/
def OpensF (P : Program) (fs : List Field) (o : Nat) {α : Type} (d : Kd α) (S : α → Prop) : Prop :=
  ∀ {H : Type} (enc : TypeId × Value → H) (w : World) (n : Nat) (cs : List Value) (ys : List (DataW H × List MemPlace)),
    (∀ (i : Nat) (f : Field), fs[i]? = some f → DataW.trod enc P w 0 (fun _ => true) true n f.type ((cs.drop f.offset).take (P.cellsOf f.type)) = ys[i]?) → ys.length = fs.length →
    (∀ k ∈ DataW.weightsEach P (fs.map (·.type)) (ys.map (·.1)), k ≤ reachBytes) → cs.length = o + d.sz → ∃ y : α, d.K w y (cs.drop o) ∧ S y

theorem OpensF.one {α : Type} {f : Field} {o : Nat} {d : Kd α} {S : α → Prop} (ho : f.offset = o) (hc : P.cellsOf f.type = d.sz) (h : Opens P f.type d S) : OpensF P [f] o d S := by
  intro H enc w n cs ys hf hl hw hlen
  match ys, hl with
  | [y], _ =>
    have h1 := hf 0 f rfl
    rw [ho, hc, List.take_of_length_le (by rw [List.length_drop]; omega)] at h1
    exact h enc w n _ y h1 (fun k hk => hw k (by simp [DataW.weightsEach, hk]))

theorem OpensF.cons {α β : Type} {f : Field} {fs : List Field} {o o' : Nat} {d : Kd α} {d' : Kd β} {S : α → Prop} {S' : β → Prop} (ho : f.offset = o) (hc : P.cellsOf f.type = d.sz) (ho' : o + d.sz = o')
    (h : Opens P f.type d S) (h' : OpensF P fs o' d' S') : OpensF P (f :: fs) o (Kd.pair d d') (fun z => S z.1 ∧ S' z.2) := by
  intro H enc w n cs ys hf hl hw hlen
  match ys, hl with
  | y :: ys, hl =>
    have h1 := hf 0 f rfl
    rw [ho, hc] at h1
    have hlen' : cs.length = o + (d.sz + d'.sz) := hlen
    obtain ⟨a, ha, hs⟩ := h enc w n _ y h1 (fun k hk => hw k (by simp only [List.map_cons, DataW.weightsEach, List.mem_append]; exact .inl hk))
    obtain ⟨b, hb, hs'⟩ := h' enc w n cs ys (fun i g hg => hf (i + 1) g (by simpa using hg)) (by simpa using hl) (fun k hk => hw k (by simp only [List.map_cons, DataW.weightsEach, List.mem_append]; exact .inr hk)) (by omega)
    refine ⟨(a, b), ⟨_, _, ?_, ha, hb⟩, hs, hs'⟩
    rw [← ho', ← List.drop_drop, List.take_append_drop]

theorem Opens.struct {α β : Type} {fs : Array Field} {d : Kd α} {S : α → Prop} {f : β → α} {g : α → β} (ht : P.underlying t = some (.struct fs)) (hc : P.cellsOf t = d.sz) (hfg : ∀ a, f (g a) = a) (h : OpensF P fs.toList 0 d S) :
    Opens P t (Kd.iso d f) (fun y => S (f y)) := by
  intro H enc w fuel cs x hx hn
  obtain ⟨xs, n, _, rfl, hl, hlen, hf⟩ := DataW.trod_struct ht hx
  obtain ⟨a, ha, hs⟩ := h enc w n cs xs (fun i q hq => hf i q (by simpa using hq)) (by simpa using hlen) (fun k hk => hn k (by simpa [DataW.weights, ht] using hk)) (by rw [hl, hc]; omega)
  refine ⟨g a, ?_, by show S (f (g a)); rw [hfg]; exact hs⟩
  show d.K w (f (g a)) cs
  rw [hfg]
  simpa using ha

theorem Opens.imp {α : Type} {d : Kd α} {S S' : α → Prop} (h : Opens P t d S) (hS : ∀ y, S y → S' y) : Opens P t d S' := by
  intro H enc w fuel cs x hx hn
  obtain ⟨y, hy, hs⟩ := h enc w fuel cs x hx hn
  exact ⟨y, hy, hS y hs⟩

/-- An argument: its cells, told. -/
theorem Opens.arg {H : Type} {enc : TypeId × Value → H} {α : Type} {d : Kd α} {S : α → Prop} {w : World} {ts : List TypeId} {ds : List (DataW H)} {j : Nat} {v : Value} {dd : DataW H} {ps : List MemPlace} (h : Opens P t d S)
    (hz : (DataW.weightsEach P ts ds).all (· ≤ reachBytes) = true) (ht : ts[j]? = some t) (hd : ds[j]? = some dd) (hv : DataW.Trod enc P w 0 (fun _ => true) true t v dd ps) : ∃ y : α, d.K w y v.cells.toList ∧ S y := by
  obtain ⟨fuel, hf⟩ := hv
  exact h enc w fuel _ (dd, ps) hf (fun n hn => by simpa using List.all_eq_true.1 hz n (DataW.weights_mem_each ht hd n hn))

theorem arg_lt {H : Type} {enc : TypeId × Value → H} {w : World} {v : Value} {dd : DataW H} {ps : List MemPlace} (hv : DataW.Trod enc P w 0 (fun _ => true) true t v dd ps) : ∀ x ∈ ps, x.block < w.heap.size := by
  obtain ⟨m, hm⟩ := hv
  exact DataW.trod_lt m _ _ _ hm
end
end Go.Proofs.Ytibnkopdkfjgpaa.Ro


/- The law BitmapBack holds: for every input it returns true, and each argument reads afterwards as it read before. -/
namespace Go.Proofs.Ytibnkopdkfjgpaa.bitmapBack
open Go.ChangeShapes Go.WideShapes Go.ChangeAt Go.RowKit Go.Proofs.Ytibnkopdkfjgpaa.Ro Go.Proofs.Ytibnkopdkfjgpaa.Q Go.Proofs.YtibnkopdkfjgpaaW.PrintWords
open Go.ChangeMaps (open_string shut_string)
theorem own : ownKnob Try.prog.godebug = none := by kernel_rfl
theorem laidOut : laidOutB Try.prog = true := by kernel_rfl
theorem opens25 : Opens Try.prog 25 k25 (fun y => ((Lit.int .i64 y.f0).wf = true ∧ (y.f1.length * 8 ≤ 140737488351232 ∧ ∀ y_yf1 ∈ y.f1, (Lit.int .i64 y_yf1).wf = true))) := (Opens.struct (f := (fun x : S25 => (x.f0, x.f1))) (g := (fun a => (⟨a.1, a.2⟩ : S25))) Try.underlying25 (by kernel_rfl) (fun _ => rfl) (OpensF.cons rfl (by kernel_rfl) rfl (Opens.int Try.underlying3) (OpensF.one rfl (by kernel_rfl) (Opens.slice Try.underlying22 (by kernel_rfl) (by kernel_rfl) (Opens.int Try.underlying3)))))
set_option maxRecDepth 100000 in
theorem lifted (os : Os) (started : os.Started) (H : Type) (enc : TypeId × Value → H) :
    ReturnsInHanded {} Try.checked os 5 .any (Rows.bitmapBackSpec.pre6 enc Try.prog Try.f5 Rows.bitmapBackRow.domain false) (Rows.bitmapBackSpec.post enc Try.prog Try.f5 false true false false) := by
  refine returnsInHanded_of_change_sized (C := Try.checked) own started (by kernel_rfl) Try.func5
    (ChangeSpec.witness6 (enc := enc) (C := Try.checked) false ⟨#[], #[.agg #[.int .i64 0, .slice none 0 0], .agg #[.int .i64 0, .slice none 0 0]], []⟩ 8 (by kernel_rfl) (by kernel_rfl) (by kernel_rfl) (by kernel_rfl)) ?_
  intro W base args ds gs before hval0 hW hcnd hsz0 _
  have hsz : (DataW.weightsEach Try.prog (Try.f5.params.toList ++ Rows.bitmapBackSpec.plain.varTypes Try.prog) (ds ++ gs)).all (· ≤ reachBytes) = true := hsz0
  have hval : ∀ (j : Nat) t v, Try.f5.params[j]? = some t → args[j]? = some v → Value.okWide Try.prog W .any base t v := hval0
  have hW' := hW
  obtain ⟨p, q, hA0, hV, rfl, hfz, hnd⟩ := hW
  have hA : DataW.TrodAll enc Try.prog W 0 (fun _ => true) true Try.f5.params.toList args.toList ds p := hA0
  rw [Try.params5] at hA hval hsz
  obtain ⟨v0, vs0, d0, ds0, p0, q0, hargs, rfl, rfl, h0, r0⟩ := trodAll_cons hA
  obtain ⟨v1, vs1, d1, ds1, p1, q1, rfl, rfl, rfl, h1, r1⟩ := trodAll_cons r0
  obtain ⟨rfl, rfl, rfl⟩ := trodAll_nil r1
  obtain rfl : args = #[v0, v1] := by cases args; simp_all
  obtain ⟨rfl, rfl⟩ := trodVars_none hV
  have lt0 := arg_lt h0
  obtain ⟨y0, hk0, w0⟩ := opens25.arg hsz (j := 0) rfl rfl h0
  obtain ⟨cs0, rfl, _⟩ := okWide_struct Try.underlying25 (hval 0 25 v0 rfl rfl)
  have hk0' := k25_open hk0
  obtain ⟨A0_1, c0_1, e0, hl0_1, hr0_1⟩ := hk0'
  obtain rfl : cs0 = #[.int .i64 y0.f0, .slice A0_1 y0.f1.length c0_1] := by cases cs0; simpa [Value.cells] using e0
  have lt1 := arg_lt h1
  obtain ⟨y1, hk1, w1⟩ := opens25.arg hsz (j := 1) rfl rfl h1
  obtain ⟨cs1, rfl, _⟩ := okWide_struct Try.underlying25 (hval 1 25 v1 rfl rfl)
  have hk1' := k25_open hk1
  obtain ⟨A1_1, c1_1, e1, hl1_1, hr1_1⟩ := hk1'
  obtain rfl : cs1 = #[.int .i64 y1.f0, .slice A1_1 y1.f1.length c1_1] := by cases cs1; simpa [Value.cells] using e1
  obtain ⟨k, hp⟩ := Pure.BitmapBack _ _ w0 w1
  clear hA0 hval0 hsz0 hsz
  refine (Q.graftagelaw27_BitmapBack.callsT k y0.f0 _ _ y0.f1 y1.f0 _ _ y1.f1 true W hr0_1 hl0_1 hr1_1 hl1_1 rfl hp).mono ?_
  rintro e W' ⟨rfl, bel0⟩
  have bel : Below W.heap.size W W' := bel0
  exact ⟨_, rfl, _, _, _, [], _, [], hW', trodAll_mk1 (shut_bool Try.underlying4 _), (trodAll_cons_mk (Below.trod laidOut (by kernel_rfl) (of_decide_eq_true (by kernel_rfl)) h0 bel lt0) (trodAll_cons_mk (Below.trod laidOut (by kernel_rfl) (of_decide_eq_true (by kernel_rfl)) h1 bel lt1) trodAll_mk0)), rfl, bel.frame _, fun h => by cases h⟩
theorem jn1 : Rows.bitmapBackRow.inPlace = Try.pinned.checked.prog.inPlace 5 := by kernel_rfl
theorem jn2 : Rows.bitmapBackRow.unfollowed = Try.pinned.checked.prog.unfollowed 5 := by kernel_rfl
theorem jn3 : Rows.bitmapBackRow.recurses = Try.pinned.checked.prog.recurses 5 := by kernel_rfl
theorem jn4 : Rows.bitmapBackRow.named = Try.pinned.checked.prog.varsNamed 5 := by kernel_rfl
theorem joined : joinedFacts Try.pinned.checked.prog 5 Try.f5 Rows.bitmapBackSpec Rows.bitmapBackRow = true := by unfold joinedFacts; rw [← jn1, ← jn2, ← jn3, ← jn4]; kernel_rfl
theorem over : Rows.bitmapBackRow.holds Try.pinned (OpenSpec.ofChange Rows.bitmapBackSpec) :=
  OpenClaim.holds_of_wide 5 Try.f5 rfl rfl rfl rfl rfl rfl rfl ⟨rfl, rfl, rfl, rfl, rfl⟩ rfl rfl rfl rfl rfl (by kernel_rfl) Try.func5 joined
    (of_decide_eq_true (by kernel_rfl)) (by unfold Func.isWrapper; first | (rw [if_pos (by decide +kernel)]; kernel_rfl) | (rw [if_neg (by decide +kernel)]; exact ⟨rfl, rfl⟩))
    (fun os started H enc _ => lifted os started H enc)
theorem proved : Rows.BitmapBackSaid := over
#print axioms proved
end Go.Proofs.Ytibnkopdkfjgpaa.bitmapBack
namespace Go.Proofs.Ytibnkopdkfjgpaa
/-- The statement, under a short name, for the claim. -/
theorem bitmapBack_holds : Rows.BitmapBackSaid := bitmapBack.proved
end Go.Proofs.Ytibnkopdkfjgpaa


