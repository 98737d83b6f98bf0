/- The law CommitNames holds: for every input it returns true, and each argument reads afterwards as it read before. -/
import Derived.Test.YtbhfbbfjdklfgaaGreatDoorMCommitNames2
set_option linter.unusedVariables false
set_option linter.unusedSimpArgs false
set_option maxHeartbeats 8000000
set_option maxRecDepth 100000
namespace Go.Proofs.YtbhfbbfjdklfgaaGreatDoor.Q
open Go.Proofs.Tryz Go.RowKit Go.Proofs.YtbhfbbfjdklfgaaGreatDoorW.PrintWords Go.Proofs.YtbhfbbfjdklfgaaGreatDoorW.PrintLast Go.Proofs.YtbhfbbfjdklfgaaGreatDoorW.PrintMore
attribute [local go_sem] max2_int min2_int max_two min_two max_three min_three max_four min_four
mutual
def commit_Check.j0 : Nat → Bool → ByteArray → List ByteArray → ByteArray → ByteArray → Int → Int → ByteArray → ByteArray → Int → Int → ByteArray → Option (Int)
 | 0, _, _, _, _, _, _, _, _, _, _, _, _ => none
 | k + 1, x33, x102000, x102001, x102002, x102003, x102004, x102005, x102006, x102007, x102008, x102009, x102010 => if x33 = true then (some 1) else (if (x102010.size : Int) > 4096 then (commit_Check.j1 k true x102000 x102001 x102002 x102003 x102004 x102005 x102006 x102007 x102008 x102009 x102010) else (commit_Check.j1 k (decide ((x102001.length : Int) > 8)) x102000 x102001 x102002 x102003 x102004 x102005 x102006 x102007 x102008 x102009 x102010))
def commit_Check.j1 : Nat → Bool → ByteArray → List ByteArray → ByteArray → ByteArray → Int → Int → ByteArray → ByteArray → Int → Int → ByteArray → Option (Int)
 | 0, _, _, _, _, _, _, _, _, _, _, _, _ => none
 | k + 1, x43, x102000, x102001, x102002, x102003, x102004, x102005, x102006, x102007, x102008, x102009, x102010 => if x43 = true then (some 4) else (commit_Check.l0 k x102001 (x102001.length : Int) 0 MSB.nil)
def commit_Check.l0 : Nat → List ByteArray → Int → Int → MSB → Option (Int)
 | 0, _, _, _, _ => none
 | k + 1, x46, x47, x48, x108000 => if x48 < x47 then (if 0 ≤ x48 then (if x48 < (x46.length : Int) then (if (rdOf ByteArray.empty x46 x48).size ≤ 9223372036854775807 then (if MSB.get x108000 (rdOf ByteArray.empty x46 x48) = true then (some 6) else (if x108000.n < 4611686018427387904 then (commit_Check.l0 k x46 x47 (wrap64 (x48 + 1)) (MSB.put x108000 (rdOf ByteArray.empty x46 x48) true)) else (none))) else (none)) else (none)) else (none)) else (some 0)
end
def commit_Check.f (k : Nat) (a0_0 : ByteArray) (l0_1 : List ByteArray) (a0_2 : ByteArray) (a0_3 : ByteArray) (a0_4 : Int) (a0_5 : Int) (a0_6 : ByteArray) (a0_7 : ByteArray) (a0_8 : Int) (a0_9 : Int) (a0_10 : ByteArray) : Option (Int) := (commit_Check_1.f a0_0).bind fun t102 => (if t102 = true then (commit_Check.j0 k true a0_0 l0_1 a0_2 a0_3 a0_4 a0_5 a0_6 a0_7 a0_8 a0_9 a0_10) else ((slices_ContainsFunc_string_string.f k l0_1 (fun z0 => commit_Check_1.f z0)).bind fun t103 => (if t103 = true then (commit_Check.j0 k true a0_0 l0_1 a0_2 a0_3 a0_4 a0_5 a0_6 a0_7 a0_8 a0_9 a0_10) else ((commit_somebody.f k a0_2 a0_3 a0_4 a0_5).bind fun t104 => (if t104 = true then ((commit_somebody.f k a0_6 a0_7 a0_8 a0_9).bind fun t105 => (if t105 = true then ((strings_Contains2.f a0_10 ⟨#[0]⟩).bind fun t106 => (commit_Check.j0 k t106 a0_0 l0_1 a0_2 a0_3 a0_4 a0_5 a0_6 a0_7 a0_8 a0_9 a0_10)) else (commit_Check.j0 k true a0_0 l0_1 a0_2 a0_3 a0_4 a0_5 a0_6 a0_7 a0_8 a0_9 a0_10))) else (commit_Check.j0 k true a0_0 l0_1 a0_2 a0_3 a0_4 a0_5 a0_6 a0_7 a0_8 a0_9 a0_10))))))
theorem commit_Check.mono_l : ∀ k, (∀ y0 y1 y2 y3 y4 y5 y6 y7 y8 y9 y10 y11, LeO (commit_Check.j0 k y0 y1 y2 y3 y4 y5 y6 y7 y8 y9 y10 y11) (commit_Check.j0 (k + 1) y0 y1 y2 y3 y4 y5 y6 y7 y8 y9 y10 y11)) ∧ (∀ y0 y1 y2 y3 y4 y5 y6 y7 y8 y9 y10 y11, LeO (commit_Check.j1 k y0 y1 y2 y3 y4 y5 y6 y7 y8 y9 y10 y11) (commit_Check.j1 (k + 1) y0 y1 y2 y3 y4 y5 y6 y7 y8 y9 y10 y11)) ∧ (∀ y0 y1 y2 y3, LeO (commit_Check.l0 k y0 y1 y2 y3) (commit_Check.l0 (k + 1) y0 y1 y2 y3))
 | 0 => ⟨fun _ _ _ _ _ _ _ _ _ _ _ _ r h => by simp [commit_Check.j0] at h, fun _ _ _ _ _ _ _ _ _ _ _ _ r h => by simp [commit_Check.j1] at h, fun _ _ _ _ r h => by simp [commit_Check.l0] at h⟩
 | k + 1 => by
  obtain ⟨ih0, ih1, ih2⟩ := commit_Check.mono_l k
  refine ⟨?_, ?_, ?_⟩
  ·intro y0 y1 y2 y3 y4 y5 y6 y7 y8 y9 y10 y11
   unfold commit_Check.j0
   have m0_ := @ih0
   have m1_ := @ih1
   have m2_ := @ih2
   have m3_ := @commit_somebody.mono
   have m4_ := @slices_ContainsFunc_string_string.mono
   exact mz_
  ·intro y0 y1 y2 y3 y4 y5 y6 y7 y8 y9 y10 y11
   unfold commit_Check.j1
   have m0_ := @ih0
   have m1_ := @ih1
   have m2_ := @ih2
   have m3_ := @commit_somebody.mono
   have m4_ := @slices_ContainsFunc_string_string.mono
   exact mz_
  ·intro y0 y1 y2 y3
   unfold commit_Check.l0
   have m0_ := @ih0
   have m1_ := @ih1
   have m2_ := @ih2
   have m3_ := @commit_somebody.mono
   have m4_ := @slices_ContainsFunc_string_string.mono
   exact mz_
theorem commit_Check.mono : ∀ a0 a1 a2 a3 a4 a5 a6 a7 a8 a9 a10 k, LeO (commit_Check.f k a0 a1 a2 a3 a4 a5 a6 a7 a8 a9 a10) (commit_Check.f (k + 1) a0 a1 a2 a3 a4 a5 a6 a7 a8 a9 a10) := by
 intro a0 a1 a2 a3 a4 a5 a6 a7 a8 a9 a10 k; obtain ⟨ih0, ih1, ih2⟩ := commit_Check.mono_l k; unfold commit_Check.f; have m0_ := @ih0; have m1_ := @ih1; have m2_ := @ih2; have m3_ := @commit_somebody.mono; have m4_ := @slices_ContainsFunc_string_string.mono; exact mz_
theorem commit_Check.calls (k : Nat) (a0_0 : ByteArray) (A0_1 : Option Addr) (c0_1 : Nat) (l0_1 : List ByteArray) (a0_2 : ByteArray) (a0_3 : ByteArray) (a0_4 : Int) (a0_5 : Int) (a0_6 : ByteArray) (a0_7 : ByteArray) (a0_8 : Int) (a0_9 : Int) (a0_10 : ByteArray) (r : Int) (w : World) (hr0_1 : Kd.C Kd.string w A0_1 l0_1.length l0_1) (hc0_1 : l0_1.length ≤ c0_1) (hgv : GV w) (h : commit_Check.f k a0_0 l0_1 a0_2 a0_3 a0_4 a0_5 a0_6 a0_7 a0_8 a0_9 a0_10 = some r) :
  Calls Tryz.prog 18 #[.agg #[.string a0_0, .slice A0_1 l0_1.length c0_1, .string a0_2, .string a0_3, .int .i64 a0_4, .int .i64 a0_5, .string a0_6, .string a0_7, .int .i64 a0_8, .int .i64 a0_9, .string a0_10]] w fun e w' => e = .returned (.int .i64 r) ∧ Below w.heap.size w w' := by
 have hu26 := underlying26; have hu24 := underlying24; have HR0_1 := Aside0.mk hr0_1; have HC0_1 := Aside0.mk hc0_1; clear hr0_1 hc0_1; have HB := Aside0.mk (Below.refl w.heap.size w); unfold commit_Check.f at h; have H := h; clear h; have HC2 := Aside0.mk H; clear H; go_enter func18, ntmps18; go_upto_region 2 with (first | ((with_reducible refine gate_dst (N := 1) rfl ?_); (try (refine gate_guard (by rfl) ?_; dsimp only)); refine be_ (cs := #[.string a0_0, .slice A0_1 l0_1.length c0_1, .string a0_2, .string a0_3, .int .i64 a0_4, .int .i64 a0_5, .string a0_6, .string a0_7, .int .i64 a0_8, .int .i64 a0_9, .string a0_10]) (t := 26) ?_; intro gb101 hg w3 hbox hb; have BK101 := Aside0.mk (hbox); have GW101 := ag_ hg HB; have GE101 := ag_ hg HB; replace HB := ah_ HB hb; clear hb hbox hg)); (try simp only [Act.put, List.setIfInBounds_toArray, List.set_cons_zero, List.set_cons_succ])
 go_cut [33] (fun v33 wc => ∃ (kq : Nat) (x33_1 : Bool), v33 = .bool x33_1 ∧ Aside0 (commit_Check.j0 kq x33_1 a0_0 l0_1 a0_2 a0_3 a0_4 a0_5 a0_6 a0_7 a0_8 a0_9 a0_10 = some r) ∧ Aside0 (kq ≤ k) ∧ Aside0 (wc.heap[gb101]? = some (.cells #[.string a0_0, (.slice A0_1 l0_1.length c0_1), .string a0_2, .string a0_3, .int .i64 a0_4, .int .i64 a0_5, .string a0_6, .string a0_7, .int .i64 a0_8, .int .i64 a0_9, .string a0_10] 26 (0, 0))) ∧ Aside0 (Below w.heap.size w wc))
 case first =>
  have H := HC2.out; clear HC2; obtain ⟨t102, A4, H⟩ := bx_ H; by_cases c5 : t102 = true
  ·subst c5; rw [if_pos rfl] at H; have H' := Aside0.mk H; clear H; obtain ⟨Z6_0, Z6_1, Z6_2, Z6_3, Z6_4, Z6_5, Z6_6, Z6_7, Z6_8, Z6_9, Z6_10, F6⟩ := bc11 BK101.out; go_wp2_with (first | (refine goesF_ (some 10) rfl rfl (g := 64) (lb := #[]) (fun args w => enters_ func64 rfl rfl args w) #[.string a0_0] rfl rfl z8_ #[.string a0_0] (by first | rfl | simp) ?_; refine cm_ (commit_Check_1.calls a0_0  true _ A4.out) ?_; rintro w' ⟨nd, rfl⟩)); go_meet
   case rel => exact ⟨_, (true), z1_, H', ⟨z4_⟩, ⟨bk_ BK101.out⟩, ⟨hs_⟩⟩
  replace c5 := Bool.eq_false_iff.mpr c5; subst c5; rw [if_neg nft_] at H; obtain ⟨t103, A7, H⟩ := bx_ H; by_cases c8 : t103 = true
  ·subst c8; rw [if_pos rfl] at H; have H' := Aside0.mk H; clear H; obtain ⟨Z9_0, Z9_1, Z9_2, Z9_3, Z9_4, Z9_5, Z9_6, Z9_7, Z9_8, Z9_9, Z9_10, F9⟩ := bc11 BK101.out; go_wp2_with (first | (refine goesF_ (some 10) rfl rfl (g := 64) (lb := #[]) (fun args w => enters_ func64 rfl rfl args w) #[.string a0_0] rfl rfl z8_ #[.string a0_0] (by first | rfl | simp) ?_; refine cm_ (commit_Check_1.calls a0_0  false _ A4.out) ?_; rintro w' ⟨nd, rfl⟩) | (go_at_call 66; (with_reducible refine (slices_ContainsFunc_string_string.calls k _ _ l0_1 64 #[] (fun z0 => commit_Check_1.f z0) true _ ?side1 ?side2 ?side3 ?side4 A7.out).mono ?_); (case side1 => repeat (first | exact (Kd.C_below HR0_1.out (hs_)) | (with_reducible refine Kd.C_alloc ?_ _) | (with_reducible refine Kd.C_drewN ?_ _) | (with_reducible refine Kd.C_drew ?_))); (case side2 => exact HC0_1.out); (case side3 => exact fun args w => enters_ func64 rfl rfl args w); (case side4 => intro z0_ z1_ W_ hB_ h_; exact (commit_Check_1.calls z0_ z1_ W_  h_).mono (fun e w' hx_ => ⟨hx_.1, hx_.2.below⟩)); rintro e w10 ⟨rfl, hb⟩; replace BK101 := ab_ BK101 hb; replace HB := Aside0.mk (below_step (hs_) hb); (try clear hb); (try clear hb2); (try clear hk); (try clear hi)))
   go_meet
   case rel => exact ⟨_, (true), z1_, H', ⟨z4_⟩, ⟨bk_ BK101.out⟩, ⟨hs_⟩⟩
  replace c8 := Bool.eq_false_iff.mpr c8; subst c8; rw [if_neg nft_] at H; obtain ⟨t104, A11, H⟩ := bx_ H; by_cases c12 : t104 = true; rotate_left
  ·replace c12 := Bool.eq_false_iff.mpr c12; subst c12; rw [if_neg nft_] at H; have H' := Aside0.mk H; clear H; obtain ⟨Z29_0, Z29_1, Z29_2, Z29_3, Z29_4, Z29_5, Z29_6, Z29_7, Z29_8, Z29_9, Z29_10, F29⟩ := bc11 BK101.out; go_wp2_with (first | (refine goesF_ (some 10) rfl rfl (g := 64) (lb := #[]) (fun args w => enters_ func64 rfl rfl args w) #[.string a0_0] rfl rfl z8_ #[.string a0_0] (by first | rfl | simp) ?_; refine cm_ (commit_Check_1.calls a0_0  false _ A4.out) ?_; rintro w' ⟨nd, rfl⟩) | (go_at_call 66; (with_reducible refine (slices_ContainsFunc_string_string.calls k _ _ l0_1 64 #[] (fun z0 => commit_Check_1.f z0) false _ ?side1 ?side2 ?side3 ?side4 A7.out).mono ?_); (case side1 => repeat (first | exact (Kd.C_below HR0_1.out (hs_)) | (with_reducible refine Kd.C_alloc ?_ _) | (with_reducible refine Kd.C_drewN ?_ _) | (with_reducible refine Kd.C_drew ?_))); (case side2 => exact HC0_1.out); (case side3 => exact fun args w => enters_ func64 rfl rfl args w); (case side4 => intro z0_ z1_ W_ hB_ h_; exact (commit_Check_1.calls z0_ z1_ W_  h_).mono (fun e w' hx_ => ⟨hx_.1, hx_.2.below⟩)); rintro e w30 ⟨rfl, hb⟩; replace BK101 := ab_ BK101 hb; replace HB := Aside0.mk (below_step (hs_) hb); (try clear hb); (try clear hb2); (try clear hk); (try clear hi); obtain ⟨Z31_0, Z31_1, Z31_2, Z31_3, Z31_4, Z31_5, Z31_6, Z31_7, Z31_8, Z31_9, Z31_10, F31⟩ := bc11 BK101.out) | (go_at_call 67; (with_reducible refine (commit_somebody.calls k a0_2 a0_3 a0_4 a0_5 false _ A11.out).mono ?_); rintro e w32 ⟨rfl, hb⟩; replace BK101 := ab_ BK101 hb; replace HB := Aside0.mk (below_step (hs_) hb); (try clear hb); (try clear hb2); (try clear hk); (try clear hi)))
   go_meet
   case rel => exact ⟨_, (true), z1_, H', ⟨z4_⟩, ⟨bk_ BK101.out⟩, ⟨hs_⟩⟩
  subst c12; rw [if_pos rfl] at H; obtain ⟨t105, A13, H⟩ := bx_ H; by_cases c14 : t105 = true; rotate_left
  ·replace c14 := Bool.eq_false_iff.mpr c14; subst c14; rw [if_neg nft_] at H; have H' := Aside0.mk H; clear H; obtain ⟨Z23_0, Z23_1, Z23_2, Z23_3, Z23_4, Z23_5, Z23_6, Z23_7, Z23_8, Z23_9, Z23_10, F23⟩ := bc11 BK101.out; have tk3_ : True := trivial; have tk4_ : True := trivial; go_wp2_with (first | (refine goesF_ (some 10) rfl rfl (g := 64) (lb := #[]) (fun args w => enters_ func64 rfl rfl args w) #[.string a0_0] rfl rfl z8_ #[.string a0_0] (by first | rfl | simp) ?_; refine cm_ (commit_Check_1.calls a0_0  false _ A4.out) ?_; rintro w' ⟨nd, rfl⟩) | (go_at_call 66; (with_reducible refine (slices_ContainsFunc_string_string.calls k _ _ l0_1 64 #[] (fun z0 => commit_Check_1.f z0) false _ ?side1 ?side2 ?side3 ?side4 A7.out).mono ?_); (case side1 => repeat (first | exact (Kd.C_below HR0_1.out (hs_)) | (with_reducible refine Kd.C_alloc ?_ _) | (with_reducible refine Kd.C_drewN ?_ _) | (with_reducible refine Kd.C_drew ?_))); (case side2 => exact HC0_1.out); (case side3 => exact fun args w => enters_ func64 rfl rfl args w); (case side4 => intro z0_ z1_ W_ hB_ h_; exact (commit_Check_1.calls z0_ z1_ W_  h_).mono (fun e w' hx_ => ⟨hx_.1, hx_.2.below⟩)); rintro e w24 ⟨rfl, hb⟩; replace BK101 := ab_ BK101 hb; replace HB := Aside0.mk (below_step (hs_) hb); (try clear hb); (try clear hb2); (try clear hk); (try clear hi); obtain ⟨Z25_0, Z25_1, Z25_2, Z25_3, Z25_4, Z25_5, Z25_6, Z25_7, Z25_8, Z25_9, Z25_10, F25⟩ := bc11 BK101.out) | (go_at_call 67; have _t := tk3_; (with_reducible refine (commit_somebody.calls k a0_2 a0_3 a0_4 a0_5 true _ A11.out).mono ?_); rintro e w26 ⟨rfl, hb⟩; replace BK101 := ab_ BK101 hb; replace HB := Aside0.mk (below_step (hs_) hb); (try clear hb); (try clear hb2); (try clear hk); (try clear hi); obtain ⟨Z27_0, Z27_1, Z27_2, Z27_3, Z27_4, Z27_5, Z27_6, Z27_7, Z27_8, Z27_9, Z27_10, F27⟩ := bc11 BK101.out; clear tk3_) | (go_at_call 67; have _t := tk4_; (with_reducible refine (commit_somebody.calls k a0_6 a0_7 a0_8 a0_9 false _ A13.out).mono ?_); rintro e w28 ⟨rfl, hb⟩; replace BK101 := ab_ BK101 hb; replace HB := Aside0.mk (below_step (hs_) hb); (try clear hb); (try clear hb2); (try clear hk); (try clear hi); clear tk4_)); go_meet
   case rel => exact ⟨_, (true), z1_, H', ⟨z4_⟩, ⟨bk_ BK101.out⟩, ⟨hs_⟩⟩
  subst c14; rw [if_pos rfl] at H; obtain ⟨t106, A15, H⟩ := bx_ H; have H' := Aside0.mk H; clear H; obtain ⟨Z16_0, Z16_1, Z16_2, Z16_3, Z16_4, Z16_5, Z16_6, Z16_7, Z16_8, Z16_9, Z16_10, F16⟩ := bc11 BK101.out; have tk1_ : True := trivial; have tk2_ : True := trivial; go_wp2_with (first | (refine goesF_ (some 10) rfl rfl (g := 64) (lb := #[]) (fun args w => enters_ func64 rfl rfl args w) #[.string a0_0] rfl rfl z8_ #[.string a0_0] (by first | rfl | simp) ?_; refine cm_ (commit_Check_1.calls a0_0  false _ A4.out) ?_; rintro w' ⟨nd, rfl⟩) | (go_at_call 66; (with_reducible refine (slices_ContainsFunc_string_string.calls k _ _ l0_1 64 #[] (fun z0 => commit_Check_1.f z0) false _ ?side1 ?side2 ?side3 ?side4 A7.out).mono ?_); (case side1 => repeat (first | exact (Kd.C_below HR0_1.out (hs_)) | (with_reducible refine Kd.C_alloc ?_ _) | (with_reducible refine Kd.C_drewN ?_ _) | (with_reducible refine Kd.C_drew ?_))); (case side2 => exact HC0_1.out); (case side3 => exact fun args w => enters_ func64 rfl rfl args w); (case side4 => intro z0_ z1_ W_ hB_ h_; exact (commit_Check_1.calls z0_ z1_ W_  h_).mono (fun e w' hx_ => ⟨hx_.1, hx_.2.below⟩)); rintro e w17 ⟨rfl, hb⟩; replace BK101 := ab_ BK101 hb; replace HB := Aside0.mk (below_step (hs_) hb); (try clear hb); (try clear hb2); (try clear hk); (try clear hi); obtain ⟨Z18_0, Z18_1, Z18_2, Z18_3, Z18_4, Z18_5, Z18_6, Z18_7, Z18_8, Z18_9, Z18_10, F18⟩ := bc11 BK101.out) | (go_at_call 67; have _t := tk1_; (with_reducible refine (commit_somebody.calls k a0_2 a0_3 a0_4 a0_5 true _ A11.out).mono ?_); rintro e w19 ⟨rfl, hb⟩; replace BK101 := ab_ BK101 hb; replace HB := Aside0.mk (below_step (hs_) hb); (try clear hb); (try clear hb2); (try clear hk); (try clear hi); obtain ⟨Z20_0, Z20_1, Z20_2, Z20_3, Z20_4, Z20_5, Z20_6, Z20_7, Z20_8, Z20_9, Z20_10, F20⟩ := bc11 BK101.out; clear tk1_) | (go_at_call 67; have _t := tk2_; (with_reducible refine (commit_somebody.calls k a0_6 a0_7 a0_8 a0_9 true _ A13.out).mono ?_); rintro e w21 ⟨rfl, hb⟩; replace BK101 := ab_ BK101 hb; replace HB := Aside0.mk (below_step (hs_) hb); (try clear hb); (try clear hb2); (try clear hk); (try clear hi); obtain ⟨Z22_0, Z22_1, Z22_2, Z22_3, Z22_4, Z22_5, Z22_6, Z22_7, Z22_8, Z22_9, Z22_10, F22⟩ := bc11 BK101.out; clear tk2_) | (go_at_call 68; (with_reducible refine (strings_Contains2.calls a0_10 ⟨#[0]⟩ t106 _ ?side1 A15.out).mono ?_); (case side1 => exact GV.below hgv (hs_)); rintro e w' ⟨rfl, ⟨nd, rfl⟩⟩)); go_meet
  case rel => exact ⟨_, (t106), z1_, H', ⟨z4_⟩, ⟨bk_ BK101.out⟩, ⟨hs_⟩⟩
 case rest =>
  clear HC2; try clear c1
  try clear p2
  try clear c5
  try clear c6
  try clear c8
  try clear c12
  try clear c14
  try clear c18
  try clear Z16_0 Z16_1 Z16_10 Z16_2 Z16_3 Z16_4 Z16_5 Z16_6 Z16_7 Z16_8 Z16_9
  try clear Z18_0 Z18_1 Z18_10 Z18_2 Z18_3 Z18_4 Z18_5 Z18_6 Z18_7 Z18_8 Z18_9
  try clear Z20_0 Z20_1 Z20_10 Z20_2 Z20_3 Z20_4 Z20_5 Z20_6 Z20_7 Z20_8 Z20_9
  try clear Z22_0 Z22_1 Z22_10 Z22_2 Z22_3 Z22_4 Z22_5 Z22_6 Z22_7 Z22_8 Z22_9
  try clear Z23_0 Z23_1 Z23_10 Z23_2 Z23_3 Z23_4 Z23_5 Z23_6 Z23_7 Z23_8 Z23_9
  try clear Z25_0 Z25_1 Z25_10 Z25_2 Z25_3 Z25_4 Z25_5 Z25_6 Z25_7 Z25_8 Z25_9
  try clear Z27_0 Z27_1 Z27_10 Z27_2 Z27_3 Z27_4 Z27_5 Z27_6 Z27_7 Z27_8 Z27_9
  try clear Z29_0 Z29_1 Z29_10 Z29_2 Z29_3 Z29_4 Z29_5 Z29_6 Z29_7 Z29_8 Z29_9
  try clear Z31_0 Z31_1 Z31_10 Z31_2 Z31_3 Z31_4 Z31_5 Z31_6 Z31_7 Z31_8 Z31_9
  try clear Z6_0 Z6_1 Z6_10 Z6_2 Z6_3 Z6_4 Z6_5 Z6_6 Z6_7 Z6_8 Z6_9
  try clear Z9_0 Z9_1 Z9_10 Z9_2 Z9_3 Z9_4 Z9_5 Z9_6 Z9_7 Z9_8 Z9_9
  try clear F16
  try clear F18
  try clear F20
  try clear F22
  try clear F23
  try clear F25
  try clear F27
  try clear F29
  try clear F31
  try clear F6
  try clear F9
  obtain ⟨kq, x33_1, rfl, HA, HJ1, BK101, HB⟩ := hcut
  cases kq with
  | zero => exact absurd HA.out (by simp [commit_Check.j0])
  | succ kj1 =>
   have H := HA.out; clear HA; simp only [commit_Check.j0] at H; by_cases c33 : x33_1 = true
   ·subst c33; rw [if_pos rfl] at H; obtain rfl := oi_ H; go_wp2
    go_ret
    exact ⟨z3_, hs_⟩
   replace c33 := Bool.eq_false_iff.mpr c33; subst c33; rw [if_neg nft_] at H; have HC34 := Aside0.mk H; clear H; go_upto_region 4 with (fail)
   go_cut [43] (fun v43 wc => ∃ (kq : Nat) (x43_33 : Bool), v43 = .bool x43_33 ∧ Aside0 (commit_Check.j1 kq x43_33 a0_0 l0_1 a0_2 a0_3 a0_4 a0_5 a0_6 a0_7 a0_8 a0_9 a0_10 = some r) ∧ Aside0 (kq ≤ kj1) ∧ Aside0 (wc.heap[gb101]? = some (.cells #[.string a0_0, (.slice A0_1 l0_1.length c0_1), .string a0_2, .string a0_3, .int .i64 a0_4, .int .i64 a0_5, .string a0_6, .string a0_7, .int .i64 a0_8, .int .i64 a0_9, .string a0_10] 26 (0, 0))) ∧ Aside0 (Below w.heap.size w wc))
   case first =>
    have H := HC34.out; clear HC34; by_cases c35 : (a0_10.size : Int) > 4096
    ·rw [if_pos c35] at H; have c35b0 := dt_ c35; have c35b1 : decide (4096 < a0_10.size) = true := decide_eq_true (by omega); clear c35; (first | rw [c35b0] | (simp only [i64_w, i32_w]; rw [c35b0]) | skip); have H' := Aside0.mk H; clear H; obtain ⟨Z36_0, Z36_1, Z36_2, Z36_3, Z36_4, Z36_5, Z36_6, Z36_7, Z36_8, Z36_9, Z36_10, F36⟩ := bc11 BK101.out; go_wp2
     go_meet
     case rel => exact ⟨_, (true), z1_, H', ⟨by have := HJ1.out; first | omega | exact Nat.le_refl _⟩, ⟨bk_ BK101.out⟩, ⟨hs_⟩⟩
    rw [if_neg c35] at H; have c35b0 := df_ c35; have c35b1 : decide (4096 < a0_10.size) = false := decide_eq_false (by omega); clear c35; (first | rw [c35b0] | (simp only [i64_w, i32_w]; rw [c35b0]) | skip); have H' := Aside0.mk H; clear H; obtain ⟨Z37_0, Z37_1, Z37_2, Z37_3, Z37_4, Z37_5, Z37_6, Z37_7, Z37_8, Z37_9, Z37_10, F37⟩ := bc11 BK101.out; go_wp2
    go_meet
    case rel => exact ⟨_, (decide ((l0_1.length : Int) > 8)), z1_, H', ⟨by have := HJ1.out; first | omega | exact Nat.le_refl _⟩, ⟨bk_ BK101.out⟩, ⟨hs_⟩⟩
   case rest =>
    clear HC34; try clear c1
    try clear p2
    try clear c3
    try clear c5
    try clear c6
    try clear c8
    try clear c12
    try clear c14
    try clear c18
    try clear c33
    try clear c35
    try clear c35b0
    try clear c35b1
    try clear Z16_0 Z16_1 Z16_10 Z16_2 Z16_3 Z16_4 Z16_5 Z16_6 Z16_7 Z16_8 Z16_9
    try clear Z18_0 Z18_1 Z18_10 Z18_2 Z18_3 Z18_4 Z18_5 Z18_6 Z18_7 Z18_8 Z18_9
    try clear Z20_0 Z20_1 Z20_10 Z20_2 Z20_3 Z20_4 Z20_5 Z20_6 Z20_7 Z20_8 Z20_9
    try clear Z22_0 Z22_1 Z22_10 Z22_2 Z22_3 Z22_4 Z22_5 Z22_6 Z22_7 Z22_8 Z22_9
    try clear Z23_0 Z23_1 Z23_10 Z23_2 Z23_3 Z23_4 Z23_5 Z23_6 Z23_7 Z23_8 Z23_9
    try clear Z25_0 Z25_1 Z25_10 Z25_2 Z25_3 Z25_4 Z25_5 Z25_6 Z25_7 Z25_8 Z25_9
    try clear Z27_0 Z27_1 Z27_10 Z27_2 Z27_3 Z27_4 Z27_5 Z27_6 Z27_7 Z27_8 Z27_9
    try clear Z29_0 Z29_1 Z29_10 Z29_2 Z29_3 Z29_4 Z29_5 Z29_6 Z29_7 Z29_8 Z29_9
    try clear Z31_0 Z31_1 Z31_10 Z31_2 Z31_3 Z31_4 Z31_5 Z31_6 Z31_7 Z31_8 Z31_9
    try clear Z36_0 Z36_1 Z36_10 Z36_2 Z36_3 Z36_4 Z36_5 Z36_6 Z36_7 Z36_8 Z36_9
    try clear Z37_0 Z37_1 Z37_10 Z37_2 Z37_3 Z37_4 Z37_5 Z37_6 Z37_7 Z37_8 Z37_9
    try clear Z6_0 Z6_1 Z6_10 Z6_2 Z6_3 Z6_4 Z6_5 Z6_6 Z6_7 Z6_8 Z6_9
    try clear Z9_0 Z9_1 Z9_10 Z9_2 Z9_3 Z9_4 Z9_5 Z9_6 Z9_7 Z9_8 Z9_9
    try clear F16
    try clear F18
    try clear F20
    try clear F22
    try clear F23
    try clear F25
    try clear F27
    try clear F29
    try clear F31
    try clear F36
    try clear F37
    try clear F6
    try clear F9
    try clear p2
    obtain ⟨kq, x43_33, rfl, HA, HJ33, BK101, HB⟩ := hcut
    cases kq with
    | zero => exact absurd HA.out (by simp [commit_Check.j1])
    | succ kj33 =>
     have H := HA.out; clear HA; simp only [commit_Check.j1] at H; by_cases c38 : x43_33 = true
     ·subst c38; rw [if_pos rfl] at H; obtain rfl := oi_ H; go_wp2
      go_ret
      exact ⟨z3_, hs_⟩
     replace c38 := Bool.eq_false_iff.mpr c38; subst c38; rw [if_neg nft_] at H; have H' := Aside0.mk H; clear H; go_wp2_with (first | ((with_reducible refine gate_dst (N := 44) rfl ?_); (try (refine gate_guard (by rfl) ?_; dsimp only)); refine mkmapB_event rfl (N := 44) rfl rfl ?_; intro gb107 hg w39 hbox hb; have HI107 := Aside0.mk (IsS84.made hbox (by rw [hg]; exact (below_size (hs_)) : w.heap.size ≤ gb107)); replace HB := Aside0.mk (below_step (hs_) hb); have NB101_107 := Aside0.mk (nl2_ hg BK101.out); have NB107_101 := Aside0.mk (ng2_ hg BK101.out); replace BK101 := ab_ BK101 hb; clear hb hbox hg; have hnb40 := NB101_107.out; have hnc40 := NB107_101.out; obtain ⟨Z41_0, Z41_1, Z41_2, Z41_3, Z41_4, Z41_5, Z41_6, Z41_7, Z41_8, Z41_9, Z41_10, F41⟩ := bc11 BK101.out)); go_loopg [48] kj33 (fun kq v48 w' => ∃ (x48_3 : Int) (x108000_3 : MSB), v48 = .int .i64 x48_3 ∧ Aside0 (commit_Check.l0 kq l0_1 (l0_1.length : Int) x48_3 x108000_3 = some r) ∧ Aside0 (kq ≤ kj33) ∧ Aside0 (w'.heap[gb101]? = some (.cells #[.string a0_0, (.slice A0_1 l0_1.length c0_1), .string a0_2, .string a0_3, .int .i64 a0_4, .int .i64 a0_5, .string a0_6, .string a0_7, .int .i64 a0_8, .int .i64 a0_9, .string a0_10] 26 (0, 0))) ∧ Aside0 (IsS84 w w' gb107 x108000_3) ∧ Aside0 (Below w.heap.size w w'))
     case atStart => exact ⟨(0), (MSB.nil), z1_, H', ⟨Nat.le_refl _⟩, ⟨bk_ BK101.out⟩, ⟨z25_⟩, ⟨z23_⟩⟩
     case round =>
      clear H'; try clear c1
      try clear p2
      try clear c3
      try clear c4
      try clear c5
      try clear c6
      try clear c8
      try clear c12
      try clear c14
      try clear c18
      try clear c33
      try clear c35
      try clear c35b0
      try clear c35b1
      try clear c38
      try clear c40
      try clear Z16_0 Z16_1 Z16_10 Z16_2 Z16_3 Z16_4 Z16_5 Z16_6 Z16_7 Z16_8 Z16_9
      try clear Z18_0 Z18_1 Z18_10 Z18_2 Z18_3 Z18_4 Z18_5 Z18_6 Z18_7 Z18_8 Z18_9
      try clear Z20_0 Z20_1 Z20_10 Z20_2 Z20_3 Z20_4 Z20_5 Z20_6 Z20_7 Z20_8 Z20_9
      try clear Z22_0 Z22_1 Z22_10 Z22_2 Z22_3 Z22_4 Z22_5 Z22_6 Z22_7 Z22_8 Z22_9
      try clear Z23_0 Z23_1 Z23_10 Z23_2 Z23_3 Z23_4 Z23_5 Z23_6 Z23_7 Z23_8 Z23_9
      try clear Z25_0 Z25_1 Z25_10 Z25_2 Z25_3 Z25_4 Z25_5 Z25_6 Z25_7 Z25_8 Z25_9
      try clear Z27_0 Z27_1 Z27_10 Z27_2 Z27_3 Z27_4 Z27_5 Z27_6 Z27_7 Z27_8 Z27_9
      try clear Z29_0 Z29_1 Z29_10 Z29_2 Z29_3 Z29_4 Z29_5 Z29_6 Z29_7 Z29_8 Z29_9
      try clear Z31_0 Z31_1 Z31_10 Z31_2 Z31_3 Z31_4 Z31_5 Z31_6 Z31_7 Z31_8 Z31_9
      try clear Z36_0 Z36_1 Z36_10 Z36_2 Z36_3 Z36_4 Z36_5 Z36_6 Z36_7 Z36_8 Z36_9
      try clear Z37_0 Z37_1 Z37_10 Z37_2 Z37_3 Z37_4 Z37_5 Z37_6 Z37_7 Z37_8 Z37_9
      try clear Z41_0 Z41_1 Z41_10 Z41_2 Z41_3 Z41_4 Z41_5 Z41_6 Z41_7 Z41_8 Z41_9
      try clear Z6_0 Z6_1 Z6_10 Z6_2 Z6_3 Z6_4 Z6_5 Z6_6 Z6_7 Z6_8 Z6_9
      try clear Z9_0 Z9_1 Z9_10 Z9_2 Z9_3 Z9_4 Z9_5 Z9_6 Z9_7 Z9_8 Z9_9
      try clear F16
      try clear F18
      try clear F20
      try clear F22
      try clear F23
      try clear F25
      try clear F27
      try clear F29
      try clear F31
      try clear F36
      try clear F37
      try clear F41
      try clear F6
      try clear F9
      try clear p2
      obtain ⟨x48_3, x108000_3, rfl, HA, HK3, BK101, HI107, HB⟩ := hrel
      cases gk with
      | zero => exact absurd HA.out (by simp [commit_Check.l0])
      | succ k3 =>
       have H := HA.out; clear HA; simp only [commit_Check.l0] at H; by_cases c42 : x48_3 < (l0_1.length : Int); rotate_left
       ·rw [if_neg c42] at H; have c42b0 := df_ c42; clear c42; obtain rfl := oi_ H; go_wp2
        go_ret
        exact ⟨z3_, z23_⟩
       rw [if_pos c42] at H; have c42b0 := dt_ c42; clear c42; by_cases c43 : 0 ≤ x48_3; rotate_left
       ·rw [if_neg c43] at H; exact no_ H
       rw [if_pos c43] at H; have c43b0 := dt_ c43; clear c43; by_cases c44 : x48_3 < (l0_1.length : Int); rotate_left
       ·rw [if_neg c44] at H; exact no_ H
       rw [if_pos c44] at H; have c44b0 := dt_ c44; clear c44; by_cases c45 : (rdOf ByteArray.empty l0_1 x48_3).size ≤ 9223372036854775807; rotate_left
       ·rw [if_neg c45] at H; exact no_ H
       rw [if_pos c45] at H; have c45b0 := eq_true c45; have c45b1 := dt_ c45; try have c45b2 := nl_ c45
       clear c45; by_cases c46 : MSB.get x108000_3 (rdOf ByteArray.empty l0_1 x48_3) = true
       ·rw [if_pos c46] at H; have c46b0 : MSB.get x108000_3 (rdOf ByteArray.empty l0_1 x48_3) = true := c46; clear c46; obtain rfl := oi_ H; have p108 : 0 ≤ (x48_3 : Int) := y0_; have q108 : x48_3 < (l0_1.length : Int) := y0_; obtain ⟨ad108, e108, hx108_0⟩ := Kd.at_string HR0_1.out x48_3 p108 q108
        cases e108
        replace hx108_0 := (HB.out.cell (World.block_lt_of_cell? w _ hx108_0)).trans hx108_0; replace p108 := eq_true p108; replace q108 := eq_true q108; go_wp2_with (first | ((with_reducible refine gate_dst (N := 54) rfl ?_); (try (refine gate_guard (by rfl) ?_; dsimp only)); refine IsS84.look (show IsS84 w _ gb107 x108000_3 from z25_) rfl rfl rfl rfl (y0_ : (rdOf ByteArray.empty l0_1 x48_3).size ≤ 9223372036854775807) (by first | (with_reducible assumption) | exact rfl) ?_)); go_ret
        exact ⟨z3_, z23_⟩
       rw [if_neg c46] at H; have c46b0 : MSB.get x108000_3 (rdOf ByteArray.empty l0_1 x48_3) = false := by simpa using c46
       clear c46; have c47b0 := eq_true (y0_ : (rdOf ByteArray.empty l0_1 x48_3).size ≤ 9223372036854775807); by_cases c48 : x108000_3.n < 4611686018427387904; rotate_left
       ·rw [if_neg c48] at H; exact no_ H
       rw [if_pos c48] at H; have c48b0 := eq_true c48; have c48b1 := dt_ c48; clear c48; have H' := Aside0.mk H; clear H; have p108 : 0 ≤ (x48_3 : Int) := y0_; have q108 : x48_3 < (l0_1.length : Int) := y0_; obtain ⟨ad108, e108, hx108_0⟩ := Kd.at_string HR0_1.out x48_3 p108 q108
       cases e108
       replace hx108_0 := (HB.out.cell (World.block_lt_of_cell? w _ hx108_0)).trans hx108_0; replace p108 := eq_true p108; replace q108 := eq_true q108; go_wp2_with (first | ((with_reducible refine gate_dst (N := 54) rfl ?_); (try (refine gate_guard (by rfl) ?_; dsimp only)); refine IsS84.look (show IsS84 w _ gb107 x108000_3 from z25_) rfl rfl rfl rfl (y0_ : (rdOf ByteArray.empty l0_1 x48_3).size ≤ 9223372036854775807) (by first | (with_reducible assumption) | exact rfl) ?_) | (at_mapUpdate; refine IsS84.put_ (k := (rdOf ByteArray.empty l0_1 x48_3)) (n := true) (show IsS84 w _ gb107 x108000_3 from z25_) rfl rfl rfl rfl rfl (y0_ : (rdOf ByteArray.empty l0_1 x48_3).size ≤ 9223372036854775807) (y0_ : x108000_3.n < 4611686018427387904) trivial ?_; intro w49 hi hg; replace BK101 := Aside0.mk (blk_grown (g := gb101) (o := .cells #[.string a0_0, .slice (some ad108) l0_1.length c0_1, .string a0_2, .string a0_3, .int .i64 a0_4, .int .i64 a0_5, .string a0_6, .string a0_7, .int .i64 a0_8, .int .i64 a0_9, .string a0_10] 26 (0, 0)) (bk_ BK101.out) hg (fun e_ => NB101_107.out (Option.some.inj e_))); replace HB := Aside0.mk (Below.grown z23_ hg ((below_size z23_)) (fun k_ e_ => (Option.some.inj e_) ▸ (IsS84.ge hi))); replace HI107 := Aside0.mk (hi); clear hi hg)); go_roundg k3
       case measure => have := HJ1.out; have := HJ33.out; have := HK3.out; omega
       case rel => exact ⟨(wrap64 (x48_3 + 1)), (MSB.put x108000_3 (rdOf ByteArray.empty l0_1 x48_3) true), z1_, H', ⟨by have := HJ1.out; have := HJ33.out; have := HK3.out; omega⟩, ⟨bk_ BK101.out⟩, ⟨z25_⟩, ⟨z23_⟩⟩
def commit_Body.l0 : Nat → ByteArray → List ByteArray → Int → Int → ByteArray → List ByteArray → ByteArray → ByteArray → Int → Int → ByteArray → ByteArray → Int → Int → ByteArray → Option (ByteArray × Int)
 | 0, _, _, _, _, _, _, _, _, _, _, _, _, _, _, _ => none
 | k + 1, x5, x18, x19, x20, x102000, x102001, x102002, x102003, x102004, x102005, x102006, x102007, x102008, x102009, x102010 => if x20 < x19 then (if 0 ≤ x20 then (if x20 < (x18.length : Int) then (if 7 + (rdOf ByteArray.empty x18 x20).size ≤ 9223372036854775807 then (if ((⟨#[112, 97, 114, 101, 110, 116, 32]⟩ : ByteArray) ++ (rdOf ByteArray.empty x18 x20)).size + 1 ≤ 9223372036854775807 then (if x5.size + (((⟨#[112, 97, 114, 101, 110, 116, 32]⟩ : ByteArray) ++ (rdOf ByteArray.empty x18 x20)) ++ (⟨#[10]⟩ : ByteArray)).size ≤ 9223372036854775807 then (commit_Body.l0 k (x5 ++ (((⟨#[112, 97, 114, 101, 110, 116, 32]⟩ : ByteArray) ++ (rdOf ByteArray.empty x18 x20)) ++ (⟨#[10]⟩ : ByteArray))) x18 x19 (wrap64 (x20 + 1)) x102000 x102001 x102002 x102003 x102004 x102005 x102006 x102007 x102008 x102009 x102010) else (none)) else (none)) else (none)) else (none)) else (none)) else (if x5.size + 7 ≤ 9223372036854775807 then ((commit_Who.f x102002 x102003 x102004 x102005).bind fun t104 => (if (x5 ++ (⟨#[97, 117, 116, 104, 111, 114, 32]⟩ : ByteArray)).size + t104.size ≤ 9223372036854775807 then (if ((x5 ++ (⟨#[97, 117, 116, 104, 111, 114, 32]⟩ : ByteArray)) ++ t104).size + 11 ≤ 9223372036854775807 then ((commit_Who.f x102006 x102007 x102008 x102009).bind fun t105 => (if (((x5 ++ (⟨#[97, 117, 116, 104, 111, 114, 32]⟩ : ByteArray)) ++ t104) ++ (⟨#[10, 99, 111, 109, 109, 105, 116, 116, 101, 114, 32]⟩ : ByteArray)).size + t105.size ≤ 9223372036854775807 then (if ((((x5 ++ (⟨#[97, 117, 116, 104, 111, 114, 32]⟩ : ByteArray)) ++ t104) ++ (⟨#[10, 99, 111, 109, 109, 105, 116, 116, 101, 114, 32]⟩ : ByteArray)) ++ t105).size + 2 ≤ 9223372036854775807 then (if (((((x5 ++ (⟨#[97, 117, 116, 104, 111, 114, 32]⟩ : ByteArray)) ++ t104) ++ (⟨#[10, 99, 111, 109, 109, 105, 116, 116, 101, 114, 32]⟩ : ByteArray)) ++ t105) ++ (⟨#[10, 10]⟩ : ByteArray)).size + x102010.size ≤ 9223372036854775807 then (some ((((((x5 ++ (⟨#[97, 117, 116, 104, 111, 114, 32]⟩ : ByteArray)) ++ t104) ++ (⟨#[10, 99, 111, 109, 109, 105, 116, 116, 101, 114, 32]⟩ : ByteArray)) ++ t105) ++ (⟨#[10, 10]⟩ : ByteArray)) ++ x102010, 0)) else (none)) else (none)) else (none))) else (none)) else (none))) else (none))
def commit_Body.f (k : Nat) (a0_0 : ByteArray) (l0_1 : List ByteArray) (a0_2 : ByteArray) (a0_3 : ByteArray) (a0_4 : Int) (a0_5 : Int) (a0_6 : ByteArray) (a0_7 : ByteArray) (a0_8 : Int) (a0_9 : Int) (a0_10 : ByteArray) : Option (ByteArray × Int) := (commit_Check.f k a0_0 l0_1 a0_2 a0_3 a0_4 a0_5 a0_6 a0_7 a0_8 a0_9 a0_10).bind fun t102 => (if t102 = 0 then (if 5 + a0_0.size ≤ 9223372036854775807 then (if ((⟨#[116, 114, 101, 101, 32]⟩ : ByteArray) ++ a0_0).size + 1 ≤ 9223372036854775807 then (commit_Body.l0 k (((⟨#[116, 114, 101, 101, 32]⟩ : ByteArray) ++ a0_0) ++ (⟨#[10]⟩ : ByteArray)) l0_1 (l0_1.length : Int) 0 a0_0 l0_1 a0_2 a0_3 a0_4 a0_5 a0_6 a0_7 a0_8 a0_9 a0_10) else (none)) else (none)) else (some ((⟨#[]⟩ : ByteArray), t102)))
theorem commit_Body.mono_l : ∀ k, (∀ y0 y1 y2 y3 y4 y5 y6 y7 y8 y9 y10 y11 y12 y13 y14, LeO (commit_Body.l0 k y0 y1 y2 y3 y4 y5 y6 y7 y8 y9 y10 y11 y12 y13 y14) (commit_Body.l0 (k + 1) y0 y1 y2 y3 y4 y5 y6 y7 y8 y9 y10 y11 y12 y13 y14))
 | 0 => fun _ _ _ _ _ _ _ _ _ _ _ _ _ _ _ r h => by simp [commit_Body.l0] at h
 | k + 1 => by
  have ih0 := commit_Body.mono_l k
  ·intro y0 y1 y2 y3 y4 y5 y6 y7 y8 y9 y10 y11 y12 y13 y14
   unfold commit_Body.l0
   have m0_ := @ih0
   have m1_ := @commit_Check.mono
   exact mz_
theorem commit_Body.mono : ∀ a0 a1 a2 a3 a4 a5 a6 a7 a8 a9 a10 k, LeO (commit_Body.f k a0 a1 a2 a3 a4 a5 a6 a7 a8 a9 a10) (commit_Body.f (k + 1) a0 a1 a2 a3 a4 a5 a6 a7 a8 a9 a10) := by
 intro a0 a1 a2 a3 a4 a5 a6 a7 a8 a9 a10 k; have ih0 := commit_Body.mono_l k; unfold commit_Body.f; have m0_ := @ih0; have m1_ := @commit_Check.mono; exact mz_
def commit_Body.T10 : Bool × List (List Nat × List Nat) := (true, [([], []), ([0], [0]), ([], []), ([2], [2]), ([3], [3]), ([1, 4], [1, 4]), ([5], [5]), ([], []), ([7], [7]), ([8, 4], [8]), ([6, 9], [6, 9]), ([10], [10]), ([], []), ([12], [12]), ([11, 13], [11, 13]), ([14, 9, 0, 1, 2, 3, 4, 5, 6, 7, 8, 9, 10, 11, 12, 13, 14], [14]), ([15, 0, 1, 2, 3, 4, 5, 6, 7, 8, 9, 10, 11, 12, 13, 14, 15], [])])
def commit_Body.B10 : List Nat := [0, 1, 0, 4, 12, 31, 63, 0, 128, 412, 1023, 2047, 0, 4096, 16383, 32767, 65535]
theorem commit_Body.tab10 : rtab .any (opsOf Tryz.f16 10) = commit_Body.T10 := by kernel_rfl
theorem commit_Body.bits10 : waitsOk commit_Body.T10.2 commit_Body.B10 = true := by kernel_rfl
theorem commit_Body.calls (k : Nat) (a0_0 : ByteArray) (A0_1 : Option Addr) (c0_1 : Nat) (l0_1 : List ByteArray) (a0_2 : ByteArray) (a0_3 : ByteArray) (a0_4 : Int) (a0_5 : Int) (a0_6 : ByteArray) (a0_7 : ByteArray) (a0_8 : Int) (a0_9 : Int) (a0_10 : ByteArray) (r1 : ByteArray) (r2 : Int) (w : World) (hr0_1 : Kd.C Kd.string w A0_1 l0_1.length l0_1) (hc0_1 : l0_1.length ≤ c0_1) (hgv : GV w) (h : commit_Body.f k a0_0 l0_1 a0_2 a0_3 a0_4 a0_5 a0_6 a0_7 a0_8 a0_9 a0_10 = some (r1, r2)) :
  Calls Tryz.prog 16 #[.agg #[.string a0_0, .slice A0_1 l0_1.length c0_1, .string a0_2, .string a0_3, .int .i64 a0_4, .int .i64 a0_5, .string a0_6, .string a0_7, .int .i64 a0_8, .int .i64 a0_9, .string a0_10]] w fun e w' => e = .returned (.tuple #[.string r1, .int .i64 r2]) ∧ Below w.heap.size w w' := by
 have hu26 := underlying26; have hu24 := underlying24; have HR0_1 := Aside0.mk hr0_1; have HC0_1 := Aside0.mk hc0_1; clear hr0_1 hc0_1; have HB := Aside0.mk (Below.refl w.heap.size w); unfold commit_Body.f at h; have H := h; clear h; obtain ⟨t102, A2, H⟩ := bx_ H; by_cases c3 : t102 = 0; rotate_left
 ·rw [if_neg c3] at H; have c3b0 := ef_ c3; have c3b1 := nt_ c3; obtain ⟨rfl, rfl⟩ := pj2_ H; go_enter func16, ntmps16; go_wp2_with (first | ((with_reducible refine gate_dst (N := 1) rfl ?_); refine be_ (cs := #[.string a0_0, .slice A0_1 l0_1.length c0_1, .string a0_2, .string a0_3, .int .i64 a0_4, .int .i64 a0_5, .string a0_6, .string a0_7, .int .i64 a0_8, .int .i64 a0_9, .string a0_10]) (t := 26) ?_; intro gb101 hg w27 hbox hb; have BK101 := Aside0.mk (hbox); have GW101 := ag_ hg HB; have GE101 := ag_ hg HB; replace HB := ah_ HB hb; clear hb hbox hg; obtain ⟨Z28_0, Z28_1, Z28_2, Z28_3, Z28_4, Z28_5, Z28_6, Z28_7, Z28_8, Z28_9, Z28_10, F28⟩ := bc11 BK101.out) | ((with_reducible refine gate_callee (f := 18) rfl ?_); refine gl_ (some 9) func18 #[.agg #[.string a0_0, .slice A0_1 l0_1.length c0_1, .string a0_2, .string a0_3, .int .i64 a0_4, .int .i64 a0_5, .string a0_6, .string a0_7, .int .i64 a0_8, .int .i64 a0_9, .string a0_10]] ?_; (with_reducible refine (commit_Check.calls k a0_0 _ _ l0_1 a0_2 a0_3 a0_4 a0_5 a0_6 a0_7 a0_8 a0_9 a0_10 t102 _ ?side1 ?side2 ?side3 A2.out).mono ?_); (case side1 => repeat (first | exact (Kd.C_below HR0_1.out HB.out) | (with_reducible refine Kd.C_alloc ?_ _) | (with_reducible refine Kd.C_drewN ?_ _) | (with_reducible refine Kd.C_drew ?_))); (case side2 => exact HC0_1.out); (case side3 => exact GV.below hgv (hs_)); rintro e w29 ⟨rfl, hb⟩; refine ⟨_, rfl, ?_⟩; replace BK101 := ab_ BK101 hb; replace HB := Aside0.mk (below_step (hs_) hb); (try clear hb); (try clear hb2); (try clear hk); (try clear hi)))
  go_ret2
  exact ⟨z3_, hs_⟩
 rw [if_pos c3] at H; have c3b0 := et_ c3; have c3b1 := nf_ c3; clear c3; by_cases c4 : 5 + a0_0.size ≤ 9223372036854775807; rotate_left
 ·rw [if_neg c4] at H; exact no_ H
 rw [if_pos c4] at H; have c4b0 := eq_true c4; have c4b1 := dt_ c4; try have c4b2 := nl_ c4
 by_cases c5 : ((⟨#[116, 114, 101, 101, 32]⟩ : ByteArray) ++ a0_0).size + 1 ≤ 9223372036854775807; rotate_left
 ·rw [if_neg c5] at H; exact no_ H
 rw [if_pos c5] at H; have c5b0 := eq_true c5; have c5b1 := dt_ c5; try have c5b3 : (9223372036854775807 < 5 + a0_0.size + 1) = False := have h_ := c5; ns_
 try have c5b2 := nl_ c5
 have H' := Aside0.mk H; clear H; go_enter func16, ntmps16; go_wp2_with (first | ((with_reducible refine gate_dst (N := 1) rfl ?_); refine be_ (cs := #[.string a0_0, .slice A0_1 l0_1.length c0_1, .string a0_2, .string a0_3, .int .i64 a0_4, .int .i64 a0_5, .string a0_6, .string a0_7, .int .i64 a0_8, .int .i64 a0_9, .string a0_10]) (t := 26) ?_; intro gb101 hg w6 hbox hb; have BK101 := Aside0.mk (hbox); have GW101 := ag_ hg HB; have GE101 := ag_ hg HB; replace HB := ah_ HB hb; clear hb hbox hg; obtain ⟨Z7_0, Z7_1, Z7_2, Z7_3, Z7_4, Z7_5, Z7_6, Z7_7, Z7_8, Z7_9, Z7_10, F7⟩ := bc11 BK101.out) | ((with_reducible refine gate_callee (f := 18) rfl ?_); refine gl_ (some 9) func18 #[.agg #[.string a0_0, .slice A0_1 l0_1.length c0_1, .string a0_2, .string a0_3, .int .i64 a0_4, .int .i64 a0_5, .string a0_6, .string a0_7, .int .i64 a0_8, .int .i64 a0_9, .string a0_10]] ?_; (with_reducible refine (commit_Check.calls k a0_0 _ _ l0_1 a0_2 a0_3 a0_4 a0_5 a0_6 a0_7 a0_8 a0_9 a0_10 t102 _ ?side1 ?side2 ?side3 A2.out).mono ?_); (case side1 => repeat (first | exact (Kd.C_below HR0_1.out HB.out) | (with_reducible refine Kd.C_alloc ?_ _) | (with_reducible refine Kd.C_drewN ?_ _) | (with_reducible refine Kd.C_drew ?_))); (case side2 => exact HC0_1.out); (case side3 => exact GV.below hgv (hs_)); rintro e w8 ⟨rfl, hb⟩; refine ⟨_, rfl, ?_⟩; replace BK101 := ab_ BK101 hb; replace HB := Aside0.mk (below_step (hs_) hb); (try clear hb); (try clear hb2); (try clear hk); (try clear hi); obtain ⟨Z9_0, Z9_1, Z9_2, Z9_3, Z9_4, Z9_5, Z9_6, Z9_7, Z9_8, Z9_9, Z9_10, F9⟩ := bc11 BK101.out)); go_loopg [5, 20] k (fun kq v5 v20 w' => ∃ (x5_1 : ByteArray) (x20_1 : Int), v5 = .string x5_1 ∧ v20 = .int .i64 x20_1 ∧ Aside0 (commit_Body.l0 kq x5_1 l0_1 (l0_1.length : Int) x20_1 a0_0 l0_1 a0_2 a0_3 a0_4 a0_5 a0_6 a0_7 a0_8 a0_9 a0_10 = some (r1, r2)) ∧ Aside0 (kq ≤ k) ∧ Aside0 (w'.heap[gb101]? = some (.cells #[.string a0_0, (.slice A0_1 l0_1.length c0_1), .string a0_2, .string a0_3, .int .i64 a0_4, .int .i64 a0_5, .string a0_6, .string a0_7, .int .i64 a0_8, .int .i64 a0_9, .string a0_10] 26 (0, 0))) ∧ Aside0 (Below w.heap.size w w'))
 case atStart => exact ⟨(((⟨#[116, 114, 101, 101, 32]⟩ : ByteArray) ++ a0_0) ++ (⟨#[10]⟩ : ByteArray)), (0), z1_, z1_, H', ⟨Nat.le_refl _⟩, ⟨bk_ BK101.out⟩, ⟨hs_⟩⟩
 case round =>
  clear H'; try clear c1
  try clear p2
  try clear c3
  try clear c3b0
  try clear c3b1
  try clear c4
  try clear c4b0
  try clear c4b1
  try clear c4b2
  try clear c5
  try clear c5b0
  try clear c5b1
  try clear c5b2
  try clear Z7_0 Z7_1 Z7_10 Z7_2 Z7_3 Z7_4 Z7_5 Z7_6 Z7_7 Z7_8 Z7_9
  try clear Z9_0 Z9_1 Z9_10 Z9_2 Z9_3 Z9_4 Z9_5 Z9_6 Z9_7 Z9_8 Z9_9
  try clear F7
  try clear F9
  obtain ⟨x5_1, x20_1, rfl, rfl, HA, HK1, BK101, HB⟩ := hrel
  cases gk with
  | zero => exact absurd HA.out (by simp [commit_Body.l0])
  | succ k1 =>
   have H := HA.out; clear HA; simp only [commit_Body.l0] at H; by_cases c10 : x20_1 < (l0_1.length : Int)
   ·rw [if_pos c10] at H; have c10b0 := dt_ c10; clear c10; by_cases c11 : 0 ≤ x20_1; rotate_left
    ·rw [if_neg c11] at H; exact no_ H
    rw [if_pos c11] at H; have c11b0 := dt_ c11; clear c11; by_cases c12 : x20_1 < (l0_1.length : Int); rotate_left
    ·rw [if_neg c12] at H; exact no_ H
    rw [if_pos c12] at H; have c12b0 := dt_ c12; clear c12; by_cases c13 : 7 + (rdOf ByteArray.empty l0_1 x20_1).size ≤ 9223372036854775807; rotate_left
    ·rw [if_neg c13] at H; exact no_ H
    rw [if_pos c13] at H; have c13b0 := eq_true c13; have c13b1 := dt_ c13; try have c13b2 := nl_ c13
    by_cases c14 : ((⟨#[112, 97, 114, 101, 110, 116, 32]⟩ : ByteArray) ++ (rdOf ByteArray.empty l0_1 x20_1)).size + 1 ≤ 9223372036854775807; rotate_left
    ·rw [if_neg c14] at H; exact no_ H
    rw [if_pos c14] at H; have c14b0 := eq_true c14; have c14b1 := dt_ c14; try have c14b3 : (9223372036854775807 < 7 + (rdOf ByteArray.empty l0_1 x20_1).size + 1) = False := have h_ := c14; ns_
    try have c14b2 := nl_ c14
    by_cases c15 : x5_1.size + (((⟨#[112, 97, 114, 101, 110, 116, 32]⟩ : ByteArray) ++ (rdOf ByteArray.empty l0_1 x20_1)) ++ (⟨#[10]⟩ : ByteArray)).size ≤ 9223372036854775807; rotate_left
    ·rw [if_neg c15] at H; exact no_ H
    rw [if_pos c15] at H; have c15b0 := eq_true c15; have c15b1 := dt_ c15; try have c15b3 : (9223372036854775807 < x5_1.size + (7 + (rdOf ByteArray.empty l0_1 x20_1).size + 1)) = False := have h_ := c15; ns_
    try have c15b2 := nl_ c15
    have H' := Aside0.mk H; clear H; have p103 : 0 ≤ (x20_1 : Int) := y0_; have q103 : x20_1 < (l0_1.length : Int) := y0_; obtain ⟨ad103, e103, hx103_0⟩ := Kd.at_string HR0_1.out x20_1 p103 q103
    cases e103
    replace hx103_0 := (HB.out.cell (World.block_lt_of_cell? w _ hx103_0)).trans hx103_0; replace p103 := eq_true p103; replace q103 := eq_true q103; go_wp2
    go_roundg k1
    case measure => have := HK1.out; omega
    case rel => exact ⟨(x5_1 ++ (((⟨#[112, 97, 114, 101, 110, 116, 32]⟩ : ByteArray) ++ (rdOf ByteArray.empty l0_1 x20_1)) ++ (⟨#[10]⟩ : ByteArray))), (wrap64 (x20_1 + 1)), z1_, z1_, H', ⟨by have := HK1.out; omega⟩, ⟨bk_ BK101.out⟩, ⟨hs_⟩⟩
   rw [if_neg c10] at H; have c10b0 := df_ c10; clear c10; by_cases c16 : x5_1.size + 7 ≤ 9223372036854775807; rotate_left
   ·rw [if_neg c16] at H; exact no_ H
   rw [if_pos c16] at H; have c16b0 := eq_true c16; have c16b1 := dt_ c16; try have c16b2 := nl_ c16
   obtain ⟨t104, A17, H⟩ := bx_ H; by_cases c18 : (x5_1 ++ (⟨#[97, 117, 116, 104, 111, 114, 32]⟩ : ByteArray)).size + t104.size ≤ 9223372036854775807; rotate_left
   ·rw [if_neg c18] at H; exact no_ H
   rw [if_pos c18] at H; have c18b0 := eq_true c18; have c18b1 := dt_ c18; try have c18b3 : (9223372036854775807 < x5_1.size + 7 + t104.size) = False := have h_ := c18; ns_
   try have c18b2 := nl_ c18
   by_cases c19 : ((x5_1 ++ (⟨#[97, 117, 116, 104, 111, 114, 32]⟩ : ByteArray)) ++ t104).size + 11 ≤ 9223372036854775807; rotate_left
   ·rw [if_neg c19] at H; exact no_ H
   rw [if_pos c19] at H; have c19b0 := eq_true c19; have c19b1 := dt_ c19; try have c19b3 : (9223372036854775807 < x5_1.size + 7 + t104.size + 11) = False := have h_ := c19; ns_
   try have c19b2 := nl_ c19
   obtain ⟨t105, A20, H⟩ := bx_ H; by_cases c21 : (((x5_1 ++ (⟨#[97, 117, 116, 104, 111, 114, 32]⟩ : ByteArray)) ++ t104) ++ (⟨#[10, 99, 111, 109, 109, 105, 116, 116, 101, 114, 32]⟩ : ByteArray)).size + t105.size ≤ 9223372036854775807; rotate_left
   ·rw [if_neg c21] at H; exact no_ H
   rw [if_pos c21] at H; have c21b0 := eq_true c21; have c21b1 := dt_ c21; try have c21b3 : (9223372036854775807 < x5_1.size + 7 + t104.size + 11 + t105.size) = False := have h_ := c21; ns_
   try have c21b2 := nl_ c21
   by_cases c22 : ((((x5_1 ++ (⟨#[97, 117, 116, 104, 111, 114, 32]⟩ : ByteArray)) ++ t104) ++ (⟨#[10, 99, 111, 109, 109, 105, 116, 116, 101, 114, 32]⟩ : ByteArray)) ++ t105).size + 2 ≤ 9223372036854775807; rotate_left
   ·rw [if_neg c22] at H; exact no_ H
   rw [if_pos c22] at H; have c22b0 := eq_true c22; have c22b1 := dt_ c22; try have c22b3 : (9223372036854775807 < x5_1.size + 7 + t104.size + 11 + t105.size + 2) = False := have h_ := c22; ns_
   try have c22b2 := nl_ c22
   by_cases c23 : (((((x5_1 ++ (⟨#[97, 117, 116, 104, 111, 114, 32]⟩ : ByteArray)) ++ t104) ++ (⟨#[10, 99, 111, 109, 109, 105, 116, 116, 101, 114, 32]⟩ : ByteArray)) ++ t105) ++ (⟨#[10, 10]⟩ : ByteArray)).size + a0_10.size ≤ 9223372036854775807; rotate_left
   ·rw [if_neg c23] at H; exact no_ H
   rw [if_pos c23] at H; have c23b0 := eq_true c23; have c23b1 := dt_ c23; try have c23b3 : (9223372036854775807 < x5_1.size + 7 + t104.size + 11 + t105.size + 2 + a0_10.size) = False := have h_ := c23; ns_
   try have c23b2 := nl_ c23
   obtain ⟨rfl, rfl⟩ := pj2_ H; try go_wp2
   replace BK101 := ad_ BK101; replace HB := hd_ HB; refine start_ (n := 17) (S := fun w' => w'.cell? ⟨gb101, 0, none⟩ = some (.string a0_0) ∧ w'.cell? ⟨gb101, 1, none⟩ = some (.slice A0_1 l0_1.length c0_1) ∧ w'.cell? ⟨gb101, 2, none⟩ = some (.string a0_2) ∧ w'.cell? ⟨gb101, 3, none⟩ = some (.string a0_3) ∧ w'.cell? ⟨gb101, 4, none⟩ = some (.int .i64 a0_4) ∧ w'.cell? ⟨gb101, 5, none⟩ = some (.int .i64 a0_5) ∧ w'.cell? ⟨gb101, 6, none⟩ = some (.string a0_6) ∧ w'.cell? ⟨gb101, 7, none⟩ = some (.string a0_7) ∧ w'.cell? ⟨gb101, 8, none⟩ = some (.int .i64 a0_8) ∧ w'.cell? ⟨gb101, 9, none⟩ = some (.int .i64 a0_9) ∧ w'.cell? ⟨gb101, 10, none⟩ = some (.string a0_10)) (ds := []) (bs 17 0) (by kernel_rfl) rfl rfl (bc11o BK101.out) (fun hHeld => ?_); refine with_tabW commit_Body.tab10 commit_Body.bits10 (fun HT_ HW_ => ?_); generalize wr.drew = w24 at BK101 HB hHeld ⊢; refine pun_ 0 30 17 1 ?_; refine pun_ 1 31 17 3 ?_; refine pun_ 2 32 17 7 ?_; refine pun_ 7 37 17 135 ?_; refine pun_ 12 42 17 4231 ?_; refine tkW11n_ 3 33 17 4239 hHeld ?_; refine tkW11n_ 8 38 17 4495 hHeld ?_; refine tkW11n_ 13 43 17 12687 hHeld ?_; refine on_ 4 34 17 12703 (fun K hK => ?_); refine goes_ func31 (by kernel_rfl) rfl #[.agg #[.string a0_2, .string a0_3, .int .i64 a0_4, .int .i64 a0_5]] (by rfl) rfl rfl z5_ ?_
   with_reducible refine (commit_Who.calls a0_2 a0_3 a0_4 a0_5 t104 _ ?side1 A17.out).mono ?_
   (case side1 => exact GV.below hgv (hs_))
   rintro e w25 ⟨rfl, hb⟩; refine ⟨_, rfl, ?_⟩; replace BK101 := ab_ BK101 hb; replace HB := Aside0.mk (below_step (hs_) hb); (try clear hb)
   (try clear hb2)
   (try clear hk)
   (try clear hi)
   refine hK.out _ _ (bc11o BK101.out) (fun hHeld => ?_); clear hK K; refine norm_ (a' := ?_) ?_ ?_; rotate_left
   ·show Act.put _ (some 34) _ = _
    simp only [Act.put, List.setIfInBounds_toArray, List.set_cons_zero, List.set_cons_succ, i64_w, i32_w]; rfl
   refine pun_ 5 35 17 12735 ?_; refine pun_ 6 36 17 12799 ?_; refine on_ 9 39 17 13311 (fun K hK => ?_); refine goes_ func31 (by kernel_rfl) rfl #[.agg #[.string a0_6, .string a0_7, .int .i64 a0_8, .int .i64 a0_9]] (by rfl) rfl rfl z5_ ?_
   with_reducible refine (commit_Who.calls a0_6 a0_7 a0_8 a0_9 t105 _ ?side1 A20.out).mono ?_
   (case side1 => exact GV.below hgv (hs_))
   rintro e w26 ⟨rfl, hb⟩; refine ⟨_, rfl, ?_⟩; replace BK101 := ab_ BK101 hb; replace HB := Aside0.mk (below_step (hs_) hb); (try clear hb)
   (try clear hb2)
   (try clear hk)
   (try clear hi)
   refine hK.out _ _ (bc11o BK101.out) (fun hHeld => ?_); clear hK K; refine norm_ (a' := ?_) ?_ ?_; rotate_left
   ·show Act.put _ (some 39) _ = _
    simp only [Act.put, List.setIfInBounds_toArray, List.set_cons_zero, List.set_cons_succ, i64_w, i32_w]; rfl
   refine pun_ 10 40 17 14335 ?_; refine pun_ 11 41 17 16383 ?_; refine pun_ 14 44 17 32767 ?_; refine pun_ 15 2 17 65535 ?_; refine pun_ 16 3 17 131071 ?_; refine dn_ ?_; try go_wp2
   go_ret2
   exact ⟨z3_, hs_⟩
def commit_tagged.l0 : Nat → ByteArray → Int → Int → Option (Bool)
 | 0, _, _, _ => none
 | k + 1, x0, x5, x6 => if x6 < x5 then (if 0 ≤ x6 then (if x6 < (x0.size : Int) then (if (bt x0 x6) ≤ 32 then (some false) else (commit_tagged.l0 k x0 x5 (wrap64 (x6 + 1)))) else (none)) else (none)) else (if (x0.size : Int) ≥ 1 then (some (decide ((x0.size : Int) ≤ 64))) else (some false))
def commit_tagged.f (k : Nat) (a0 : ByteArray) : Option (Bool) := commit_tagged.l0 k a0 (a0.size : Int) 0
theorem commit_tagged.mono_l : ∀ k, (∀ y0 y1 y2, LeO (commit_tagged.l0 k y0 y1 y2) (commit_tagged.l0 (k + 1) y0 y1 y2))
 | 0 => fun _ _ _ r h => by simp [commit_tagged.l0] at h
 | k + 1 => by
  have ih0 := commit_tagged.mono_l k
  ·intro y0 y1 y2
   unfold commit_tagged.l0
   have m0_ := @ih0
   exact mz_
theorem commit_tagged.mono : ∀ a0 k, LeO (commit_tagged.f k a0) (commit_tagged.f (k + 1) a0) := by
 intro a0 k; have ih0 := commit_tagged.mono_l k; unfold commit_tagged.f; have m0_ := @ih0; exact mz_
theorem commit_tagged.calls (k : Nat) (a0 : ByteArray) (r : Bool) (w : World) (h : commit_tagged.f k a0 = some r) :
  Calls Tryz.prog 81 #[.string a0] w fun e w' => e = .returned (.bool r) ∧ Drawn0 w w' := by
 unfold commit_tagged.f at h; have H := h; clear h; have H' := Aside0.mk H; clear H; go_enter func81, ntmps81; go_wp2
 go_loopg [6] k (fun kq v6 w' => ∃ (x6_1 : Int), v6 = .int .i64 x6_1 ∧ Aside0 (commit_tagged.l0 kq a0 (a0.size : Int) x6_1 = some r) ∧ Aside0 (kq ≤ k) ∧ Drawn0 w w')
 case atStart => exact ⟨(0), z1_, H', ⟨Nat.le_refl _⟩, z2_⟩
 case round =>
  clear H'; obtain ⟨x6_1, rfl, HA, HK1, ⟨m1, rfl⟩⟩ := hrel
  cases gk with
  | zero => exact absurd HA.out (by simp [commit_tagged.l0])
  | succ k1 =>
   have H := HA.out; clear HA; simp only [commit_tagged.l0] at H; by_cases c2 : x6_1 < (a0.size : Int); rotate_left
   ·rw [if_neg c2] at H; have c2b0 := df_ c2; clear c2; by_cases c7 : (a0.size : Int) ≥ 1
    ·rw [if_pos c7] at H; have c7b0 := dt_ c7; have c7b1 : decide (1 ≤ a0.size) = true := decide_eq_true (by omega); clear c7; obtain rfl := oi_ H; go_wp2
     go_ret
     exact ⟨z1_, z2_⟩
    rw [if_neg c7] at H; have c7b0 := df_ c7; have c7b1 : decide (1 ≤ a0.size) = false := decide_eq_false (by omega); clear c7; obtain rfl := oi_ H; go_wp2
    go_ret
    exact ⟨z1_, z2_⟩
   rw [if_pos c2] at H; have c2b0 := dt_ c2; clear c2; by_cases c3 : 0 ≤ x6_1; rotate_left
   ·rw [if_neg c3] at H; exact no_ H
   rw [if_pos c3] at H; have c3b0 := dt_ c3; clear c3; by_cases c4 : x6_1 < (a0.size : Int); rotate_left
   ·rw [if_neg c4] at H; exact no_ H
   rw [if_pos c4] at H; have c4b0 := dt_ c4; clear c4; by_cases c6 : (bt a0 x6_1) ≤ 32
   ·rw [if_pos c6] at H; have c6b0 := dt_ c6; clear c6; obtain rfl := oi_ H; have p5 : 0 ≤ (x6_1 : Int) := y0_; have q5 : x6_1 < (a0.size : Int) := y0_; have hx5 := bt_at a0 x6_1; replace p5 := eq_true p5; replace q5 := eq_true q5; go_wp2
    go_ret
    exact ⟨z1_, z2_⟩
   rw [if_neg c6] at H; have c6b0 := df_ c6; clear c6; have H' := Aside0.mk H; clear H; have p5 : 0 ≤ (x6_1 : Int) := y0_; have q5 : x6_1 < (a0.size : Int) := y0_; have hx5 := bt_at a0 x6_1; replace p5 := eq_true p5; replace q5 := eq_true q5; go_wp2
   go_roundg k1
   case measure => have := HK1.out; omega
   case rel => exact ⟨(wrap64 (x6_1 + 1)), z1_, H', ⟨by have := HK1.out; omega⟩, z2_⟩
theorem kinds_size : (Tryz.prog.info? 148).map (·.size) = some 8 := by kernel_rfl
theorem kinds_calls (w : World) : Calls Tryz.prog 143 #[] w fun e w' => e = .returned (.agg #[.int .i64 1, .string ⟨#[98, 108, 111, 98]⟩, .int .i64 2, .string ⟨#[116, 114, 101, 101]⟩, .int .i64 3, .string ⟨#[99, 111, 109, 109, 105, 116]⟩, .int .i64 4, .string ⟨#[116, 97, 103]⟩]) ∧ Below w.heap.size w w' := by
  have HB := Aside0.mk (Below.refl w.heap.size w)
  have huk := underlying148
  have huk2 := underlying147
  go_enter func143, ntmps143
  go_wp2_with ((with_reducible refine gate_dst (N := 0) rfl ?_); refine box_event ?hg (N := 0) ?hd (cs := #[.int .i64 0, .string ⟨#[]⟩, .int .i64 0, .string ⟨#[]⟩, .int .i64 0, .string ⟨#[]⟩, .int .i64 0, .string ⟨#[]⟩]) (t := 148) ?hr ?_; (case hd => rfl); (case hg => rfl); (case hr => first | (go_simp; done) | (go_simp; rfl)); intro gb hg w3 hbox hb; have HB3 := Aside0.mk (below_step HB.out hb); have BK := Aside0.mk hbox; have GE := Aside0.mk (show w.heap.size ≤ gb by rw [hg]; exact Nat.le_refl _); clear hb hbox hg; have hcz0 : w3.cell? ⟨gb, 0, none⟩ = some (.int .i64 0) := (blk_cell BK.out 0).trans rfl; have hfz0 := blk_frozen BK.out 0; have hcz1 : w3.cell? ⟨gb, 1, none⟩ = some (.string ⟨#[]⟩) := (blk_cell BK.out 1).trans rfl; have hfz1 := blk_frozen BK.out 1; have hcz2 : w3.cell? ⟨gb, 2, none⟩ = some (.int .i64 0) := (blk_cell BK.out 2).trans rfl; have hfz2 := blk_frozen BK.out 2; have hcz3 : w3.cell? ⟨gb, 3, none⟩ = some (.string ⟨#[]⟩) := (blk_cell BK.out 3).trans rfl; have hfz3 := blk_frozen BK.out 3; have hcz4 : w3.cell? ⟨gb, 4, none⟩ = some (.int .i64 0) := (blk_cell BK.out 4).trans rfl; have hfz4 := blk_frozen BK.out 4; have hcz5 : w3.cell? ⟨gb, 5, none⟩ = some (.string ⟨#[]⟩) := (blk_cell BK.out 5).trans rfl; have hfz5 := blk_frozen BK.out 5; have hcz6 : w3.cell? ⟨gb, 6, none⟩ = some (.int .i64 0) := (blk_cell BK.out 6).trans rfl; have hfz6 := blk_frozen BK.out 6; have hcz7 : w3.cell? ⟨gb, 7, none⟩ = some (.string ⟨#[]⟩) := (blk_cell BK.out 7).trans rfl; have hfz7 := blk_frozen BK.out 7)
  clear hcz0 hcz1 hcz2 hcz3 hcz4 hcz5 hcz6 hcz7 hfz0 hfz1 hfz2 hfz3 hfz4 hfz5 hfz6 hfz7
  have hh := (blk_put (cs := #[.int .i64 1, .string ⟨#[98, 108, 111, 98]⟩, .int .i64 2, .string ⟨#[116, 114, 101, 101]⟩, .int .i64 3, .string ⟨#[99, 111, 109, 109, 105, 116]⟩, .int .i64 4, .string ⟨#[]⟩]) (cs' := #[.int .i64 1, .string ⟨#[98, 108, 111, 98]⟩, .int .i64 2, .string ⟨#[116, 114, 101, 101]⟩, .int .i64 3, .string ⟨#[99, 111, 109, 109, 105, 116]⟩, .int .i64 4, .string ⟨#[116, 97, 103]⟩]) (blk_put (cs := #[.int .i64 1, .string ⟨#[98, 108, 111, 98]⟩, .int .i64 2, .string ⟨#[116, 114, 101, 101]⟩, .int .i64 3, .string ⟨#[99, 111, 109, 109, 105, 116]⟩, .int .i64 0, .string ⟨#[]⟩]) (cs' := #[.int .i64 1, .string ⟨#[98, 108, 111, 98]⟩, .int .i64 2, .string ⟨#[116, 114, 101, 101]⟩, .int .i64 3, .string ⟨#[99, 111, 109, 109, 105, 116]⟩, .int .i64 4, .string ⟨#[]⟩]) (blk_put (cs := #[.int .i64 1, .string ⟨#[98, 108, 111, 98]⟩, .int .i64 2, .string ⟨#[116, 114, 101, 101]⟩, .int .i64 3, .string ⟨#[]⟩, .int .i64 0, .string ⟨#[]⟩]) (cs' := #[.int .i64 1, .string ⟨#[98, 108, 111, 98]⟩, .int .i64 2, .string ⟨#[116, 114, 101, 101]⟩, .int .i64 3, .string ⟨#[99, 111, 109, 109, 105, 116]⟩, .int .i64 0, .string ⟨#[]⟩]) (blk_put (cs := #[.int .i64 1, .string ⟨#[98, 108, 111, 98]⟩, .int .i64 2, .string ⟨#[116, 114, 101, 101]⟩, .int .i64 0, .string ⟨#[]⟩, .int .i64 0, .string ⟨#[]⟩]) (cs' := #[.int .i64 1, .string ⟨#[98, 108, 111, 98]⟩, .int .i64 2, .string ⟨#[116, 114, 101, 101]⟩, .int .i64 3, .string ⟨#[]⟩, .int .i64 0, .string ⟨#[]⟩]) (blk_put (cs := #[.int .i64 1, .string ⟨#[98, 108, 111, 98]⟩, .int .i64 2, .string ⟨#[]⟩, .int .i64 0, .string ⟨#[]⟩, .int .i64 0, .string ⟨#[]⟩]) (cs' := #[.int .i64 1, .string ⟨#[98, 108, 111, 98]⟩, .int .i64 2, .string ⟨#[116, 114, 101, 101]⟩, .int .i64 0, .string ⟨#[]⟩, .int .i64 0, .string ⟨#[]⟩]) (blk_put (cs := #[.int .i64 1, .string ⟨#[98, 108, 111, 98]⟩, .int .i64 0, .string ⟨#[]⟩, .int .i64 0, .string ⟨#[]⟩, .int .i64 0, .string ⟨#[]⟩]) (cs' := #[.int .i64 1, .string ⟨#[98, 108, 111, 98]⟩, .int .i64 2, .string ⟨#[]⟩, .int .i64 0, .string ⟨#[]⟩, .int .i64 0, .string ⟨#[]⟩]) (blk_put (cs := #[.int .i64 1, .string ⟨#[]⟩, .int .i64 0, .string ⟨#[]⟩, .int .i64 0, .string ⟨#[]⟩, .int .i64 0, .string ⟨#[]⟩]) (cs' := #[.int .i64 1, .string ⟨#[98, 108, 111, 98]⟩, .int .i64 0, .string ⟨#[]⟩, .int .i64 0, .string ⟨#[]⟩, .int .i64 0, .string ⟨#[]⟩]) (blk_put (cs := #[.int .i64 0, .string ⟨#[]⟩, .int .i64 0, .string ⟨#[]⟩, .int .i64 0, .string ⟨#[]⟩, .int .i64 0, .string ⟨#[]⟩]) (cs' := #[.int .i64 1, .string ⟨#[]⟩, .int .i64 0, .string ⟨#[]⟩, .int .i64 0, .string ⟨#[]⟩, .int .i64 0, .string ⟨#[]⟩]) BK.out 0 (.int .i64 1) rfl) 1 (.string ⟨#[98, 108, 111, 98]⟩) rfl) 2 (.int .i64 2) rfl) 3 (.string ⟨#[116, 114, 101, 101]⟩) rfl) 4 (.int .i64 3) rfl) 5 (.string ⟨#[99, 111, 109, 109, 105, 116]⟩) rfl) 6 (.int .i64 4) rfl) 7 (.string ⟨#[116, 97, 103]⟩) rfl)
  refine bodyPost_ret (results_cell_row rfl _ _ gb 148 #[.int .i64 1, .string ⟨#[98, 108, 111, 98]⟩, .int .i64 2, .string ⟨#[116, 114, 101, 101]⟩, .int .i64 3, .string ⟨#[99, 111, 109, 109, 105, 116]⟩, .int .i64 4, .string ⟨#[116, 97, 103]⟩] (0, 0) _ rfl hh huk rfl kinds_size) rfl ?_
  exact ⟨rfl, (below_set (below_set (below_set (below_set (below_set (below_set (below_set (below_set HB3.out GE.out) GE.out) GE.out) GE.out) GE.out) GE.out) GE.out) GE.out)⟩
def kindW : Nat → ByteArray
  | 0 => ⟨#[98, 108, 111, 98]⟩
  | 1 => ⟨#[116, 114, 101, 101]⟩
  | 2 => ⟨#[99, 111, 109, 109, 105, 116]⟩
  | _ => ⟨#[116, 97, 103]⟩
def wordF (n : Int) : Nat → Nat → ByteArray
  | 0, _ => ⟨#[]⟩
  | d + 1, i => if ((i : Int) + 1) = n then kindW i else wordF n d (i + 1)
def kindF (s : ByteArray) : Nat → Nat → Int
  | 0, _ => 0
  | d + 1, i => if (kindW i).toList = s.toList then (i : Int) + 1 else kindF s d (i + 1)
def object_Word.f (a0 : Int) : Option ByteArray := some (wordF a0 4 0)
def object_Kind.f (a0 : ByteArray) : Option Int := some (kindF a0 4 0)
def kindsV : Value := .agg #[.int .i64 1, .string ⟨#[98, 108, 111, 98]⟩, .int .i64 2, .string ⟨#[116, 114, 101, 101]⟩, .int .i64 3, .string ⟨#[99, 111, 109, 109, 105, 116]⟩, .int .i64 4, .string ⟨#[116, 97, 103]⟩]
theorem kinds_index (x : Int) (h0 : 0 ≤ x) (h5 : x < 4) (W : World) : (Instr.index 148 kindsV (.int .i64 x)).run Tryz.prog W = .ok (.agg #[.int .i64 (x + 1), .string (kindW x.toNat)]) W := by
  have hu := underlying148
  have hz := Tryz.sizeOf147
  have ha := Tryz.isAgg147
  have : x = 0 ∨ x = 1 ∨ x = 2 ∨ x = 3 := by omega
  rcases this with rfl | rfl | rfl | rfl <;> simp [Instr.index, kindsV, kindW, asIntOf, run_underlying hu, hz, Go.part, ha] <;> rfl
theorem object_Word.calls (a0 : Int) (r : ByteArray) (w : World) (h : object_Word.f a0 = some r) :
    Calls Tryz.prog 79 #[.int .i64 a0] w fun e w' => e = .returned (.string r) ∧ Below w.heap.size w w' := by
  have H' := Aside0.mk (show wordF a0 4 0 = r from Option.some.inj h)
  have hu47 := underlying147
  clear h
  go_enter func79, ntmps79
  go_wp2_with (go_at_call 143; (with_reducible refine (kinds_calls _).mono ?_); rintro e w1 ⟨rfl, hb⟩; have HB := Aside0.mk hb; clear hb)
  go_loopg [6] 4 (fun g v6 wr => ∃ (i : Nat) (x : Int), v6 = .int .i64 x ∧ Aside0 (x = (i : Int) ∧ i + g = 4) ∧ Aside0 (Below w.heap.size w wr) ∧ Aside0 (wordF a0 g i = r))
  case atStart => exact ⟨0, 0, rfl, ⟨rfl, rfl⟩, HB, H'⟩
  case round =>
    clear H' HB
    obtain ⟨i, x, rfl, HX, HB, H⟩ := hrel
    cases gk with
    | zero =>
      have h5 : decide (x < 4) = false := by have := HX.out; exact decide_eq_false (by omega)
      have H0 := H.out
      rw [wordF] at H0
      subst H0
      clear H
      go_wp2
      go_ret
      exact ⟨rfl, HB.out⟩
    | succ g =>
      have H0 := H.out
      rw [wordF] at H0
      have h5 : decide (x < 4) = true := by have := HX.out; exact decide_eq_true (by omega)
      have hw1 : IntKind.i64.wrap (x + 1) = x + 1 := by have := HX.out; rw [IntKind.wrap_i64]; omega
      have hx0 := kinds_index x (by have := HX.out; omega) (by have := HX.out; omega)
      unfold kindsV at hx0
      obtain ⟨q, hq⟩ : ∃ q, q = kindW x.toNat := ⟨_, rfl⟩
      have HQ := Aside0.mk hq
      rw [← hq] at hx0
      clear hq H
      by_cases hz : x + 1 = a0
      · have hz1 : (x + 1 == a0) = true := by simpa using hz
        rw [if_pos (by have := HX.out; omega)] at H0
        have e : q = r := by rw [HQ.out, ← H0, show x.toNat = i by have := HX.out; omega]
        subst e
        clear hz H0
        go_wp2_with ((with_reducible refine gate_dst (N := 4) rfl ?_); refine box_event ?hg (N := 4) ?hd (cs := #[.int .i64 0, .string ⟨#[]⟩]) (t := 147) ?hr ?_; (case hd => rfl); (case hg => rfl); (case hr => first | (go_simp; done) | (go_simp; rfl)); intro gb hg w6 hbox hb2; have HB6 := Aside0.mk (below_step HB.out hb2); have GE6 := Aside0.mk (show w.heap.size ≤ gb by rw [hg]; exact HB.out.size); have BK6 := Aside0.mk hbox; clear hb2 hbox hg; have hcz0 : w6.cell? ⟨gb, 0, none⟩ = some (.int .i64 0) := (blk_cell BK6.out 0).trans rfl; have hcz1 : w6.cell? ⟨gb, 1, none⟩ = some (.string (⟨#[]⟩ : ByteArray)) := (blk_cell BK6.out 1).trans rfl; have hfz0 := blk_frozen BK6.out 0; have hfz1 := blk_frozen BK6.out 1)
        go_ret
        exact ⟨rfl, below_set (below_set HB6.out GE6.out) GE6.out⟩
      · have hz1 : (x + 1 == a0) = false := by simpa using hz
        rw [if_neg (by have := HX.out; omega)] at H0
        have HN := Aside0.mk H0
        clear hz H0
        go_wp2_with ((with_reducible refine gate_dst (N := 4) rfl ?_); refine box_event ?hg (N := 4) ?hd (cs := #[.int .i64 0, .string ⟨#[]⟩]) (t := 147) ?hr ?_; (case hd => rfl); (case hg => rfl); (case hr => first | (go_simp; done) | (go_simp; rfl)); intro gb hg w6 hbox hb2; have HB6 := Aside0.mk (below_step HB.out hb2); have GE6 := Aside0.mk (show w.heap.size ≤ gb by rw [hg]; exact HB.out.size); have BK6 := Aside0.mk hbox; clear hb2 hbox hg; have hcz0 : w6.cell? ⟨gb, 0, none⟩ = some (.int .i64 0) := (blk_cell BK6.out 0).trans rfl; have hcz1 : w6.cell? ⟨gb, 1, none⟩ = some (.string (⟨#[]⟩ : ByteArray)) := (blk_cell BK6.out 1).trans rfl; have hfz0 := blk_frozen BK6.out 0; have hfz1 := blk_frozen BK6.out 1)
        go_roundg g
        case measure => omega
        case rel => exact ⟨i + 1, x + 1, rfl, ⟨by have := HX.out; omega, by have := HX.out; omega⟩, ⟨below_set (below_set HB6.out GE6.out) GE6.out⟩, HN⟩
theorem object_Kind.calls (a0 : ByteArray) (r : Int) (w : World) (h : object_Kind.f a0 = some r) :
    Calls Tryz.prog 77 #[.string a0] w fun e w' => e = .returned (.int .i64 r) ∧ Below w.heap.size w w' := by
  have H' := Aside0.mk (show kindF a0 4 0 = r from Option.some.inj h)
  have hu47 := underlying147
  clear h
  go_enter func77, ntmps77
  go_wp2_with (go_at_call 143; (with_reducible refine (kinds_calls _).mono ?_); rintro e w1 ⟨rfl, hb⟩; have HB := Aside0.mk hb; clear hb)
  go_loopg [6] 4 (fun g v6 wr => ∃ (i : Nat) (x : Int), v6 = .int .i64 x ∧ Aside0 (x = (i : Int) ∧ i + g = 4) ∧ Aside0 (Below w.heap.size w wr) ∧ Aside0 (kindF a0 g i = r))
  case atStart => exact ⟨0, 0, rfl, ⟨rfl, rfl⟩, HB, H'⟩
  case round =>
    clear H' HB
    obtain ⟨i, x, rfl, HX, HB, H⟩ := hrel
    cases gk with
    | zero =>
      have h5 : decide (x < 4) = false := by have := HX.out; exact decide_eq_false (by omega)
      have H0 := H.out
      rw [kindF] at H0
      subst H0
      clear H
      go_wp2
      go_ret
      exact ⟨rfl, HB.out⟩
    | succ g =>
      have H0 := H.out
      rw [kindF] at H0
      have h5 : decide (x < 4) = true := by have := HX.out; exact decide_eq_true (by omega)
      have hw1 : IntKind.i64.wrap (x + 1) = x + 1 := by have := HX.out; rw [IntKind.wrap_i64]; omega
      have hx0 := kinds_index x (by have := HX.out; omega) (by have := HX.out; omega)
      unfold kindsV at hx0
      obtain ⟨q, hq⟩ : ∃ q, q = kindW i := ⟨_, rfl⟩
      have HQ := Aside0.mk hq
      rw [show x.toNat = i by have := HX.out; omega, ← hq] at hx0
      rw [← hq] at H0
      clear hq H
      by_cases hz : q.toList = a0.toList
      · have hz1 : (q.toList == a0.toList) = true := by simpa using hz
        rw [if_pos hz] at H0
        have e : x + 1 = r := by have := HX.out; omega
        subst e
        clear hz H0
        go_wp2_with ((with_reducible refine gate_dst (N := 4) rfl ?_); refine box_event ?hg (N := 4) ?hd (cs := #[.int .i64 0, .string ⟨#[]⟩]) (t := 147) ?hr ?_; (case hd => rfl); (case hg => rfl); (case hr => first | (go_simp; done) | (go_simp; rfl)); intro gb hg w6 hbox hb2; have HB6 := Aside0.mk (below_step HB.out hb2); have GE6 := Aside0.mk (show w.heap.size ≤ gb by rw [hg]; exact HB.out.size); have BK6 := Aside0.mk hbox; clear hb2 hbox hg; have hcz0 : w6.cell? ⟨gb, 0, none⟩ = some (.int .i64 0) := (blk_cell BK6.out 0).trans rfl; have hcz1 : w6.cell? ⟨gb, 1, none⟩ = some (.string (⟨#[]⟩ : ByteArray)) := (blk_cell BK6.out 1).trans rfl; have hfz0 := blk_frozen BK6.out 0; have hfz1 := blk_frozen BK6.out 1)
        go_ret
        exact ⟨rfl, below_set (below_set HB6.out GE6.out) GE6.out⟩
      · have hz1 : (q.toList == a0.toList) = false := by simpa using hz
        rw [if_neg hz] at H0
        have HN := Aside0.mk H0
        clear hz H0
        go_wp2_with ((with_reducible refine gate_dst (N := 4) rfl ?_); refine box_event ?hg (N := 4) ?hd (cs := #[.int .i64 0, .string ⟨#[]⟩]) (t := 147) ?hr ?_; (case hd => rfl); (case hg => rfl); (case hr => first | (go_simp; done) | (go_simp; rfl)); intro gb hg w6 hbox hb2; have HB6 := Aside0.mk (below_step HB.out hb2); have GE6 := Aside0.mk (show w.heap.size ≤ gb by rw [hg]; exact HB.out.size); have BK6 := Aside0.mk hbox; clear hb2 hbox hg; have hcz0 : w6.cell? ⟨gb, 0, none⟩ = some (.int .i64 0) := (blk_cell BK6.out 0).trans rfl; have hcz1 : w6.cell? ⟨gb, 1, none⟩ = some (.string (⟨#[]⟩ : ByteArray)) := (blk_cell BK6.out 1).trans rfl; have hfz0 := blk_frozen BK6.out 0; have hfz1 := blk_frozen BK6.out 1)
        go_roundg g
        case measure => omega
        case rel => exact ⟨i + 1, x + 1, rfl, ⟨by have := HX.out; omega, by have := HX.out; omega⟩, ⟨below_set (below_set HB6.out GE6.out) GE6.out⟩, HN⟩
def commit_CheckTag.j0 : Nat → Bool → ByteArray → Int → ByteArray → ByteArray → ByteArray → Int → Int → ByteArray → Option (Int)
 | 0, _, _, _, _, _, _, _, _, _ => none
 | k + 1, x29, x141000, x141001, x141002, x141003, x141004, x141005, x141006, x141007 => if x29 = true then (some 1) else (if (x141007.size : Int) > 4096 then (some 4) else (some 0))
def commit_CheckTag.f (k : Nat) (a0_0 : ByteArray) (a0_1 : Int) (a0_2 : ByteArray) (a0_3 : ByteArray) (a0_4 : ByteArray) (a0_5 : Int) (a0_6 : Int) (a0_7 : ByteArray) : Option (Int) := (ident_Is.f k a0_0).bind fun t141 => (if t141 = true then ((object_Word.f a0_1).bind fun t142 => (if t142.toList = ([] : List UInt8) then (commit_CheckTag.j0 k true a0_0 a0_1 a0_2 a0_3 a0_4 a0_5 a0_6 a0_7) else ((commit_tagged.f k a0_2).bind fun t143 => (if t143 = true then ((commit_somebody.f k a0_3 a0_4 a0_5 a0_6).bind fun t144 => (if t144 = true then ((strings_Contains2.f a0_7 ⟨#[0]⟩).bind fun t145 => (commit_CheckTag.j0 k t145 a0_0 a0_1 a0_2 a0_3 a0_4 a0_5 a0_6 a0_7)) else (commit_CheckTag.j0 k true a0_0 a0_1 a0_2 a0_3 a0_4 a0_5 a0_6 a0_7))) else (commit_CheckTag.j0 k true a0_0 a0_1 a0_2 a0_3 a0_4 a0_5 a0_6 a0_7))))) else (commit_CheckTag.j0 k true a0_0 a0_1 a0_2 a0_3 a0_4 a0_5 a0_6 a0_7))
theorem commit_CheckTag.mono_l : ∀ k, (∀ y0 y1 y2 y3 y4 y5 y6 y7 y8, LeO (commit_CheckTag.j0 k y0 y1 y2 y3 y4 y5 y6 y7 y8) (commit_CheckTag.j0 (k + 1) y0 y1 y2 y3 y4 y5 y6 y7 y8))
 | 0 => fun _ _ _ _ _ _ _ _ _ r h => by simp [commit_CheckTag.j0] at h
 | k + 1 => by
  have ih0 := commit_CheckTag.mono_l k
  ·intro y0 y1 y2 y3 y4 y5 y6 y7 y8
   unfold commit_CheckTag.j0
   have m0_ := @ih0
   have m1_ := @commit_somebody.mono
   have m2_ := @commit_tagged.mono
   have m3_ := @ident_Is.mono
   exact mz_
theorem commit_CheckTag.mono : ∀ a0 a1 a2 a3 a4 a5 a6 a7 k, LeO (commit_CheckTag.f k a0 a1 a2 a3 a4 a5 a6 a7) (commit_CheckTag.f (k + 1) a0 a1 a2 a3 a4 a5 a6 a7) := by
 intro a0 a1 a2 a3 a4 a5 a6 a7 k; have ih0 := commit_CheckTag.mono_l k; unfold commit_CheckTag.f; have m0_ := @ih0; have m1_ := @commit_somebody.mono; have m2_ := @commit_tagged.mono; have m3_ := @ident_Is.mono; exact mz_
theorem commit_CheckTag.calls (k : Nat) (a0_0 : ByteArray) (a0_1 : Int) (a0_2 : ByteArray) (a0_3 : ByteArray) (a0_4 : ByteArray) (a0_5 : Int) (a0_6 : Int) (a0_7 : ByteArray) (r : Int) (w : World) (hgv : GV w) (h : commit_CheckTag.f k a0_0 a0_1 a0_2 a0_3 a0_4 a0_5 a0_6 a0_7 = some r) :
  Calls Tryz.prog 27 #[.agg #[.string a0_0, .int .i64 a0_1, .string a0_2, .string a0_3, .string a0_4, .int .i64 a0_5, .int .i64 a0_6, .string a0_7]] w fun e w' => e = .returned (.int .i64 r) ∧ Below w.heap.size w w' := by
 have hu37 := underlying37; have hu24 := underlying24; have HB := Aside0.mk (Below.refl w.heap.size w); unfold commit_CheckTag.f at h; have H := h; clear h; have HC2 := Aside0.mk H; clear H; go_enter func27, ntmps27; go_upto_region 1 with (first | ((with_reducible refine gate_dst (N := 1) rfl ?_); refine be_ (cs := #[.string a0_0, .int .i64 a0_1, .string a0_2, .string a0_3, .string a0_4, .int .i64 a0_5, .int .i64 a0_6, .string a0_7]) (t := 37) ?_; intro gb140 hg w3 hbox hb; have BK140 := Aside0.mk (hbox); have GW140 := ag_ hg HB; have GE140 := ag_ hg HB; replace HB := ah_ HB hb; clear hb hbox hg)); (try simp only [Act.put, List.setIfInBounds_toArray, List.set_cons_zero, List.set_cons_succ])
 go_cut [29] (fun v29 wc => ∃ (kq : Nat) (x29_1 : Bool), v29 = .bool x29_1 ∧ Aside0 (commit_CheckTag.j0 kq x29_1 a0_0 a0_1 a0_2 a0_3 a0_4 a0_5 a0_6 a0_7 = some r) ∧ Aside0 (kq ≤ k) ∧ Aside0 (wc.heap[gb140]? = some (.cells #[.string a0_0, .int .i64 a0_1, .string a0_2, .string a0_3, .string a0_4, .int .i64 a0_5, .int .i64 a0_6, .string a0_7] 37 (0, 0))) ∧ Aside0 (Below w.heap.size w wc))
 case first =>
  have H := HC2.out; clear HC2; obtain ⟨t141, A4, H⟩ := bx_ H; by_cases c5 : t141 = true; rotate_left
  ·replace c5 := Bool.eq_false_iff.mpr c5; subst c5; rw [if_neg nft_] at H; have H' := Aside0.mk H; clear H; obtain ⟨Z27_0, Z27_1, Z27_2, Z27_3, Z27_4, Z27_5, Z27_6, Z27_7, F27⟩ := bc8 BK140.out; go_wp2_with (first | ((with_reducible refine gate_callee (f := 65) rfl ?_); refine gl_ (some 5) func65 #[.string a0_0] ?_; refine cm_ (ident_Is.calls k a0_0 false _ A4.out) ?_; rintro w' ⟨nd, rfl⟩)); go_meet
   case rel => exact ⟨_, (true), z1_, H', ⟨z4_⟩, ⟨bk_ BK140.out⟩, ⟨hs_⟩⟩
  subst c5; rw [if_pos rfl] at H; obtain ⟨t142, A6, H⟩ := bx_ H; by_cases c7 : t142.toList = ([] : List UInt8)
  ·rw [if_pos c7] at H; have c7b0 := et_ c7; have c7b1 := nf_ c7; clear c7; (first | rw [c7b0] | (simp only [i64_w, i32_w]; rw [c7b0]) | skip); have H' := Aside0.mk H; clear H; obtain ⟨Z8_0, Z8_1, Z8_2, Z8_3, Z8_4, Z8_5, Z8_6, Z8_7, F8⟩ := bc8 BK140.out; go_wp2_with (first | ((with_reducible refine gate_callee (f := 65) rfl ?_); refine gl_ (some 5) func65 #[.string a0_0] ?_; refine cm_ (ident_Is.calls k a0_0 true _ A4.out) ?_; rintro w' ⟨nd, rfl⟩) | (go_at_call 79; (with_reducible refine (object_Word.calls a0_1 t142 _ A6.out).mono ?_); rintro e w9 ⟨rfl, hb⟩; replace BK140 := ab_ BK140 hb; replace HB := Aside0.mk (below_step (hs_) hb); (try clear hb); (try clear hb2); (try clear hk); (try clear hi)))
   go_meet
   case rel => exact ⟨_, (true), z1_, H', ⟨z4_⟩, ⟨bk_ BK140.out⟩, ⟨hs_⟩⟩
  rw [if_neg c7] at H; have c7b0 := ef_ c7; have c7b1 := nt_ c7; (first | rw [c7b0] | (simp only [i64_w, i32_w]; rw [c7b0]) | skip); obtain ⟨t143, A10, H⟩ := bx_ H; by_cases c11 : t143 = true; rotate_left
  ·replace c11 := Bool.eq_false_iff.mpr c11; subst c11; rw [if_neg nft_] at H; have H' := Aside0.mk H; clear H; obtain ⟨Z24_0, Z24_1, Z24_2, Z24_3, Z24_4, Z24_5, Z24_6, Z24_7, F24⟩ := bc8 BK140.out; go_wp2_with (first | ((with_reducible refine gate_callee (f := 65) rfl ?_); refine gl_ (some 5) func65 #[.string a0_0] ?_; refine cm_ (ident_Is.calls k a0_0 true _ A4.out) ?_; rintro w' ⟨nd, rfl⟩) | (go_at_call 79; (with_reducible refine (object_Word.calls a0_1 t142 _ A6.out).mono ?_); rintro e w25 ⟨rfl, hb⟩; replace BK140 := ab_ BK140 hb; replace HB := Aside0.mk (below_step (hs_) hb); (try clear hb); (try clear hb2); (try clear hk); (try clear hi); obtain ⟨Z26_0, Z26_1, Z26_2, Z26_3, Z26_4, Z26_5, Z26_6, Z26_7, F26⟩ := bc8 BK140.out) | (go_at_call 81; (with_reducible refine (commit_tagged.calls k a0_2 false _ A10.out).mono ?_); rintro e w' ⟨rfl, ⟨nd, rfl⟩⟩)); go_meet
   case rel => exact ⟨_, (true), z1_, H', ⟨z4_⟩, ⟨bk_ BK140.out⟩, ⟨hs_⟩⟩
  subst c11; rw [if_pos rfl] at H; obtain ⟨t144, A12, H⟩ := bx_ H; by_cases c13 : t144 = true; rotate_left
  ·replace c13 := Bool.eq_false_iff.mpr c13; subst c13; rw [if_neg nft_] at H; have H' := Aside0.mk H; clear H; obtain ⟨Z20_0, Z20_1, Z20_2, Z20_3, Z20_4, Z20_5, Z20_6, Z20_7, F20⟩ := bc8 BK140.out; go_wp2_with (first | ((with_reducible refine gate_callee (f := 65) rfl ?_); refine gl_ (some 5) func65 #[.string a0_0] ?_; refine cm_ (ident_Is.calls k a0_0 true _ A4.out) ?_; rintro w' ⟨nd, rfl⟩) | (go_at_call 79; (with_reducible refine (object_Word.calls a0_1 t142 _ A6.out).mono ?_); rintro e w21 ⟨rfl, hb⟩; replace BK140 := ab_ BK140 hb; replace HB := Aside0.mk (below_step (hs_) hb); (try clear hb); (try clear hb2); (try clear hk); (try clear hi); obtain ⟨Z22_0, Z22_1, Z22_2, Z22_3, Z22_4, Z22_5, Z22_6, Z22_7, F22⟩ := bc8 BK140.out) | (go_at_call 81; (with_reducible refine (commit_tagged.calls k a0_2 true _ A10.out).mono ?_); rintro e w' ⟨rfl, ⟨nd, rfl⟩⟩) | (go_at_call 67; (with_reducible refine (commit_somebody.calls k a0_3 a0_4 a0_5 a0_6 false _ A12.out).mono ?_); rintro e w23 ⟨rfl, hb⟩; replace BK140 := ab_ BK140 hb; replace HB := Aside0.mk (below_step (hs_) hb); (try clear hb); (try clear hb2); (try clear hk); (try clear hi)))
   go_meet
   case rel => exact ⟨_, (true), z1_, H', ⟨z4_⟩, ⟨bk_ BK140.out⟩, ⟨hs_⟩⟩
  subst c13; rw [if_pos rfl] at H; obtain ⟨t145, A14, H⟩ := bx_ H; have H' := Aside0.mk H; clear H; obtain ⟨Z15_0, Z15_1, Z15_2, Z15_3, Z15_4, Z15_5, Z15_6, Z15_7, F15⟩ := bc8 BK140.out; go_wp2_with (first | ((with_reducible refine gate_callee (f := 65) rfl ?_); refine gl_ (some 5) func65 #[.string a0_0] ?_; refine cm_ (ident_Is.calls k a0_0 true _ A4.out) ?_; rintro w' ⟨nd, rfl⟩) | (go_at_call 79; (with_reducible refine (object_Word.calls a0_1 t142 _ A6.out).mono ?_); rintro e w16 ⟨rfl, hb⟩; replace BK140 := ab_ BK140 hb; replace HB := Aside0.mk (below_step (hs_) hb); (try clear hb); (try clear hb2); (try clear hk); (try clear hi); obtain ⟨Z17_0, Z17_1, Z17_2, Z17_3, Z17_4, Z17_5, Z17_6, Z17_7, F17⟩ := bc8 BK140.out) | (go_at_call 81; (with_reducible refine (commit_tagged.calls k a0_2 true _ A10.out).mono ?_); rintro e w' ⟨rfl, ⟨nd, rfl⟩⟩) | (go_at_call 67; (with_reducible refine (commit_somebody.calls k a0_3 a0_4 a0_5 a0_6 true _ A12.out).mono ?_); rintro e w18 ⟨rfl, hb⟩; replace BK140 := ab_ BK140 hb; replace HB := Aside0.mk (below_step (hs_) hb); (try clear hb); (try clear hb2); (try clear hk); (try clear hi); obtain ⟨Z19_0, Z19_1, Z19_2, Z19_3, Z19_4, Z19_5, Z19_6, Z19_7, F19⟩ := bc8 BK140.out) | (go_at_call 68; (with_reducible refine (strings_Contains2.calls a0_7 ⟨#[0]⟩ t145 _ ?side1 A14.out).mono ?_); (case side1 => exact GV.below hgv (hs_)); rintro e w' ⟨rfl, ⟨nd, rfl⟩⟩)); go_meet
  case rel => exact ⟨_, (t145), z1_, H', ⟨z4_⟩, ⟨bk_ BK140.out⟩, ⟨hs_⟩⟩
 case rest =>
  clear HC2; try clear c1
  try clear c2
  try clear p2
  try clear c5
  try clear c6
  try clear c7
  try clear c7b0
  try clear c7b1
  try clear c11
  try clear c13
  try clear c27
  try clear Z15_0 Z15_1 Z15_2 Z15_3 Z15_4 Z15_5 Z15_6 Z15_7
  try clear Z17_0 Z17_1 Z17_2 Z17_3 Z17_4 Z17_5 Z17_6 Z17_7
  try clear Z19_0 Z19_1 Z19_2 Z19_3 Z19_4 Z19_5 Z19_6 Z19_7
  try clear Z20_0 Z20_1 Z20_2 Z20_3 Z20_4 Z20_5 Z20_6 Z20_7
  try clear Z22_0 Z22_1 Z22_2 Z22_3 Z22_4 Z22_5 Z22_6 Z22_7
  try clear Z24_0 Z24_1 Z24_2 Z24_3 Z24_4 Z24_5 Z24_6 Z24_7
  try clear Z26_0 Z26_1 Z26_2 Z26_3 Z26_4 Z26_5 Z26_6 Z26_7
  try clear Z27_0 Z27_1 Z27_2 Z27_3 Z27_4 Z27_5 Z27_6 Z27_7
  try clear Z8_0 Z8_1 Z8_2 Z8_3 Z8_4 Z8_5 Z8_6 Z8_7
  try clear F15
  try clear F17
  try clear F19
  try clear F20
  try clear F22
  try clear F24
  try clear F26
  try clear F27
  try clear F8
  obtain ⟨kq, x29_1, rfl, HA, HJ1, BK140, HB⟩ := hcut
  cases kq with
  | zero => exact absurd HA.out (by simp [commit_CheckTag.j0])
  | succ kj1 =>
   have H := HA.out; clear HA; simp only [commit_CheckTag.j0] at H; by_cases c28 : x29_1 = true
   ·subst c28; rw [if_pos rfl] at H; obtain rfl := oi_ H; go_wp2
    go_ret
    exact ⟨z3_, hs_⟩
   replace c28 := Bool.eq_false_iff.mpr c28; subst c28; rw [if_neg nft_] at H; by_cases c29 : (a0_7.size : Int) > 4096
   ·rw [if_pos c29] at H; have c29b0 := dt_ c29; have c29b1 : decide (4096 < a0_7.size) = true := decide_eq_true (by omega); clear c29; obtain rfl := oi_ H; obtain ⟨Z30_0, Z30_1, Z30_2, Z30_3, Z30_4, Z30_5, Z30_6, Z30_7, F30⟩ := bc8 BK140.out; go_wp2
    go_ret
    exact ⟨z3_, hs_⟩
   rw [if_neg c29] at H; have c29b0 := df_ c29; have c29b1 : decide (4096 < a0_7.size) = false := decide_eq_false (by omega); clear c29; obtain rfl := oi_ H; obtain ⟨Z31_0, Z31_1, Z31_2, Z31_3, Z31_4, Z31_5, Z31_6, Z31_7, F31⟩ := bc8 BK140.out; go_wp2
   go_ret
   exact ⟨z3_, hs_⟩
def commit_TagBody.f (k : Nat) (a0_0 : ByteArray) (a0_1 : Int) (a0_2 : ByteArray) (a0_3 : ByteArray) (a0_4 : ByteArray) (a0_5 : Int) (a0_6 : Int) (a0_7 : ByteArray) : Option (ByteArray × Int) := (commit_CheckTag.f k a0_0 a0_1 a0_2 a0_3 a0_4 a0_5 a0_6 a0_7).bind fun t120 => (if t120 = 0 then (if 7 + a0_0.size ≤ 9223372036854775807 then (if ((⟨#[111, 98, 106, 101, 99, 116, 32]⟩ : ByteArray) ++ a0_0).size + 6 ≤ 9223372036854775807 then ((object_Word.f a0_1).bind fun t121 => (if (((⟨#[111, 98, 106, 101, 99, 116, 32]⟩ : ByteArray) ++ a0_0) ++ (⟨#[10, 116, 121, 112, 101, 32]⟩ : ByteArray)).size + t121.size ≤ 9223372036854775807 then (if ((((⟨#[111, 98, 106, 101, 99, 116, 32]⟩ : ByteArray) ++ a0_0) ++ (⟨#[10, 116, 121, 112, 101, 32]⟩ : ByteArray)) ++ t121).size + 5 ≤ 9223372036854775807 then (if (((((⟨#[111, 98, 106, 101, 99, 116, 32]⟩ : ByteArray) ++ a0_0) ++ (⟨#[10, 116, 121, 112, 101, 32]⟩ : ByteArray)) ++ t121) ++ (⟨#[10, 116, 97, 103, 32]⟩ : ByteArray)).size + a0_2.size ≤ 9223372036854775807 then (if ((((((⟨#[111, 98, 106, 101, 99, 116, 32]⟩ : ByteArray) ++ a0_0) ++ (⟨#[10, 116, 121, 112, 101, 32]⟩ : ByteArray)) ++ t121) ++ (⟨#[10, 116, 97, 103, 32]⟩ : ByteArray)) ++ a0_2).size + 8 ≤ 9223372036854775807 then ((commit_Who.f a0_3 a0_4 a0_5 a0_6).bind fun t122 => (if (((((((⟨#[111, 98, 106, 101, 99, 116, 32]⟩ : ByteArray) ++ a0_0) ++ (⟨#[10, 116, 121, 112, 101, 32]⟩ : ByteArray)) ++ t121) ++ (⟨#[10, 116, 97, 103, 32]⟩ : ByteArray)) ++ a0_2) ++ (⟨#[10, 116, 97, 103, 103, 101, 114, 32]⟩ : ByteArray)).size + t122.size ≤ 9223372036854775807 then (if ((((((((⟨#[111, 98, 106, 101, 99, 116, 32]⟩ : ByteArray) ++ a0_0) ++ (⟨#[10, 116, 121, 112, 101, 32]⟩ : ByteArray)) ++ t121) ++ (⟨#[10, 116, 97, 103, 32]⟩ : ByteArray)) ++ a0_2) ++ (⟨#[10, 116, 97, 103, 103, 101, 114, 32]⟩ : ByteArray)) ++ t122).size + 2 ≤ 9223372036854775807 then (if (((((((((⟨#[111, 98, 106, 101, 99, 116, 32]⟩ : ByteArray) ++ a0_0) ++ (⟨#[10, 116, 121, 112, 101, 32]⟩ : ByteArray)) ++ t121) ++ (⟨#[10, 116, 97, 103, 32]⟩ : ByteArray)) ++ a0_2) ++ (⟨#[10, 116, 97, 103, 103, 101, 114, 32]⟩ : ByteArray)) ++ t122) ++ (⟨#[10, 10]⟩ : ByteArray)).size + a0_7.size ≤ 9223372036854775807 then (some ((((((((((⟨#[111, 98, 106, 101, 99, 116, 32]⟩ : ByteArray) ++ a0_0) ++ (⟨#[10, 116, 121, 112, 101, 32]⟩ : ByteArray)) ++ t121) ++ (⟨#[10, 116, 97, 103, 32]⟩ : ByteArray)) ++ a0_2) ++ (⟨#[10, 116, 97, 103, 103, 101, 114, 32]⟩ : ByteArray)) ++ t122) ++ (⟨#[10, 10]⟩ : ByteArray)) ++ a0_7, 0)) else (none)) else (none)) else (none))) else (none)) else (none)) else (none)) else (none))) else (none)) else (none)) else (some ((⟨#[]⟩ : ByteArray), t120)))
theorem commit_TagBody.mono : ∀ a0 a1 a2 a3 a4 a5 a6 a7 k, LeO (commit_TagBody.f k a0 a1 a2 a3 a4 a5 a6 a7) (commit_TagBody.f (k + 1) a0 a1 a2 a3 a4 a5 a6 a7) := by
 intro a0 a1 a2 a3 a4 a5 a6 a7 k; unfold commit_TagBody.f; have m0_ := @commit_CheckTag.mono; exact mz_
def commit_TagBody.T4 : Bool × List (List Nat × List Nat) := (true, [([], []), ([0], [0]), ([1], [1]), ([2], [2]), ([], []), ([4], [4]), ([5], [5]), ([3, 6], [3, 6]), ([7], [7]), ([], []), ([9], [9]), ([8, 10], [8, 10]), ([11], [11]), ([], []), ([13], [13]), ([14, 6], [14]), ([12, 15], [12, 15]), ([16], [16]), ([], []), ([18], [18]), ([17, 19], [17, 19]), ([20, 15, 0, 1, 2, 3, 4, 5, 6, 7, 8, 9, 10, 11, 12, 13, 14, 15, 16, 17, 18, 19, 20], [20]), ([21, 0, 1, 2, 3, 4, 5, 6, 7, 8, 9, 10, 11, 12, 13, 14, 15, 16, 17, 18, 19, 20, 21], [])])
def commit_TagBody.B4 : List Nat := [0, 1, 3, 7, 0, 16, 48, 127, 255, 0, 512, 2047, 4095, 0, 8192, 24688, 65535, 131071, 0, 262144, 1048575, 2097151, 4194303]
theorem commit_TagBody.tab4 : rtab .any (opsOf Tryz.f25 4) = commit_TagBody.T4 := by kernel_rfl
theorem commit_TagBody.bits4 : waitsOk commit_TagBody.T4.2 commit_TagBody.B4 = true := by kernel_rfl
theorem commit_TagBody.calls (k : Nat) (a0_0 : ByteArray) (a0_1 : Int) (a0_2 : ByteArray) (a0_3 : ByteArray) (a0_4 : ByteArray) (a0_5 : Int) (a0_6 : Int) (a0_7 : ByteArray) (r1 : ByteArray) (r2 : Int) (w : World) (hgv : GV w) (h : commit_TagBody.f k a0_0 a0_1 a0_2 a0_3 a0_4 a0_5 a0_6 a0_7 = some (r1, r2)) :
  Calls Tryz.prog 25 #[.agg #[.string a0_0, .int .i64 a0_1, .string a0_2, .string a0_3, .string a0_4, .int .i64 a0_5, .int .i64 a0_6, .string a0_7]] w fun e w' => e = .returned (.tuple #[.string r1, .int .i64 r2]) ∧ Below w.heap.size w w' := by
 have hu37 := underlying37; have hu24 := underlying24; have HB := Aside0.mk (Below.refl w.heap.size w); unfold commit_TagBody.f at h; have H := h; clear h; obtain ⟨t120, A2, H⟩ := bx_ H; by_cases c3 : t120 = 0; rotate_left
 ·rw [if_neg c3] at H; have c3b0 := ef_ c3; have c3b1 := nt_ c3; obtain ⟨rfl, rfl⟩ := pj2_ H; go_enter func25, ntmps25; go_wp2_with (first | ((with_reducible refine gate_dst (N := 1) rfl ?_); refine be_ (cs := #[.string a0_0, .int .i64 a0_1, .string a0_2, .string a0_3, .string a0_4, .int .i64 a0_5, .int .i64 a0_6, .string a0_7]) (t := 37) ?_; intro gb119 hg w21 hbox hb; have BK119 := Aside0.mk (hbox); have GW119 := ag_ hg HB; have GE119 := ag_ hg HB; replace HB := ah_ HB hb; clear hb hbox hg; obtain ⟨Z22_0, Z22_1, Z22_2, Z22_3, Z22_4, Z22_5, Z22_6, Z22_7, F22⟩ := bc8 BK119.out) | ((with_reducible refine gate_callee (f := 27) rfl ?_); refine gl_ (some 6) func27 #[.agg #[.string a0_0, .int .i64 a0_1, .string a0_2, .string a0_3, .string a0_4, .int .i64 a0_5, .int .i64 a0_6, .string a0_7]] ?_; (with_reducible refine (commit_CheckTag.calls k a0_0 a0_1 a0_2 a0_3 a0_4 a0_5 a0_6 a0_7 t120 _ ?side1 A2.out).mono ?_); (case side1 => exact GV.below hgv (hs_)); rintro e w23 ⟨rfl, hb⟩; refine ⟨_, rfl, ?_⟩; replace BK119 := ab_ BK119 hb; replace HB := Aside0.mk (below_step (hs_) hb); (try clear hb); (try clear hb2); (try clear hk); (try clear hi)))
  go_ret2
  exact ⟨z3_, hs_⟩
 rw [if_pos c3] at H; have c3b0 := et_ c3; have c3b1 := nf_ c3; clear c3; by_cases c4 : 7 + a0_0.size ≤ 9223372036854775807; rotate_left
 ·rw [if_neg c4] at H; exact no_ H
 rw [if_pos c4] at H; have c4b0 := eq_true c4; have c4b1 := dt_ c4; try have c4b2 := nl_ c4
 by_cases c5 : ((⟨#[111, 98, 106, 101, 99, 116, 32]⟩ : ByteArray) ++ a0_0).size + 6 ≤ 9223372036854775807; rotate_left
 ·rw [if_neg c5] at H; exact no_ H
 rw [if_pos c5] at H; have c5b0 := eq_true c5; have c5b1 := dt_ c5; try have c5b3 : (9223372036854775807 < 7 + a0_0.size + 6) = False := have h_ := c5; ns_
 try have c5b2 := nl_ c5
 obtain ⟨t121, A6, H⟩ := bx_ H; by_cases c7 : (((⟨#[111, 98, 106, 101, 99, 116, 32]⟩ : ByteArray) ++ a0_0) ++ (⟨#[10, 116, 121, 112, 101, 32]⟩ : ByteArray)).size + t121.size ≤ 9223372036854775807; rotate_left
 ·rw [if_neg c7] at H; exact no_ H
 rw [if_pos c7] at H; have c7b0 := eq_true c7; have c7b1 := dt_ c7; try have c7b3 : (9223372036854775807 < 7 + a0_0.size + 6 + t121.size) = False := have h_ := c7; ns_
 try have c7b2 := nl_ c7
 by_cases c8 : ((((⟨#[111, 98, 106, 101, 99, 116, 32]⟩ : ByteArray) ++ a0_0) ++ (⟨#[10, 116, 121, 112, 101, 32]⟩ : ByteArray)) ++ t121).size + 5 ≤ 9223372036854775807; rotate_left
 ·rw [if_neg c8] at H; exact no_ H
 rw [if_pos c8] at H; have c8b0 := eq_true c8; have c8b1 := dt_ c8; try have c8b3 : (9223372036854775807 < 7 + a0_0.size + 6 + t121.size + 5) = False := have h_ := c8; ns_
 try have c8b2 := nl_ c8
 by_cases c9 : (((((⟨#[111, 98, 106, 101, 99, 116, 32]⟩ : ByteArray) ++ a0_0) ++ (⟨#[10, 116, 121, 112, 101, 32]⟩ : ByteArray)) ++ t121) ++ (⟨#[10, 116, 97, 103, 32]⟩ : ByteArray)).size + a0_2.size ≤ 9223372036854775807; rotate_left
 ·rw [if_neg c9] at H; exact no_ H
 rw [if_pos c9] at H; have c9b0 := eq_true c9; have c9b1 := dt_ c9; try have c9b3 : (9223372036854775807 < 7 + a0_0.size + 6 + t121.size + 5 + a0_2.size) = False := have h_ := c9; ns_
 try have c9b2 := nl_ c9
 by_cases c10 : ((((((⟨#[111, 98, 106, 101, 99, 116, 32]⟩ : ByteArray) ++ a0_0) ++ (⟨#[10, 116, 121, 112, 101, 32]⟩ : ByteArray)) ++ t121) ++ (⟨#[10, 116, 97, 103, 32]⟩ : ByteArray)) ++ a0_2).size + 8 ≤ 9223372036854775807; rotate_left
 ·rw [if_neg c10] at H; exact no_ H
 rw [if_pos c10] at H; have c10b0 := eq_true c10; have c10b1 := dt_ c10; try have c10b3 : (9223372036854775807 < 7 + a0_0.size + 6 + t121.size + 5 + a0_2.size + 8) = False := have h_ := c10; ns_
 try have c10b2 := nl_ c10
 obtain ⟨t122, A11, H⟩ := bx_ H; by_cases c12 : (((((((⟨#[111, 98, 106, 101, 99, 116, 32]⟩ : ByteArray) ++ a0_0) ++ (⟨#[10, 116, 121, 112, 101, 32]⟩ : ByteArray)) ++ t121) ++ (⟨#[10, 116, 97, 103, 32]⟩ : ByteArray)) ++ a0_2) ++ (⟨#[10, 116, 97, 103, 103, 101, 114, 32]⟩ : ByteArray)).size + t122.size ≤ 9223372036854775807; rotate_left
 ·rw [if_neg c12] at H; exact no_ H
 rw [if_pos c12] at H; have c12b0 := eq_true c12; have c12b1 := dt_ c12; try have c12b3 : (9223372036854775807 < 7 + a0_0.size + 6 + t121.size + 5 + a0_2.size + 8 + t122.size) = False := have h_ := c12; ns_
 try have c12b2 := nl_ c12
 by_cases c13 : ((((((((⟨#[111, 98, 106, 101, 99, 116, 32]⟩ : ByteArray) ++ a0_0) ++ (⟨#[10, 116, 121, 112, 101, 32]⟩ : ByteArray)) ++ t121) ++ (⟨#[10, 116, 97, 103, 32]⟩ : ByteArray)) ++ a0_2) ++ (⟨#[10, 116, 97, 103, 103, 101, 114, 32]⟩ : ByteArray)) ++ t122).size + 2 ≤ 9223372036854775807; rotate_left
 ·rw [if_neg c13] at H; exact no_ H
 rw [if_pos c13] at H; have c13b0 := eq_true c13; have c13b1 := dt_ c13; try have c13b3 : (9223372036854775807 < 7 + a0_0.size + 6 + t121.size + 5 + a0_2.size + 8 + t122.size + 2) = False := have h_ := c13; ns_
 try have c13b2 := nl_ c13
 by_cases c14 : (((((((((⟨#[111, 98, 106, 101, 99, 116, 32]⟩ : ByteArray) ++ a0_0) ++ (⟨#[10, 116, 121, 112, 101, 32]⟩ : ByteArray)) ++ t121) ++ (⟨#[10, 116, 97, 103, 32]⟩ : ByteArray)) ++ a0_2) ++ (⟨#[10, 116, 97, 103, 103, 101, 114, 32]⟩ : ByteArray)) ++ t122) ++ (⟨#[10, 10]⟩ : ByteArray)).size + a0_7.size ≤ 9223372036854775807; rotate_left
 ·rw [if_neg c14] at H; exact no_ H
 rw [if_pos c14] at H; have c14b0 := eq_true c14; have c14b1 := dt_ c14; try have c14b3 : (9223372036854775807 < 7 + a0_0.size + 6 + t121.size + 5 + a0_2.size + 8 + t122.size + 2 + a0_7.size) = False := have h_ := c14; ns_
 try have c14b2 := nl_ c14
 obtain ⟨rfl, rfl⟩ := pj2_ H; go_enter func25, ntmps25; try go_wp2_with (first | ((with_reducible refine gate_dst (N := 1) rfl ?_); refine be_ (cs := #[.string a0_0, .int .i64 a0_1, .string a0_2, .string a0_3, .string a0_4, .int .i64 a0_5, .int .i64 a0_6, .string a0_7]) (t := 37) ?_; intro gb119 hg w15 hbox hb; have BK119 := Aside0.mk (hbox); have GW119 := ag_ hg HB; have GE119 := ag_ hg HB; replace HB := ah_ HB hb; clear hb hbox hg; obtain ⟨Z16_0, Z16_1, Z16_2, Z16_3, Z16_4, Z16_5, Z16_6, Z16_7, F16⟩ := bc8 BK119.out) | ((with_reducible refine gate_callee (f := 27) rfl ?_); refine gl_ (some 6) func27 #[.agg #[.string a0_0, .int .i64 a0_1, .string a0_2, .string a0_3, .string a0_4, .int .i64 a0_5, .int .i64 a0_6, .string a0_7]] ?_; (with_reducible refine (commit_CheckTag.calls k a0_0 a0_1 a0_2 a0_3 a0_4 a0_5 a0_6 a0_7 t120 _ ?side1 A2.out).mono ?_); (case side1 => exact GV.below hgv (hs_)); rintro e w17 ⟨rfl, hb⟩; refine ⟨_, rfl, ?_⟩; replace BK119 := ab_ BK119 hb; replace HB := Aside0.mk (below_step (hs_) hb); (try clear hb); (try clear hb2); (try clear hk); (try clear hi)))
 replace BK119 := ad_ BK119; replace HB := hd_ HB; refine start_ (n := 23) (S := fun w' => w'.cell? ⟨gb119, 0, none⟩ = some (.string a0_0) ∧ w'.cell? ⟨gb119, 1, none⟩ = some (.int .i64 a0_1) ∧ w'.cell? ⟨gb119, 2, none⟩ = some (.string a0_2) ∧ w'.cell? ⟨gb119, 3, none⟩ = some (.string a0_3) ∧ w'.cell? ⟨gb119, 4, none⟩ = some (.string a0_4) ∧ w'.cell? ⟨gb119, 5, none⟩ = some (.int .i64 a0_5) ∧ w'.cell? ⟨gb119, 6, none⟩ = some (.int .i64 a0_6) ∧ w'.cell? ⟨gb119, 7, none⟩ = some (.string a0_7)) (ds := []) (bs 23 0) (by kernel_rfl) rfl rfl (bc8o BK119.out) (fun hHeld => ?_); refine with_tabW commit_TagBody.tab4 commit_TagBody.bits4 (fun HT_ HW_ => ?_); generalize w17.drew = w18 at BK119 HB hHeld ⊢; refine pun_ 0 10 23 1 ?_; refine pun_ 4 14 23 17 ?_; refine pun_ 9 19 23 529 ?_; refine pun_ 13 23 23 8721 ?_; refine pun_ 18 28 23 270865 ?_; refine tkW8n_ 1 11 23 270867 hHeld ?_; refine pun_ 2 12 23 270871 ?_; refine pun_ 3 13 23 270879 ?_; refine tkW8n_ 5 15 23 270911 hHeld ?_; refine tkW8n_ 10 20 23 271935 hHeld ?_; refine tkW8n_ 14 24 23 288319 hHeld ?_; refine tkW8n_ 19 29 23 812607 hHeld ?_; refine on_ 6 16 23 812671 (fun K hK => ?_); refine goes_ func79 (by kernel_rfl) rfl #[.int .i64 a0_1] (by rfl) rfl rfl z5_ ?_
 with_reducible refine (object_Word.calls a0_1 t121 _ A6.out).mono ?_
 rintro e w19 ⟨rfl, hb⟩; refine ⟨_, rfl, ?_⟩; replace BK119 := ab_ BK119 hb; replace HB := Aside0.mk (below_step (hs_) hb); (try clear hb)
 (try clear hb2)
 (try clear hk)
 (try clear hi)
 refine hK.out _ _ (bc8o BK119.out) (fun hHeld => ?_); clear hK K; refine norm_ (a' := ?_) ?_ ?_; rotate_left
 ·show Act.put _ (some 16) _ = _
  simp only [Act.put, List.setIfInBounds_toArray, List.set_cons_zero, List.set_cons_succ, i64_w, i32_w]; rfl
 refine pun_ 7 17 23 812799 ?_; refine pun_ 8 18 23 813055 ?_; refine pun_ 11 21 23 815103 ?_; refine pun_ 12 22 23 819199 ?_; refine on_ 15 25 23 851967 (fun K hK => ?_); refine goes_ func31 (by kernel_rfl) rfl #[.agg #[.string a0_3, .string a0_4, .int .i64 a0_5, .int .i64 a0_6]] (by rfl) rfl rfl z5_ ?_
 with_reducible refine (commit_Who.calls a0_3 a0_4 a0_5 a0_6 t122 _ ?side1 A11.out).mono ?_
 (case side1 => exact GV.below hgv (hs_))
 rintro e w20 ⟨rfl, hb⟩; refine ⟨_, rfl, ?_⟩; replace BK119 := ab_ BK119 hb; replace HB := Aside0.mk (below_step (hs_) hb); (try clear hb)
 (try clear hb2)
 (try clear hk)
 (try clear hi)
 refine hK.out _ _ (bc8o BK119.out) (fun hHeld => ?_); clear hK K; refine norm_ (a' := ?_) ?_ ?_; rotate_left
 ·show Act.put _ (some 25) _ = _
  simp only [Act.put, List.setIfInBounds_toArray, List.set_cons_zero, List.set_cons_succ, i64_w, i32_w]; rfl
 refine pun_ 16 26 23 917503 ?_; refine pun_ 17 27 23 1048575 ?_; refine pun_ 20 30 23 2097151 ?_; refine pun_ 21 2 23 4194303 ?_; refine pun_ 22 3 23 8388607 ?_; refine dn_ ?_; try go_wp2
 go_ret2
 exact ⟨z3_, hs_⟩
def slices_Index_string_string.l0 : Nat → List ByteArray → ByteArray → Int → Int → Option (Int)
 | 0, _, _, _, _ => none
 | k + 1, x0, x1, x7, x8 => if x8 < x7 then (if 0 ≤ x8 then (if x8 < (x0.length : Int) then (if x1.toList = (rdOf ByteArray.empty x0 x8).toList then (some x8) else (slices_Index_string_string.l0 k x0 x1 x7 (wrap64 (x8 + 1)))) else (none)) else (none)) else (some (-1))
def slices_Index_string_string.f (k : Nat) (l0 : List ByteArray) (a1 : ByteArray) : Option (Int) := slices_Index_string_string.l0 k l0 a1 (l0.length : Int) 0
theorem slices_Index_string_string.mono_l : ∀ k, (∀ y0 y1 y2 y3, LeO (slices_Index_string_string.l0 k y0 y1 y2 y3) (slices_Index_string_string.l0 (k + 1) y0 y1 y2 y3))
 | 0 => fun _ _ _ _ r h => by simp [slices_Index_string_string.l0] at h
 | k + 1 => by
  have ih0 := slices_Index_string_string.mono_l k
  ·intro y0 y1 y2 y3
   unfold slices_Index_string_string.l0
   have m0_ := @ih0
   exact mz_
theorem slices_Index_string_string.mono : ∀ a0 a1 k, LeO (slices_Index_string_string.f k a0 a1) (slices_Index_string_string.f (k + 1) a0 a1) := by
 intro a0 a1 k; have ih0 := slices_Index_string_string.mono_l k; unfold slices_Index_string_string.f; have m0_ := @ih0; exact mz_
theorem slices_Index_string_string.calls (k : Nat) (A0 : Option Addr) (c0 : Nat) (l0 : List ByteArray) (a1 : ByteArray) (r : Int) (w : World) (hr0 : Kd.C Kd.string w A0 l0.length l0) (hc0 : l0.length ≤ c0) (h : slices_Index_string_string.f k l0 a1 = some r) :
  Calls Tryz.prog 151 #[.slice A0 l0.length c0, .string a1] w fun e w' => e = .returned (.int .i64 r) ∧ Drawn0 w w' := by
 have HR0 := Aside0.mk hr0; have HC0 := Aside0.mk hc0; clear hr0 hc0; unfold slices_Index_string_string.f at h; have H := h; clear h; have H' := Aside0.mk H; clear H; go_enter func151, ntmps151; go_wp2
 go_loopg [8] k (fun kq v8 w' => ∃ (x8_1 : Int), v8 = .int .i64 x8_1 ∧ Aside0 (slices_Index_string_string.l0 kq l0 a1 (l0.length : Int) x8_1 = some r) ∧ Aside0 (kq ≤ k) ∧ Drawn0 w w')
 case atStart => exact ⟨(0), z1_, H', ⟨Nat.le_refl _⟩, z2_⟩
 case round =>
  clear H'; try clear c1
  try clear p2
  obtain ⟨x8_1, rfl, HA, HK1, ⟨m1, rfl⟩⟩ := hrel
  cases gk with
  | zero => exact absurd HA.out (by simp [slices_Index_string_string.l0])
  | succ k1 =>
   have H := HA.out; clear HA; simp only [slices_Index_string_string.l0] at H; by_cases c3 : x8_1 < (l0.length : Int); rotate_left
   ·rw [if_neg c3] at H; have c3b0 := df_ c3; clear c3; obtain rfl := oi_ H; go_wp2
    go_ret
    exact ⟨z1_, z2_⟩
   rw [if_pos c3] at H; have c3b0 := dt_ c3; clear c3; by_cases c4 : 0 ≤ x8_1; rotate_left
   ·rw [if_neg c4] at H; exact no_ H
   rw [if_pos c4] at H; have c4b0 := dt_ c4; clear c4; by_cases c5 : x8_1 < (l0.length : Int); rotate_left
   ·rw [if_neg c5] at H; exact no_ H
   rw [if_pos c5] at H; have c5b0 := dt_ c5; clear c5; by_cases c6 : a1.toList = (rdOf ByteArray.empty l0 x8_1).toList
   ·rw [if_pos c6] at H; have c6b0 := et_ c6; have c6b1 := nf_ c6; clear c6; obtain rfl := oi_ H; have p190 : 0 ≤ (x8_1 : Int) := y0_; have q190 : x8_1 < (l0.length : Int) := y0_; obtain ⟨ad190, e190, hx190_0⟩ := Kd.at_string HR0.out x8_1 p190 q190
    cases e190
    replace p190 := eq_true p190; replace q190 := eq_true q190; go_wp2
    go_ret
    exact ⟨z1_, z2_⟩
   rw [if_neg c6] at H; have c6b0 := ef_ c6; have c6b1 := nt_ c6; have H' := Aside0.mk H; clear H; have p190 : 0 ≤ (x8_1 : Int) := y0_; have q190 : x8_1 < (l0.length : Int) := y0_; obtain ⟨ad190, e190, hx190_0⟩ := Kd.at_string HR0.out x8_1 p190 q190
   cases e190
   replace p190 := eq_true p190; replace q190 := eq_true q190; go_wp2
   go_roundg k1
   case measure => have := HK1.out; omega
   case rel => exact ⟨(wrap64 (x8_1 + 1)), z1_, H', ⟨by have := HK1.out; omega⟩, z2_⟩
def slices_Contains_string_string.f (k : Nat) (l0 : List ByteArray) (a1 : ByteArray) : Option (Bool) := (slices_Index_string_string.f k l0 a1).bind fun t191 => (some (decide (t191 ≥ 0)))
theorem slices_Contains_string_string.mono : ∀ a0 a1 k, LeO (slices_Contains_string_string.f k a0 a1) (slices_Contains_string_string.f (k + 1) a0 a1) := by
 intro a0 a1 k; unfold slices_Contains_string_string.f; have m0_ := @slices_Index_string_string.mono; exact mz_
theorem slices_Contains_string_string.calls (k : Nat) (A0 : Option Addr) (c0 : Nat) (l0 : List ByteArray) (a1 : ByteArray) (r : Bool) (w : World) (hr0 : Kd.C Kd.string w A0 l0.length l0) (hc0 : l0.length ≤ c0) (h : slices_Contains_string_string.f k l0 a1 = some r) :
  Calls Tryz.prog 95 #[.slice A0 l0.length c0, .string a1] w fun e w' => e = .returned (.bool r) ∧ Drawn0 w w' := by
 have HR0 := Aside0.mk hr0; have HC0 := Aside0.mk hc0; clear hr0 hc0; unfold slices_Contains_string_string.f at h; have H := h; clear h; obtain ⟨t191, A3, H⟩ := bx_ H; obtain rfl := oi_ H; go_enter func95, ntmps95; go_wp2_with (first | ((with_reducible refine gate_callee (f := 151) rfl ?_); refine gl_ (some 7) func151 #[.slice A0 l0.length c0, .string a1] ?_; (with_reducible refine (slices_Index_string_string.calls k _ _ l0 a1 t191 _ ?side1 ?side2 A3.out).mono ?_); (case side1 => repeat (first | exact HR0.out | (with_reducible refine Kd.C_alloc ?_ _) | (with_reducible refine Kd.C_drewN ?_ _) | (with_reducible refine Kd.C_drew ?_))); (case side2 => exact HC0.out); rintro e w' ⟨rfl, ⟨nd, rfl⟩⟩; refine ⟨_, rfl, ?_⟩)); go_ret
 exact ⟨z1_, z2_⟩
def tree_digits.f (a0 : Int) : Option (ByteArray) := if a0 = 1 then (some (⟨#[49, 48, 48, 54, 52, 52, 32]⟩ : ByteArray)) else (if a0 = 2 then (some (⟨#[49, 48, 48, 55, 53, 53, 32]⟩ : ByteArray)) else (if a0 = 3 then (some (⟨#[49, 50, 48, 48, 48, 48, 32]⟩ : ByteArray)) else (if a0 = 4 then (some (⟨#[52, 48, 48, 48, 48, 32]⟩ : ByteArray)) else (some (⟨#[]⟩ : ByteArray)))))
theorem tree_digits.calls (a0 : Int) (r : ByteArray) (w : World) (h : tree_digits.f a0 = some r) :
  Calls Tryz.prog 191 #[.int .i64 a0] w fun e w' => e = .returned (.string r) ∧ Drawn0 w w' := by
 unfold tree_digits.f at h; have H := h; clear h; by_cases c2 : a0 = 1
 ·rw [if_pos c2] at H; have c2b0 := et_ c2; have c2b1 := nf_ c2; clear c2; obtain rfl := oi_ H; go_enter func191, ntmps191; go_wp2
  go_ret
  exact ⟨z1_, z2_⟩
 rw [if_neg c2] at H; have c2b0 := ef_ c2; have c2b1 := nt_ c2; by_cases c3 : a0 = 2
 ·rw [if_pos c3] at H; have c3b0 := et_ c3; have c3b1 := nf_ c3; clear c3; obtain rfl := oi_ H; go_enter func191, ntmps191; go_wp2
  go_ret
  exact ⟨z1_, z2_⟩
 rw [if_neg c3] at H; have c3b0 := ef_ c3; have c3b1 := nt_ c3; by_cases c4 : a0 = 3
 ·rw [if_pos c4] at H; have c4b0 := et_ c4; have c4b1 := nf_ c4; clear c4; obtain rfl := oi_ H; go_enter func191, ntmps191; go_wp2
  go_ret
  exact ⟨z1_, z2_⟩
 rw [if_neg c4] at H; have c4b0 := ef_ c4; have c4b1 := nt_ c4; by_cases c5 : a0 = 4; rotate_left
 ·rw [if_neg c5] at H; have c5b0 := ef_ c5; have c5b1 := nt_ c5; obtain rfl := oi_ H; go_enter func191, ntmps191; go_wp2
  go_ret
  exact ⟨z1_, z2_⟩
 rw [if_pos c5] at H; have c5b0 := et_ c5; have c5b1 := nf_ c5; clear c5; obtain rfl := oi_ H; go_enter func191, ntmps191; go_wp2
 go_ret
 exact ⟨z1_, z2_⟩
def stringslite_HasPrefix.f (a0 : ByteArray) (a1 : ByteArray) : Option (Bool) := if (a0.size : Int) ≥ (a1.size : Int) then (if 0 ≤ (a1.size : Int) then (if (a1.size : Int) ≤ (a0.size : Int) then (some ((a0.extract 0 a1.size).toList == a1.toList)) else (none)) else (none)) else (some false)
theorem stringslite_HasPrefix.calls (a0 : ByteArray) (a1 : ByteArray) (r : Bool) (w : World) (h : stringslite_HasPrefix.f a0 a1 = some r) :
  Calls Tryz.prog 141 #[.string a0, .string a1] w fun e w' => e = .returned (.bool r) ∧ Drawn0 w w' := by
 unfold stringslite_HasPrefix.f at h; have H := h; clear h; by_cases c3 : (a0.size : Int) ≥ (a1.size : Int); rotate_left
 ·rw [if_neg c3] at H; have c3b0 := df_ c3; have c3b1 : decide (a1.size ≤ a0.size) = false := decide_eq_false (fun h => c3 (Int.ofNat_le.mpr h)); clear c3; obtain rfl := oi_ H; go_enter func141, ntmps141; go_wp2
  go_ret
  exact ⟨z1_, z2_⟩
 rw [if_pos c3] at H; have c3b0 := dt_ c3; have c3b1 : decide (a1.size ≤ a0.size) = true := decide_eq_true (Int.ofNat_le.mp c3); clear c3; by_cases c4 : 0 ≤ (a1.size : Int); rotate_left
 ·rw [if_neg c4] at H; exact no_ H
 rw [if_pos c4] at H; have c4b0 := eq_true c4; have c4b1 := dt_ c4; clear c4; by_cases c5 : (a1.size : Int) ≤ (a0.size : Int); rotate_left
 ·rw [if_neg c5] at H; exact no_ H
 rw [if_pos c5] at H; have c5b0 := eq_true c5; have c5b1 := dt_ c5; clear c5; obtain rfl := oi_ H; go_enter func141, ntmps141; go_wp2
 go_ret
 exact ⟨z1_, z2_⟩
def strings_HasPrefix.f (a0 : ByteArray) (a1 : ByteArray) : Option (Bool) := (stringslite_HasPrefix.f a0 a1).bind fun t192 => (some t192)
theorem strings_HasPrefix.calls (a0 : ByteArray) (a1 : ByteArray) (r : Bool) (w : World) (h : strings_HasPrefix.f a0 a1 = some r) :
  Calls Tryz.prog 71 #[.string a0, .string a1] w fun e w' => e = .returned (.bool r) ∧ Drawn0 w w' := by
 unfold strings_HasPrefix.f at h; have H := h; clear h; obtain ⟨t192, A3, H⟩ := bx_ H; obtain rfl := oi_ H; go_enter func71, ntmps71; go_wp2_with (first | ((with_reducible refine gate_callee (f := 141) rfl ?_); refine gl_ (some 7) func141 #[.string a0, .string a1] ?_; refine cm_ (stringslite_HasPrefix.calls a0 a1 t192 _ A3.out) ?_; rintro w' ⟨nd, rfl⟩)); go_ret
 exact ⟨z1_, z2_⟩
def stringslite_CutPrefix.f (a0 : ByteArray) (a1 : ByteArray) : Option (ByteArray × Bool) := (stringslite_HasPrefix.f a0 a1).bind fun t193 => (if t193 = true then (if 0 ≤ (a1.size : Int) then (if (a1.size : Int) ≤ (a0.size : Int) then (some (a0.extract a1.size a0.size, true)) else (none)) else (none)) else (some (a0, false)))
theorem stringslite_CutPrefix.calls (a0 : ByteArray) (a1 : ByteArray) (r1 : ByteArray) (r2 : Bool) (w : World) (h : stringslite_CutPrefix.f a0 a1 = some (r1, r2)) :
  Calls Tryz.prog 183 #[.string a0, .string a1] w fun e w' => e = .returned (.tuple #[.string r1, .bool r2]) ∧ Drawn0 w w' := by
 unfold stringslite_CutPrefix.f at h; have H := h; clear h; obtain ⟨t193, A3, H⟩ := bx_ H; by_cases c4 : t193 = true; rotate_left
 ·replace c4 := Bool.eq_false_iff.mpr c4; subst c4; rw [if_neg nft_] at H; obtain ⟨rfl, rfl⟩ := pj2_ H; go_enter func183, ntmps183; go_wp2_with (first | ((with_reducible refine gate_callee (f := 141) rfl ?_); refine gl_ (some 8) func141 #[.string a0, .string a1] ?_; refine cm_ (stringslite_HasPrefix.calls a0 a1 false _ A3.out) ?_; rintro w' ⟨nd, rfl⟩)); go_ret2
  exact ⟨z1_, z2_⟩
 subst c4; rw [if_pos rfl] at H; by_cases c5 : 0 ≤ (a1.size : Int); rotate_left
 ·rw [if_neg c5] at H; exact no_ H
 rw [if_pos c5] at H; have c5b0 := eq_true c5; have c5b1 := dt_ c5; clear c5; by_cases c6 : (a1.size : Int) ≤ (a0.size : Int); rotate_left
 ·rw [if_neg c6] at H; exact no_ H
 rw [if_pos c6] at H; have c6b0 := eq_true c6; have c6b1 := dt_ c6; clear c6; obtain ⟨rfl, rfl⟩ := pj2_ H; go_enter func183, ntmps183; go_wp2_with (first | ((with_reducible refine gate_callee (f := 141) rfl ?_); refine gl_ (some 8) func141 #[.string a0, .string a1] ?_; refine cm_ (stringslite_HasPrefix.calls a0 a1 true _ A3.out) ?_; rintro w' ⟨nd, rfl⟩)); go_ret2
 exact ⟨z1_, z2_⟩
def strings_CutPrefix.f (a0 : ByteArray) (a1 : ByteArray) : Option (ByteArray × Bool) := (stringslite_CutPrefix.f a0 a1).bind fun bt194 => (some (bt194.1, bt194.2))
theorem strings_CutPrefix.calls (a0 : ByteArray) (a1 : ByteArray) (r1 : ByteArray) (r2 : Bool) (w : World) (h : strings_CutPrefix.f a0 a1 = some (r1, r2)) :
  Calls Tryz.prog 142 #[.string a0, .string a1] w fun e w' => e = .returned (.tuple #[.string r1, .bool r2]) ∧ Drawn0 w w' := by
 unfold strings_CutPrefix.f at h; have H := h; clear h; obtain ⟨⟨t194, t195⟩, A3, H⟩ := bx_ H; dsimp only at H; obtain ⟨rfl, rfl⟩ := pj2_ H; go_enter func142, ntmps142; go_wp2_with (first | ((with_reducible refine gate_callee (f := 183) rfl ?_); refine gl_ (some 8) func183 #[.string a0, .string a1] ?_; refine cm_ (stringslite_CutPrefix.calls a0 a1 t194 t195 _ A3.out) ?_; rintro w' ⟨nd, rfl⟩)); go_ret2
 exact ⟨z1_, z2_⟩
def tree_mode.l0 : Nat → ByteArray → Bool → Int → Option (Int × ByteArray × Int)
 | 0, _, _, _ => none
 | k + 1, x0, x5, x6 => if x6 ≤ 4 then ((tree_digits.f x6).bind fun t115 => ((strings_CutPrefix.f x0 t115).bind fun bt116 => (if bt116.2 = true then (some (x6, bt116.1, 0)) else (if x5 = true then (tree_mode.l0 k x0 true (wrap64 (x6 + 1))) else ((tree_digits.f x6).bind fun t118 => ((strings_HasPrefix.f t118 x0).bind fun t119 => (tree_mode.l0 k x0 t119 (wrap64 (x6 + 1))))))))) else (if x5 = true then (some (0, (⟨#[]⟩ : ByteArray), 3)) else (some (0, (⟨#[]⟩ : ByteArray), 2)))
def tree_mode.f (k : Nat) (a0 : ByteArray) : Option (Int × ByteArray × Int) := tree_mode.l0 k a0 false 1
theorem tree_mode.mono_l : ∀ k, (∀ y0 y1 y2, LeO (tree_mode.l0 k y0 y1 y2) (tree_mode.l0 (k + 1) y0 y1 y2))
 | 0 => fun _ _ _ r h => by simp [tree_mode.l0] at h
 | k + 1 => by
  have ih0 := tree_mode.mono_l k
  ·intro y0 y1 y2
   unfold tree_mode.l0
   have m0_ := @ih0
   exact mz_
theorem tree_mode.mono : ∀ a0 k, LeO (tree_mode.f k a0) (tree_mode.f (k + 1) a0) := by
 intro a0 k; have ih0 := tree_mode.mono_l k; unfold tree_mode.f; have m0_ := @ih0; exact mz_
theorem tree_mode.calls (k : Nat) (a0 : ByteArray) (r1 : Int) (r2 : ByteArray) (r3 : Int) (w : World) (h : tree_mode.f k a0 = some (r1, r2, r3)) :
  Calls Tryz.prog 148 #[.string a0] w fun e w' => e = .returned (.tuple #[.int .i64 r1, .string r2, .int .i64 r3]) ∧ Drawn0 w w' := by
 unfold tree_mode.f at h; have H := h; clear h; have H' := Aside0.mk H; clear H; go_enter func148, ntmps148; go_wp2
 go_loopg [5, 6] k (fun kq v5 v6 w' => ∃ (x5_1 : Bool) (x6_1 : Int), v5 = .bool x5_1 ∧ v6 = .int .i64 x6_1 ∧ Aside0 (tree_mode.l0 kq a0 x5_1 x6_1 = some (r1, r2, r3)) ∧ Aside0 (kq ≤ k) ∧ Drawn0 w w')
 case atStart => exact ⟨(false), (1), z1_, z1_, H', ⟨Nat.le_refl _⟩, z2_⟩
 case round =>
  clear H'; try clear c1
  obtain ⟨x5_1, x6_1, rfl, rfl, HA, HK1, ⟨m1, rfl⟩⟩ := hrel
  cases gk with
  | zero => exact absurd HA.out (by simp [tree_mode.l0])
  | succ k1 =>
   have H := HA.out; clear HA; simp only [tree_mode.l0] at H; by_cases c2 : x6_1 ≤ 4; rotate_left
   ·rw [if_neg c2] at H; have c2b0 := df_ c2; clear c2; by_cases c9 : x5_1 = true
    ·subst c9; rw [if_pos rfl] at H; obtain ⟨rfl, rfl, rfl⟩ := pj3_ H; go_wp2
     go_ret3
     exact ⟨z1_, z2_⟩
    replace c9 := Bool.eq_false_iff.mpr c9; subst c9; rw [if_neg nft_] at H; obtain ⟨rfl, rfl, rfl⟩ := pj3_ H; go_wp2
    go_ret3
    exact ⟨z1_, z2_⟩
   rw [if_pos c2] at H; have c2b0 := dt_ c2; clear c2; obtain ⟨t115, A3, H⟩ := bx_ H; obtain ⟨⟨t116, t117⟩, A4, H⟩ := bx_ H; dsimp only at H; by_cases c5 : t117 = true
   ·subst c5; rw [if_pos rfl] at H; obtain ⟨rfl, rfl, rfl⟩ := pj3_ H; go_wp2_with (first | ((with_reducible refine gate_callee (f := 191) rfl ?_); refine gl_ (some 16) func191 #[.int .i64 x6_1] ?_; refine cm_ (tree_digits.calls x6_1 t115 _ A3.out) ?_; rintro w' ⟨nd, rfl⟩) | ((with_reducible refine gate_callee (f := 142) rfl ?_); refine gl_ (some 17) func142 #[.string a0, .string t115] ?_; refine cm_ (strings_CutPrefix.calls a0 t115 t116 true _ A4.out) ?_; rintro w' ⟨nd, rfl⟩)); go_ret3
    exact ⟨z1_, z2_⟩
   replace c5 := Bool.eq_false_iff.mpr c5; subst c5; rw [if_neg nft_] at H; by_cases c6 : x5_1 = true
   ·subst c6; rw [if_pos rfl] at H; have H' := Aside0.mk H; clear H; go_wp2_with (first | ((with_reducible refine gate_callee (f := 191) rfl ?_); refine gl_ (some 16) func191 #[.int .i64 x6_1] ?_; refine cm_ (tree_digits.calls x6_1 t115 _ A3.out) ?_; rintro w' ⟨nd, rfl⟩) | ((with_reducible refine gate_callee (f := 142) rfl ?_); refine gl_ (some 17) func142 #[.string a0, .string t115] ?_; refine cm_ (strings_CutPrefix.calls a0 t115 t116 false _ A4.out) ?_; rintro w' ⟨nd, rfl⟩)); go_roundg k1
    case measure => have := HK1.out; omega
    case rel => exact ⟨(true), (wrap64 (x6_1 + 1)), z1_, z1_, H', ⟨by have := HK1.out; omega⟩, z2_⟩
   replace c6 := Bool.eq_false_iff.mpr c6; subst c6; rw [if_neg nft_] at H; obtain ⟨t118, A7, H⟩ := bx_ H; obtain ⟨t119, A8, H⟩ := bx_ H; have H' := Aside0.mk H; clear H; have tk11_ : True := trivial; have tk12_ : True := trivial; go_wp2_with (first | (have _t := tk11_; (with_reducible refine gate_callee (f := 191) rfl ?_); refine gl_ (some 16) func191 #[.int .i64 x6_1] ?_; refine cm_ (tree_digits.calls x6_1 t115 _ A3.out) ?_; rintro w' ⟨nd, rfl⟩; clear tk11_) | ((with_reducible refine gate_callee (f := 142) rfl ?_); refine gl_ (some 17) func142 #[.string a0, .string t115] ?_; refine cm_ (strings_CutPrefix.calls a0 t115 t116 false _ A4.out) ?_; rintro w' ⟨nd, rfl⟩) | (go_at_call 191; have _t := tk12_; (with_reducible refine (tree_digits.calls x6_1 t118 _ A7.out).mono ?_); rintro e w' ⟨rfl, ⟨nd, rfl⟩⟩; clear tk12_) | (go_at_call 71; (with_reducible refine (strings_HasPrefix.calls t118 a0 t119 _ A8.out).mono ?_); rintro e w' ⟨rfl, ⟨nd, rfl⟩⟩)); go_roundg k1
   case measure => have := HK1.out; omega
   case rel => exact ⟨(t119), (wrap64 (x6_1 + 1)), z1_, z1_, H', ⟨by have := HK1.out; omega⟩, z2_⟩
def tree_key.f (a0_0 : Int) (a0_1 : ByteArray) (a0_2 : ByteArray) : Option (ByteArray) := if a0_0 = 4 then (if a0_1.size + 1 ≤ 9223372036854775807 then (some (a0_1 ++ (⟨#[47]⟩ : ByteArray))) else (none)) else (some a0_1)
theorem tree_key.calls (a0_0 : Int) (a0_1 : ByteArray) (a0_2 : ByteArray) (r : ByteArray) (w : World) (h : tree_key.f a0_0 a0_1 a0_2 = some r) :
  Calls Tryz.prog 231 #[.agg #[.int .i64 a0_0, .string a0_1, .string a0_2]] w fun e w' => e = .returned (.string r) ∧ Below w.heap.size w w' := by
 have hu108 := underlying108; have HB := Aside0.mk (Below.refl w.heap.size w); unfold tree_key.f at h; have H := h; clear h; by_cases c2 : a0_0 = 4; rotate_left
 ·rw [if_neg c2] at H; have c2b0 := ef_ c2; have c2b1 := nt_ c2; obtain rfl := oi_ H; go_enter func231, ntmps231; go_wp2_with (first | ((with_reducible refine gate_dst (N := 1) rfl ?_); refine be_ (cs := #[.int .i64 a0_0, .string a0_1, .string a0_2]) (t := 108) ?_; intro gb205 hg w6 hbox hb; have BK205 := Aside0.mk (hbox); have GW205 := ag_ hg HB; have GE205 := ag_ hg HB; replace HB := ah_ HB hb; clear hb hbox hg; obtain ⟨Z7_0, Z7_1, Z7_2, F7⟩ := bc3 BK205.out)); go_ret
  exact ⟨z3_, hs_⟩
 rw [if_pos c2] at H; have c2b0 := et_ c2; have c2b1 := nf_ c2; clear c2; by_cases c3 : a0_1.size + 1 ≤ 9223372036854775807; rotate_left
 ·rw [if_neg c3] at H; exact no_ H
 rw [if_pos c3] at H; have c3b0 := eq_true c3; have c3b1 := dt_ c3; try have c3b2 := nl_ c3
 obtain rfl := oi_ H; go_enter func231, ntmps231; go_wp2_with (first | ((with_reducible refine gate_dst (N := 1) rfl ?_); refine be_ (cs := #[.int .i64 a0_0, .string a0_1, .string a0_2]) (t := 108) ?_; intro gb205 hg w4 hbox hb; have BK205 := Aside0.mk (hbox); have GW205 := ag_ hg HB; have GE205 := ag_ hg HB; replace HB := ah_ HB hb; clear hb hbox hg; obtain ⟨Z5_0, Z5_1, Z5_2, F5⟩ := bc3 BK205.out)); go_ret
 exact ⟨z3_, hs_⟩
def tree_Less.f (a0_0 : Int) (a0_1 : ByteArray) (a0_2 : ByteArray) (a1_0 : Int) (a1_1 : ByteArray) (a1_2 : ByteArray) : Option (Bool) := (tree_key.f a0_0 a0_1 a0_2).bind fun t177 => ((tree_key.f a1_0 a1_1 a1_2).bind fun t178 => (some (Op.bytesLess t177.toList t178.toList)))
theorem tree_Less.calls (a0_0 : Int) (a0_1 : ByteArray) (a0_2 : ByteArray) (a1_0 : Int) (a1_1 : ByteArray) (a1_2 : ByteArray) (r : Bool) (w : World) (h : tree_Less.f a0_0 a0_1 a0_2 a1_0 a1_1 a1_2 = some r) :
  Calls Tryz.prog 193 #[.agg #[.int .i64 a0_0, .string a0_1, .string a0_2], .agg #[.int .i64 a1_0, .string a1_1, .string a1_2]] w fun e w' => e = .returned (.bool r) ∧ Below w.heap.size w w' := by
 have hu108 := underlying108; have HB := Aside0.mk (Below.refl w.heap.size w); unfold tree_Less.f at h; have H := h; clear h; obtain ⟨t177, A3, H⟩ := bx_ H; obtain ⟨t178, A4, H⟩ := bx_ H; obtain rfl := oi_ H; go_enter func193, ntmps193; try go_wp2_with (first | ((with_reducible refine gate_dst (N := 2) rfl ?_); refine be_ (cs := #[.int .i64 a0_0, .string a0_1, .string a0_2]) (t := 108) ?_; intro gb175 hg w5 hbox hb; have BK175 := Aside0.mk (hbox); have GW175 := ag_ hg HB; have GE175 := ag_ hg HB; replace HB := ah_ HB hb; clear hb hbox hg) | ((with_reducible refine gate_dst (N := 3) rfl ?_); refine be_ (cs := #[.int .i64 a1_0, .string a1_1, .string a1_2]) (t := 108) ?_; intro gb176 hg w6 hbox hb; have BK176 := Aside0.mk (hbox); have GW176 := Aside0.mk ((by rw [hg]; exact (below_size (hs_)) : w.heap.size ≤ gb176)); have GE176 := Aside0.mk ((by rw [hg]; exact (below_size (hs_)) : w.heap.size ≤ gb176)); replace HB := Aside0.mk (below_step (hs_) hb); have NB175_176 := Aside0.mk (nl2_ hg BK175.out); have NB176_175 := Aside0.mk (ng2_ hg BK175.out); replace BK175 := ab_ BK175 hb; clear hb hbox hg)); replace BK175 := ad_ BK175; replace BK176 := ad_ BK176; replace HB := hd_ HB; refine start_ (n := 6) (S := fun w' => w'.cell? ⟨gb175, 0, none⟩ = some (.int .i64 a0_0) ∧ w'.cell? ⟨gb175, 1, none⟩ = some (.string a0_1) ∧ w'.cell? ⟨gb175, 2, none⟩ = some (.string a0_2) ∧ w'.cell? ⟨gb176, 0, none⟩ = some (.int .i64 a1_0) ∧ w'.cell? ⟨gb176, 1, none⟩ = some (.string a1_1) ∧ w'.cell? ⟨gb176, 2, none⟩ = some (.string a1_2)) (ds := []) (bs 6 0) (by kernel_rfl) rfl rfl ⟨(blk_cell BK175.out 0).trans rfl, (blk_cell BK175.out 1).trans rfl, (blk_cell BK175.out 2).trans rfl, (blk_cell BK176.out 0).trans rfl, (blk_cell BK176.out 1).trans rfl, (blk_cell BK176.out 2).trans rfl⟩ (fun hHeld => ?_); generalize w6.drew = w7 at BK175 BK176 HB hHeld ⊢; refine tkK6n_ 0 5 6 1 hHeld ?_; refine tkK6n_ 2 7 6 5 hHeld ?_; refine one_ (i := 1) (N := some 6) (bs 6 7) rfl rfl (by kernel_rfl) (by decide) (fun K hK => ?_); refine goes_ func231 (by kernel_rfl) rfl #[.agg #[.int .i64 a0_0, .string a0_1, .string a0_2]] (by rfl) rfl rfl z5_ ?_
 with_reducible refine (tree_key.calls a0_0 a0_1 a0_2 t177 _ A3.out).mono ?_
 rintro e w8 ⟨rfl, hb⟩; refine ⟨_, rfl, ?_⟩; replace BK175 := ab_ BK175 hb; replace BK176 := ab_ BK176 hb; replace HB := Aside0.mk (below_step (hs_) hb); (try clear hb)
 (try clear hb2)
 (try clear hk)
 (try clear hi)
 refine hK.out _ _ ⟨(blk_cell BK175.out 0).trans rfl, (blk_cell BK175.out 1).trans rfl, (blk_cell BK175.out 2).trans rfl, (blk_cell BK176.out 0).trans rfl, (blk_cell BK176.out 1).trans rfl, (blk_cell BK176.out 2).trans rfl⟩ (fun hHeld => ?_); clear hK K; refine norm_ (a' := ?_) ?_ ?_; rotate_left
 ·show Act.put _ (some 6) _ = _
  simp only [Act.put, List.setIfInBounds_toArray, List.set_cons_zero, List.set_cons_succ, i64_w, i32_w]; rfl
 refine one_ (i := 3) (N := some 8) (bs 6 15) rfl rfl (by kernel_rfl) (by decide) (fun K hK => ?_); refine goes_ func231 (by kernel_rfl) rfl #[.agg #[.int .i64 a1_0, .string a1_1, .string a1_2]] (by rfl) rfl rfl z5_ ?_
 with_reducible refine (tree_key.calls a1_0 a1_1 a1_2 t178 _ A4.out).mono ?_
 rintro e w9 ⟨rfl, hb⟩; refine ⟨_, rfl, ?_⟩; replace BK175 := ab_ BK175 hb; replace BK176 := ab_ BK176 hb; replace HB := Aside0.mk (below_step (hs_) hb); (try clear hb)
 (try clear hb2)
 (try clear hk)
 (try clear hi)
 refine hK.out _ _ ⟨(blk_cell BK175.out 0).trans rfl, (blk_cell BK175.out 1).trans rfl, (blk_cell BK175.out 2).trans rfl, (blk_cell BK176.out 0).trans rfl, (blk_cell BK176.out 1).trans rfl, (blk_cell BK176.out 2).trans rfl⟩ (fun hHeld => ?_); clear hK K; refine norm_ (a' := ?_) ?_ ?_; rotate_left
 ·show Act.put _ (some 8) _ = _
  simp only [Act.put, List.setIfInBounds_toArray, List.set_cons_zero, List.set_cons_succ, i64_w, i32_w]; rfl
 refine pkn_ 4 9 6 31 ?_; refine pkn_ 5 4 6 63 ?_; refine done_ (by kernel_rfl) ?_; try go_wp2
 go_ret
 exact ⟨z3_, hs_⟩
def tree_may.f (k : Nat) (a0_0 : Int) (a0_1 : ByteArray) (a0_2 : ByteArray) : Option (Bool) := if a0_0 ≥ 1 then (if a0_0 ≤ 4 then ((path_Is.f k a0_1).bind fun t121 => (if t121 = true then ((strings_Contains2.f a0_1 ⟨#[47]⟩).bind fun t122 => (if t122 = true then (some false) else ((ident_Is.f k a0_2).bind fun t123 => (some t123)))) else (some false))) else (some false)) else (some false)
theorem tree_may.mono : ∀ a0 a1 a2 k, LeO (tree_may.f k a0 a1 a2) (tree_may.f (k + 1) a0 a1 a2) := by
 intro a0 a1 a2 k; unfold tree_may.f; have m0_ := @ident_Is.mono; have m1_ := @path_Is.mono; exact mz_
theorem tree_may.calls (k : Nat) (a0_0 : Int) (a0_1 : ByteArray) (a0_2 : ByteArray) (r : Bool) (w : World) (hgv : GV w) (h : tree_may.f k a0_0 a0_1 a0_2 = some r) :
  Calls Tryz.prog 192 #[.agg #[.int .i64 a0_0, .string a0_1, .string a0_2]] w fun e w' => e = .returned (.bool r) ∧ Below w.heap.size w w' := by
 have hu108 := underlying108; have HB := Aside0.mk (Below.refl w.heap.size w); unfold tree_may.f at h; have H := h; clear h; by_cases c2 : a0_0 ≥ 1; rotate_left
 ·rw [if_neg c2] at H; have c2b0 := df_ c2; clear c2; obtain rfl := oi_ H; go_enter func192, ntmps192; go_wp2_with (first | ((with_reducible refine gate_dst (N := 1) rfl ?_); refine be_ (cs := #[.int .i64 a0_0, .string a0_1, .string a0_2]) (t := 108) ?_; intro gb120 hg w22 hbox hb; have BK120 := Aside0.mk (hbox); have GW120 := ag_ hg HB; have GE120 := ag_ hg HB; replace HB := ah_ HB hb; clear hb hbox hg; obtain ⟨Z23_0, Z23_1, Z23_2, F23⟩ := bc3 BK120.out)); go_ret
  exact ⟨z3_, hs_⟩
 rw [if_pos c2] at H; have c2b0 := dt_ c2; clear c2; by_cases c3 : a0_0 ≤ 4; rotate_left
 ·rw [if_neg c3] at H; have c3b0 := df_ c3; clear c3; obtain rfl := oi_ H; go_enter func192, ntmps192; go_wp2_with (first | ((with_reducible refine gate_dst (N := 1) rfl ?_); refine be_ (cs := #[.int .i64 a0_0, .string a0_1, .string a0_2]) (t := 108) ?_; intro gb120 hg w20 hbox hb; have BK120 := Aside0.mk (hbox); have GW120 := ag_ hg HB; have GE120 := ag_ hg HB; replace HB := ah_ HB hb; clear hb hbox hg; obtain ⟨Z21_0, Z21_1, Z21_2, F21⟩ := bc3 BK120.out)); go_ret
  exact ⟨z3_, hs_⟩
 rw [if_pos c3] at H; have c3b0 := dt_ c3; clear c3; obtain ⟨t121, A4, H⟩ := bx_ H; by_cases c5 : t121 = true; rotate_left
 ·replace c5 := Bool.eq_false_iff.mpr c5; subst c5; rw [if_neg nft_] at H; obtain rfl := oi_ H; go_enter func192, ntmps192; go_wp2_with (first | ((with_reducible refine gate_dst (N := 1) rfl ?_); refine be_ (cs := #[.int .i64 a0_0, .string a0_1, .string a0_2]) (t := 108) ?_; intro gb120 hg w17 hbox hb; have BK120 := Aside0.mk (hbox); have GW120 := ag_ hg HB; have GE120 := ag_ hg HB; replace HB := ah_ HB hb; clear hb hbox hg; obtain ⟨Z18_0, Z18_1, Z18_2, F18⟩ := bc3 BK120.out) | (go_at_call 156; (with_reducible refine (path_Is.calls k a0_1 false _ A4.out).mono ?_); rintro e w19 ⟨rfl, hb⟩; replace BK120 := ab_ BK120 hb; replace HB := Aside0.mk (below_step (hs_) hb); (try clear hb); (try clear hb2); (try clear hk); (try clear hi)))
  go_ret
  exact ⟨z3_, hs_⟩
 subst c5; rw [if_pos rfl] at H; obtain ⟨t122, A6, H⟩ := bx_ H; by_cases c7 : t122 = true
 ·subst c7; rw [if_pos rfl] at H; obtain rfl := oi_ H; go_enter func192, ntmps192; go_wp2_with (first | ((with_reducible refine gate_dst (N := 1) rfl ?_); refine be_ (cs := #[.int .i64 a0_0, .string a0_1, .string a0_2]) (t := 108) ?_; intro gb120 hg w8 hbox hb; have BK120 := Aside0.mk (hbox); have GW120 := ag_ hg HB; have GE120 := ag_ hg HB; replace HB := ah_ HB hb; clear hb hbox hg; obtain ⟨Z9_0, Z9_1, Z9_2, F9⟩ := bc3 BK120.out) | (go_at_call 156; (with_reducible refine (path_Is.calls k a0_1 true _ A4.out).mono ?_); rintro e w10 ⟨rfl, hb⟩; replace BK120 := ab_ BK120 hb; replace HB := Aside0.mk (below_step (hs_) hb); (try clear hb); (try clear hb2); (try clear hk); (try clear hi); obtain ⟨Z11_0, Z11_1, Z11_2, F11⟩ := bc3 BK120.out) | (go_at_call 68; (with_reducible refine (strings_Contains2.calls a0_1 ⟨#[47]⟩ true _ ?side1 A6.out).mono ?_); (case side1 => exact GV.below hgv (hs_)); rintro e w' ⟨rfl, ⟨nd, rfl⟩⟩)); go_ret
  exact ⟨z3_, hs_⟩
 replace c7 := Bool.eq_false_iff.mpr c7; subst c7; rw [if_neg nft_] at H; obtain ⟨t123, A12, H⟩ := bx_ H; obtain rfl := oi_ H; go_enter func192, ntmps192; go_wp2_with (first | ((with_reducible refine gate_dst (N := 1) rfl ?_); refine be_ (cs := #[.int .i64 a0_0, .string a0_1, .string a0_2]) (t := 108) ?_; intro gb120 hg w13 hbox hb; have BK120 := Aside0.mk (hbox); have GW120 := ag_ hg HB; have GE120 := ag_ hg HB; replace HB := ah_ HB hb; clear hb hbox hg; obtain ⟨Z14_0, Z14_1, Z14_2, F14⟩ := bc3 BK120.out) | (go_at_call 156; (with_reducible refine (path_Is.calls k a0_1 true _ A4.out).mono ?_); rintro e w15 ⟨rfl, hb⟩; replace BK120 := ab_ BK120 hb; replace HB := Aside0.mk (below_step (hs_) hb); (try clear hb); (try clear hb2); (try clear hk); (try clear hi); obtain ⟨Z16_0, Z16_1, Z16_2, F16⟩ := bc3 BK120.out) | (go_at_call 68; (with_reducible refine (strings_Contains2.calls a0_1 ⟨#[47]⟩ false _ ?side1 A6.out).mono ?_); (case side1 => exact GV.below hgv (hs_)); rintro e w' ⟨rfl, ⟨nd, rfl⟩⟩) | (go_at_call 65; (with_reducible refine (ident_Is.calls k a0_2 t123 _ A12.out).mono ?_); rintro e w' ⟨rfl, ⟨nd, rfl⟩⟩)); go_ret
 exact ⟨z3_, hs_⟩
end Go.Proofs.YtbhfbbfjdklfgaaGreatDoor.Q
namespace Go.Proofs.YtbhfbbfjdklfgaaGreatDoor.Q
open Go.Proofs.Tryz Go.RowKit Go.Maps Go.Proofs.YtbhfbbfjdklfgaaGreatDoorW.PrintWords Go.Proofs.YtbhfbbfjdklfgaaGreatDoorW.PrintLast Go.Proofs.YtbhfbbfjdklfgaaGreatDoorW.PrintMore
structure MSI where
  n : Nat
  f : List UInt8 → Option Int
def MSI.nil : MSI := ⟨0, fun _ => none⟩
def MSI.get (m : MSI) (k : ByteArray) : Int := (m.f k.data.toList).getD 0
def MSI.has (m : MSI) (k : ByteArray) : Bool := (m.f k.data.toList).isSome
def MSI.put (m : MSI) (k : ByteArray) (v : Int) : MSI := ⟨m.n + 1, fun x => if x = k.data.toList then some v else m.f x⟩
def IsS176 (w0 W : World) (g : Nat) (f0 : MSI) : Prop := w0.heap.size ≤ g ∧ ∃ D : DataW Unit, W.ownsMap Tryz.prog 9 (plainElem Tryz.prog 3) g f0.n D ∧
  ∀ s : List UInt8, s.length ≤ maxLen → D.atKey (.string s) (.lit (.int .i64 0)) = .lit (.int .i64 ((f0.f s).getD 0)) ∧ Maps.has D (.string s) = (f0.f s).isSome
theorem mapLaw : Keyed Tryz.prog 9 := string_keyed underlying9
theorem mapZero (w : World) : (zeroValue 3).run Tryz.prog w = .ok (.int .i64 0) w := by kernel_rfl
section
variable {w0 W W1 : World} {g : Nat} {f0 : MSI}
theorem IsS176.block (h : IsS176 w0 W g f0) : ∃ es clock, W.heap[g]? = some (.map es clock) := by
  obtain ⟨_, D, ⟨es, c, hb, _⟩, _⟩ := h
  exact ⟨es, c, hb⟩
theorem IsS176.grown {row : Option Nat} (h : IsS176 w0 W g f0) (hw : W.grownBy W1 row) (hne : some g ≠ row) : IsS176 w0 W1 g f0 := by
  obtain ⟨h0, D, h1, h2⟩ := h
  exact ⟨h0, D, h1.kept hw hne, h2⟩
theorem IsS176.below (h : IsS176 w0 W g f0) (hw : Below W.heap.size W W1) : IsS176 w0 W1 g f0 := h.grown (grown_of_below hw none) (by simp)
theorem IsS176.alloc (h : IsS176 w0 W g f0) (o : Obj) : IsS176 w0 (W.alloc o) g f0 := h.below (below_alloc (Below.refl _ _) o)
theorem IsS176.drewN (h : IsS176 w0 W g f0) (m : Nat) : IsS176 w0 (W.drewN m) g f0 := h
theorem IsS176.drew (h : IsS176 w0 W g f0) : IsS176 w0 W.drew g f0 := h
theorem IsS176.at_ {m : Nat} (hq : W.drewN m = W1) (h : IsS176 w0 W g f0) : IsS176 w0 W1 g f0 := by subst hq; exact h
theorem IsS176.ge (h : IsS176 w0 W g f0) : w0.heap.size ≤ g := h.1
theorem IsS176.lt (h : IsS176 w0 W g f0) : g < W.heap.size := by
  obtain ⟨_, D, h1, _⟩ := h
  exact h1.lt
theorem IsS176.fresh (h : IsS176 w0 W g f0) : ∀ k, W.heap.size ≤ k → k ≠ g := fun k hk e => by have := h.lt; omega
theorem IsS176.far {p : Addr} (h : IsS176 w0 W g f0) (hne : g ≠ p.block) (u : Value) : IsS176 w0 (W.setCell p u) g f0 := by
  obtain ⟨h0, D, h1, h2⟩ := h
  exact ⟨h0, D, h1.setCell hne u, h2⟩
theorem IsS176.apart {α : Type} {d : Kd α} {e : Nat} {base : Nat} {ok : Nat → Prop} {v : Value} {xs : List α} (h : IsS176 w0 W g f0) (ho : d.R e W base ok v xs) (ht : ∀ q, q ∈ e :: d.E → q ≠ 176) : d.R e W base (fun k => ok k ∧ k ≠ g) v xs := by
  obtain ⟨es, c, hb⟩ := h.block
  refine Kd.R_mono (Kd.R_bound ho) (fun k hk => ⟨hk.1, ?_⟩)
  rintro rfl
  obtain ⟨_, _, _, q, _, cells, hc⟩ := hk
  rw [hc] at hb
  cases hb
theorem IsS176.own_ne {α : Type} {d : Kd α} {e : Nat} {base : Nat} {ok : Nat → Prop} {v : Value} {xs : List α} (h : IsS176 w0 W g f0) (ho : d.R e W base ok v xs) (ht : e ≠ 176) : some g ≠ v.ownBlock := by
  obtain ⟨es, c, hb⟩ := h.block
  intro he
  obtain ⟨_, _, _, q, _, cells, hc⟩ := (Kd.R_bound ho).1 g he.symm
  rw [hc] at hb
  cases hb
theorem IsS176.made (hb : W.ownsMap Tryz.prog 9 (plainElem (H := Unit) Tryz.prog 3) g 0 (.map [])) (hg : w0.heap.size ≤ g) : IsS176 w0 W g MSI.nil :=
  ⟨hg, .map [], hb, fun s hs => ⟨by simp [DataW.atKey, MSI.nil], by simp [Maps.has, MSI.nil]⟩⟩
end
section
variable {ops : Array Oper} {rest : List Oper} {o : Oper} {a : Act} {Q : Exit → Act → World → Prop} {w0 W : World} {g : Nat} {f0 : MSI}
theorem mkmap_event (hgd : o.guard = none) {N : Tmp} (hd : o.dst = some N) (hop : o.op = .makeMap 176 none)
    (h : ∀ g, g = W.heap.size → ∀ w1, w1.ownsMap Tryz.prog 9 (plainElem (H := Unit) Tryz.prog 3) g 0 (.map []) → Below W.heap.size W w1 → wpList Tryz.prog ops Q rest (a.put o.dst (.map (some g))) w1) : wpList Tryz.prog ops Q (o :: rest) a W := by
  have hmm := @run_makeMap Tryz.prog
  refine Kd.event_run hgd (v := .map (some W.heap.size)) (w1 := W.alloc (.map #[] 0)) ?_ (h _ rfl _ (World.ownsMap_made _ _ _ _) (below_alloc (Below.refl _ _) _))
  simp [execOp, hop, hmm, Result.andThen]
theorem IsS176.look {m x : Operand} {k : ByteArray} (h : IsS176 w0 W g f0) (hgd : o.guard = none) (hop : o.op = .lookup 176 m x false) (hm : a.eval m = .map (some g)) (hx : a.eval x = .string k) (hs : k.size ≤ 9223372036854775807)
    (K : wpList Tryz.prog ops Q rest (a.put o.dst (.int .i64 (MSI.get f0 k))) W) : wpList Tryz.prog ops Q (o :: rest) a W := by
  obtain ⟨h0, D, h1, h2⟩ := h
  refine wpList_lookup_own_int _ hgd m x 176 hop 9 3 .i64 mapLaw underlying176 underlying3 (mapZero _) g f0.n D hm h1 _ _ hx (WideMaps.keyOf_string_mk underlying9 (by unfold maxLen; exact hs)) ?_
  intro c hat hwc
  have := (h2 k.data.toList (by unfold maxLen; exact hs)).1
  rw [this] at hat
  have e : c = MSI.get f0 k := by
    injection hat with hat
    injection hat with _ hat
    exact hat.symm
  rw [e]
  exact K
theorem IsS176.put_ {m x v : Operand} {k : ByteArray} {n : Int} (h : IsS176 w0 W g f0) (hgd : o.guard = none) (hop : o.op = .mapUpdate 176 m x v) (hm : a.eval m = .map (some g)) (hx : a.eval x = .string k) (hv : a.eval v = .int .i64 n) (hs : k.size ≤ 9223372036854775807) (hn : f0.n < 4611686018427387904) (hw : (Lit.int .i64 n).wf = true)
    (K : ∀ w1, IsS176 w0 w1 g (MSI.put f0 k n) → W.grownBy w1 (some g) → wpList Tryz.prog ops Q rest (a.put o.dst undef) w1) : wpList Tryz.prog ops Q (o :: rest) a W := by
  obtain ⟨h0, D, h1, h2⟩ := h
  have hk : keyOf Tryz.prog 9 (.string k) = some (.string k.data.toList) := WideMaps.keyOf_string_mk underlying9 (by unfold maxLen; exact hs)
  refine wpList_mapUpdate_own _ hgd m x v 176 hop 9 3 mapLaw underlying176 _ g f0.n D hm h1 (by unfold maxLen; omega) _ _ _ hx hv hk _ [] (plainElem_int underlying3 hw) ?_
  intro w1 hown hg
  refine K w1 ⟨h0, _, hown, fun s hl => ?_⟩ hg
  have hD : IsMap D := by
    obtain ⟨es, c, _, _, _, rfl⟩ := h1
    exact ⟨_, rfl⟩
  have hkl : WideAt.IsKeyLit (.string k.data.toList) := trivial
  by_cases e : s = k.data.toList
  · subst e
    refine ⟨?_, ?_⟩
    · rw [atKey_put_same hD hkl]; simp [MSI.put]
    · rw [has_put_same hD hkl]; simp [MSI.put]
  · have hne : (Lit.string s) ≠ .string k.data.toList := fun h => e (by injection h)
    have := h2 s hl
    refine ⟨?_, ?_⟩
    · rw [atKey_put_other hne, this.1]; simp [MSI.put, e]
    · rw [has_put_other hne, this.2]; simp [MSI.put, e]
end
end Go.Proofs.YtbhfbbfjdklfgaaGreatDoor.Q
namespace Go.Proofs.YtbhfbbfjdklfgaaGreatDoor.Q
open Go.Proofs.Tryz Go.RowKit Go.Proofs.YtbhfbbfjdklfgaaGreatDoorW.PrintWords Go.Proofs.YtbhfbbfjdklfgaaGreatDoorW.PrintLast Go.Proofs.YtbhfbbfjdklfgaaGreatDoorW.PrintMore
attribute [local go_sem] max2_int min2_int max_two min_two max_three min_three max_four min_four
mutual
def tree_Check.l0 : Nat → List (S108) → List (S108) → Int → Int → MSI → Option (Int)
 | 0, _, _, _, _, _ => none
 | k + 1, x0, x10, x11, x12, x102000 => if x12 < x11 then (if 0 ≤ x12 then (if x12 < (x10.length : Int) then (if ((rd_T108 x10 x12).f1).size ≤ 9223372036854775807 then (if x102000.n < 4611686018427387904 then ((tree_may.f k ((rd_T108 x10 x12).f0) ((rd_T108 x10 x12).f1) ((rd_T108 x10 x12).f2)).bind fun t104 => (if t104 = true then (if x12 > 0 then (if 0 ≤ (wrap64 (x12 - 1)) then (if (wrap64 (x12 - 1)) < (x0.length : Int) then ((tree_Less.f ((rd_T108 x0 (wrap64 (x12 - 1))).f0) ((rd_T108 x0 (wrap64 (x12 - 1))).f1) ((rd_T108 x0 (wrap64 (x12 - 1))).f2) ((rd_T108 x10 x12).f0) ((rd_T108 x10 x12).f1) ((rd_T108 x10 x12).f2)).bind fun t106 => (tree_Check.j1 k x0 x10 x11 x12 (!t106) (MSI.put x102000 ((rd_T108 x10 x12).f1) (wrap64 ((MSI.get x102000 ((rd_T108 x10 x12).f1)) + 1))) ((rd_T108 x10 x12).f0) ((rd_T108 x10 x12).f1) ((rd_T108 x10 x12).f2))) else (none)) else (none)) else (tree_Check.j1 k x0 x10 x11 x12 false (MSI.put x102000 ((rd_T108 x10 x12).f1) (wrap64 ((MSI.get x102000 ((rd_T108 x10 x12).f1)) + 1))) ((rd_T108 x10 x12).f0) ((rd_T108 x10 x12).f1) ((rd_T108 x10 x12).f2))) else (some 1))) else (none)) else (none)) else (none)) else (none)) else (some 0)
def tree_Check.j1 : Nat → List (S108) → List (S108) → Int → Int → Bool → MSI → Int → ByteArray → ByteArray → Option (Int)
 | 0, _, _, _, _, _, _, _, _, _ => none
 | k + 1, x0, x10, x11, x12, x26, x102000, x104000, x104001, x104002 => if x26 = true then (some 150) else (if x104001.size ≤ 9223372036854775807 then (if (MSI.get x102000 x104001) > 1 then (some 6) else (tree_Check.l0 k x0 x10 x11 (wrap64 (x12 + 1)) x102000)) else (none))
end
def tree_Check.f (k : Nat) (l0 : List (S108)) : Option (Int) := if (l0.length : Int) > 1024 then (some 4) else (tree_Check.l0 k l0 l0 (l0.length : Int) 0 MSI.nil)
theorem tree_Check.mono_l : ∀ k, (∀ y0 y1 y2 y3 y4, LeO (tree_Check.l0 k y0 y1 y2 y3 y4) (tree_Check.l0 (k + 1) y0 y1 y2 y3 y4)) ∧ (∀ y0 y1 y2 y3 y4 y5 y6 y7 y8, LeO (tree_Check.j1 k y0 y1 y2 y3 y4 y5 y6 y7 y8) (tree_Check.j1 (k + 1) y0 y1 y2 y3 y4 y5 y6 y7 y8))
 | 0 => ⟨fun _ _ _ _ _ r h => by simp [tree_Check.l0] at h, fun _ _ _ _ _ _ _ _ _ r h => by simp [tree_Check.j1] at h⟩
 | k + 1 => by
  obtain ⟨ih0, ih1⟩ := tree_Check.mono_l k
  refine ⟨?_, ?_⟩
  ·intro y0 y1 y2 y3 y4
   unfold tree_Check.l0
   have m0_ := @ih0
   have m1_ := @ih1
   have m2_ := @tree_may.mono
   exact mz_
  ·intro y0 y1 y2 y3 y4 y5 y6 y7 y8
   unfold tree_Check.j1
   have m0_ := @ih0
   have m1_ := @ih1
   have m2_ := @tree_may.mono
   exact mz_
theorem tree_Check.mono : ∀ a0 k, LeO (tree_Check.f k a0) (tree_Check.f (k + 1) a0) := by
 intro a0 k; obtain ⟨ih0, ih1⟩ := tree_Check.mono_l k; unfold tree_Check.f; have m0_ := @ih0; have m1_ := @ih1; have m2_ := @tree_may.mono; exact mz_
def tree_Check.T10 : Bool × List (List Nat × List Nat) := (true, [([], []), ([0], [0]), ([1], [1]), ([2], [2]), ([2], [2]), ([4, 2], [2, 4]), ([3, 5, 2], [2, 3, 5]), ([6, 2], [2, 6]), ([2], [2]), ([7, 8, 2, 2], [2, 7, 8]), ([9, 2], [2, 9]), ([2, 10], [2, 10]), ([11, 9], [11])])
def tree_Check.B10 : List Nat := [0, 1, 3, 7, 7, 23, 63, 127, 7, 511, 1023, 2047, 4095]
theorem tree_Check.tab10 : rtab .any (opsOf Tryz.f150 10) = tree_Check.T10 := by kernel_rfl
theorem tree_Check.bits10 : waitsOk tree_Check.T10.2 tree_Check.B10 = true := by kernel_rfl
theorem tree_Check.calls (k : Nat) (A0 : Option Addr) (c0 : Nat) (l0 : List (S108)) (r : Int) (w : World) (hr0 : Kd.C k108 w A0 l0.length l0) (hc0 : l0.length ≤ c0) (hgv : GV w) (h : tree_Check.f k l0 = some r) :
  Calls Tryz.prog 150 #[.slice A0 l0.length c0] w fun e w' => e = .returned (.int .i64 r) ∧ Below w.heap.size w w' := by
 have hu108 := underlying108; have HR0 := Aside0.mk hr0; have HC0 := Aside0.mk hc0; clear hr0 hc0; have HB := Aside0.mk (Below.refl w.heap.size w); unfold tree_Check.f at h; have H := h; clear h; by_cases c2 : (l0.length : Int) > 1024
 ·rw [if_pos c2] at H; have c2b0 := dt_ c2; have c2b1 : decide (1024 < l0.length) = true := decide_eq_true (by omega); clear c2; obtain rfl := oi_ H; go_enter func150, ntmps150; go_wp2
  go_ret
  exact ⟨z3_, hb_ HB.out⟩
 rw [if_neg c2] at H; have c2b0 := df_ c2; have c2b1 : decide (1024 < l0.length) = false := decide_eq_false (by omega); clear c2; have H' := Aside0.mk H; clear H; go_enter func150, ntmps150; go_wp2_with (first | ((with_reducible refine gate_dst (N := 9) rfl ?_); refine mkmap_event rfl (N := 9) rfl rfl ?_; intro gb101 hg w3 hbox hb; have HI101 := Aside0.mk (IsS176.made hbox (gw_ hg HB.out)); replace HB := ah_ HB hb; clear hb hbox hg)); go_loopg [12] k (fun kq v12 w' => ∃ (x12_1 : Int) (x102000_1 : MSI), v12 = .int .i64 x12_1 ∧ Aside0 (tree_Check.l0 kq l0 l0 (l0.length : Int) x12_1 x102000_1 = some r) ∧ Aside0 (kq ≤ k) ∧ Aside0 (IsS176 w w' gb101 x102000_1) ∧ Aside0 (Below w.heap.size w w'))
 case atStart => exact ⟨(0), (MSI.nil), z1_, H', ⟨Nat.le_refl _⟩, ⟨z19_⟩, ⟨z17_⟩⟩
 case round =>
  clear H'; try clear c1
  try clear c2
  try clear c2b0
  try clear c2b1
  try clear p2
  obtain ⟨x12_1, x102000_1, rfl, HA, HK1, HI101, HB⟩ := hrel
  cases gk with
  | zero => exact absurd HA.out (by simp [tree_Check.l0])
  | succ k1 =>
   have H := HA.out; clear HA; simp only [tree_Check.l0] at H; by_cases c4 : x12_1 < (l0.length : Int); rotate_left
   ·rw [if_neg c4] at H; have c4b0 := df_ c4; clear c4; obtain rfl := oi_ H; go_wp2
    go_ret
    exact ⟨z3_, z17_⟩
   rw [if_pos c4] at H; have c4b0 := dt_ c4; clear c4; by_cases c5 : 0 ≤ x12_1; rotate_left
   ·rw [if_neg c5] at H; exact no_ H
   rw [if_pos c5] at H; have c5b0 := dt_ c5; clear c5; by_cases c6 : x12_1 < (l0.length : Int); rotate_left
   ·rw [if_neg c6] at H; exact no_ H
   rw [if_pos c6] at H; have c6b0 := dt_ c6; clear c6; by_cases c7 : ((rd_T108 l0 x12_1).f1).size ≤ 9223372036854775807; rotate_left
   ·rw [if_neg c7] at H; exact no_ H
   rw [if_pos c7] at H; have c7b0 := eq_true c7; have c7b1 := dt_ c7; try have c7b2 := nl_ c7
   clear c7; have c8b0 := eq_true (y0_ : ((rd_T108 l0 x12_1).f1).size ≤ 9223372036854775807); by_cases c9 : x102000_1.n < 4611686018427387904; rotate_left
   ·rw [if_neg c9] at H; exact no_ H
   rw [if_pos c9] at H; have c9b0 := eq_true c9; have c9b1 := dt_ c9; clear c9; obtain ⟨t104, A10, H⟩ := bx_ H; by_cases c11 : t104 = true; rotate_left
   ·replace c11 := Bool.eq_false_iff.mpr c11; subst c11; rw [if_neg nft_] at H; obtain rfl := oi_ H; have p102 : 0 ≤ (x12_1 : Int) := y0_; have q102 : x12_1 < (l0.length : Int) := y0_; obtain ⟨ad102, e102, hx102_0, hx102_1, hx102_2⟩ := at_T108 HR0.out x12_1 p102 q102
    cases e102
    replace hx102_0 := (HB.out.cell (World.block_lt_of_cell? w _ hx102_0)).trans hx102_0; replace hx102_1 := (HB.out.cell (World.block_lt_of_cell? w _ hx102_1)).trans hx102_1; replace hx102_2 := (HB.out.cell (World.block_lt_of_cell? w _ hx102_2)).trans hx102_2; replace p102 := eq_true p102; replace q102 := eq_true q102; go_wp2_with (first | ((with_reducible refine gate_dst (N := 5) rfl ?_); refine be_ (cs := #[.int .i64 0, .string ⟨#[]⟩, .string ⟨#[]⟩]) (t := 108) ?_; intro gb103 hg w34 hbox hb; have BK103 := Aside0.mk (hbox); have GW103 := Aside0.mk ((by rw [hg]; exact (below_size z17_) : w.heap.size ≤ gb103)); have GE103 := Aside0.mk ((by rw [hg]; exact (below_size z17_) : w.heap.size ≤ gb103)); replace HB := Aside0.mk (below_step z17_ hb); have NB101_103 := Aside0.mk ((by rw [hg]; exact Nat.ne_of_lt (IsS176.lt (show IsS176 w _ gb101 x102000_1 from z19_)) : gb101 ≠ gb103)); have NB103_101 := Aside0.mk ((by rw [hg]; exact Nat.ne_of_gt (IsS176.lt (show IsS176 w _ gb101 x102000_1 from z19_)) : gb103 ≠ gb101)); replace HI101 := Aside0.mk (IsS176.below z19_ hb); clear hb hbox hg; have hnb35 := NB103_101.out; have hnc35 := NB101_103.out; obtain ⟨Z36_0, Z36_1, Z36_2, F36⟩ := bc3 BK103.out) | ((with_reducible refine gate_dst (N := 20) rfl ?_); refine IsS176.look (show IsS176 w _ gb101 x102000_1 from z12_) rfl rfl rfl rfl (y0_ : ((rd_T108 l0 x12_1).f1).size ≤ 9223372036854775807) ?_) | (at_mapUpdate; refine IsS176.put_ (k := ((rd_T108 l0 x12_1).f1)) (n := (wrap64 ((MSI.get x102000_1 ((rd_T108 l0 x12_1).f1)) + 1))) (show IsS176 w _ gb101 x102000_1 from z12_) rfl rfl rfl rfl rfl (y0_ : ((rd_T108 l0 x12_1).f1).size ≤ 9223372036854775807) (y0_ : x102000_1.n < 4611686018427387904) (wrap64_wf _) ?_; intro w37 hi hg; replace BK103 := Aside0.mk (blk_grown (g := gb103) (o := .cells #[.int .i64 ((rd_T108 l0 x12_1).f0), .string ((rd_T108 l0 x12_1).f1), .string ((rd_T108 l0 x12_1).f2)] 108 (0, 0)) (by have b_ := BK103; exact zb_) hg (fun e_ => NB103_101.out (Option.some.inj e_))); replace HB := Aside0.mk (Below.grown z9_ hg ((below_size z9_)) (fun k_ e_ => (Option.some.inj e_) ▸ (IsS176.ge hi))); replace HI101 := Aside0.mk (hi); clear hi hg; obtain ⟨Z38_0, Z38_1, Z38_2, F38⟩ := bc3 BK103.out) | ((with_reducible refine gate_callee (f := 192) rfl ?_); refine gl_ (some 24) func192 #[.agg #[.int .i64 ((rd_T108 l0 x12_1).f0), .string ((rd_T108 l0 x12_1).f1), .string ((rd_T108 l0 x12_1).f2)]] ?_; (with_reducible refine (tree_may.calls k1 ((rd_T108 l0 x12_1).f0) ((rd_T108 l0 x12_1).f1) ((rd_T108 l0 x12_1).f2) false _ ?side1 A10.out).mono ?_); (case side1 => exact GV.below hgv z9_); rintro e w39 ⟨rfl, hb⟩; refine ⟨_, rfl, ?_⟩; replace BK103 := ab_ BK103 hb; replace HB := Aside0.mk (below_step z9_ hb); replace HI101 := Aside0.mk (IsS176.below z12_ hb); (try clear hb); (try clear hb2); (try clear hk); (try clear hi)))
    go_ret
    exact ⟨z3_, z9_⟩
   subst c11; rw [if_pos rfl] at H; have HC12 := Aside0.mk H; clear H; have p102 : 0 ≤ (x12_1 : Int) := y0_; have q102 : x12_1 < (l0.length : Int) := y0_; obtain ⟨ad102, e102, hx102_0, hx102_1, hx102_2⟩ := at_T108 HR0.out x12_1 p102 q102
   cases e102
   replace hx102_0 := (HB.out.cell (World.block_lt_of_cell? w _ hx102_0)).trans hx102_0; replace hx102_1 := (HB.out.cell (World.block_lt_of_cell? w _ hx102_1)).trans hx102_1; replace hx102_2 := (HB.out.cell (World.block_lt_of_cell? w _ hx102_2)).trans hx102_2; replace p102 := eq_true p102; replace q102 := eq_true q102; go_upto_region 10 with (first | ((with_reducible refine gate_dst (N := 5) rfl ?_); refine be_ (cs := #[.int .i64 0, .string ⟨#[]⟩, .string ⟨#[]⟩]) (t := 108) ?_; intro gb103 hg w13 hbox hb; have BK103 := Aside0.mk (hbox); have GW103 := Aside0.mk ((by rw [hg]; exact (below_size z17_) : w.heap.size ≤ gb103)); have GE103 := Aside0.mk ((by rw [hg]; exact (below_size z17_) : w.heap.size ≤ gb103)); replace HB := Aside0.mk (below_step z17_ hb); have NB101_103 := Aside0.mk ((by rw [hg]; exact Nat.ne_of_lt (IsS176.lt (show IsS176 w _ gb101 x102000_1 from z19_)) : gb101 ≠ gb103)); have NB103_101 := Aside0.mk ((by rw [hg]; exact Nat.ne_of_gt (IsS176.lt (show IsS176 w _ gb101 x102000_1 from z19_)) : gb103 ≠ gb101)); replace HI101 := Aside0.mk (IsS176.below z19_ hb); clear hb hbox hg; have hnb14 := NB103_101.out; have hnc14 := NB101_103.out; obtain ⟨Z15_0, Z15_1, Z15_2, F15⟩ := bc3 BK103.out) | ((with_reducible refine gate_dst (N := 20) rfl ?_); refine IsS176.look (show IsS176 w _ gb101 x102000_1 from z12_) rfl rfl rfl rfl (y0_ : ((rd_T108 l0 x12_1).f1).size ≤ 9223372036854775807) ?_) | (at_mapUpdate; refine IsS176.put_ (k := ((rd_T108 l0 x12_1).f1)) (n := (wrap64 ((MSI.get x102000_1 ((rd_T108 l0 x12_1).f1)) + 1))) (show IsS176 w _ gb101 x102000_1 from z12_) rfl rfl rfl rfl rfl (y0_ : ((rd_T108 l0 x12_1).f1).size ≤ 9223372036854775807) (y0_ : x102000_1.n < 4611686018427387904) (wrap64_wf _) ?_; intro w16 hi hg; replace BK103 := Aside0.mk (blk_grown (g := gb103) (o := .cells #[.int .i64 ((rd_T108 l0 x12_1).f0), .string ((rd_T108 l0 x12_1).f1), .string ((rd_T108 l0 x12_1).f2)] 108 (0, 0)) (by have b_ := BK103; exact zb_) hg (fun e_ => NB103_101.out (Option.some.inj e_))); replace HB := Aside0.mk (Below.grown z9_ hg ((below_size z9_)) (fun k_ e_ => (Option.some.inj e_) ▸ (IsS176.ge hi))); replace HI101 := Aside0.mk (hi); clear hi hg; obtain ⟨Z17_0, Z17_1, Z17_2, F17⟩ := bc3 BK103.out) | ((with_reducible refine gate_callee (f := 192) rfl ?_); refine gl_ (some 24) func192 #[.agg #[.int .i64 ((rd_T108 l0 x12_1).f0), .string ((rd_T108 l0 x12_1).f1), .string ((rd_T108 l0 x12_1).f2)]] ?_; (with_reducible refine (tree_may.calls k1 ((rd_T108 l0 x12_1).f0) ((rd_T108 l0 x12_1).f1) ((rd_T108 l0 x12_1).f2) true _ ?side1 A10.out).mono ?_); (case side1 => exact GV.below hgv z9_); rintro e w18 ⟨rfl, hb⟩; refine ⟨_, rfl, ?_⟩; replace BK103 := ab_ BK103 hb; replace HB := Aside0.mk (below_step z9_ hb); replace HI101 := Aside0.mk (IsS176.below z12_ hb); (try clear hb); (try clear hb2); (try clear hk); (try clear hi)))
   (try simp only [Act.put, List.setIfInBounds_toArray, List.set_cons_zero, List.set_cons_succ])
   go_cut [26] (fun v26 wc => ∃ (kq : Nat) (x26_11 : Bool), v26 = .bool x26_11 ∧ Aside0 (tree_Check.j1 kq l0 l0 (l0.length : Int) x12_1 x26_11 (MSI.put x102000_1 ((rd_T108 l0 x12_1).f1) (wrap64 ((MSI.get x102000_1 ((rd_T108 l0 x12_1).f1)) + 1))) ((rd_T108 l0 x12_1).f0) ((rd_T108 l0 x12_1).f1) ((rd_T108 l0 x12_1).f2) = some r) ∧ Aside0 (kq ≤ k1) ∧ Aside0 (wc.heap[gb103]? = some (.cells #[.int .i64 ((rd_T108 l0 x12_1).f0), .string ((rd_T108 l0 x12_1).f1), .string ((rd_T108 l0 x12_1).f2)] 108 (0, 0))) ∧ Aside0 (IsS176 w wc gb101 (MSI.put x102000_1 ((rd_T108 l0 x12_1).f1) (wrap64 ((MSI.get x102000_1 ((rd_T108 l0 x12_1).f1)) + 1)))) ∧ Aside0 (Below w.heap.size w wc))
   case first =>
    have H := HC12.out; clear HC12; by_cases c19 : x12_1 > 0; rotate_left
    ·rw [if_neg c19] at H; have c19b0 := df_ c19; clear c19; (first | rw [c19b0] | (simp only [i64_w, i32_w]; rw [c19b0]) | skip); have H' := Aside0.mk H; clear H; try go_wp2
     replace BK103 := ad_ BK103; replace HI101 := Aside0.mk (IsS176.drew HI101.out); replace HB := hd_ HB; refine start_ (n := 13) (S := fun w' => True) (ds := []) (bs 13 0) (by kernel_rfl) rfl rfl trivial (fun hHeld => ?_); refine with_tabW tree_Check.tab10 tree_Check.bits10 (fun HT_ HW_ => ?_); generalize w18.drew = w26 at BK103 HI101 HB hHeld ⊢; refine pun_ 0 27 13 1 ?_; refine pun_ 1 28 13 3 ?_; refine pun_ 2 29 13 7 ?_; refine pnn_ 3 30 13 15 ?_; refine pnn_ 4 31 13 31 ?_; refine pnn_ 5 32 13 63 ?_; refine pnn_ 6 33 13 127 ?_; refine pnn_ 7 34 13 255 ?_; refine pnn_ 8 35 13 511 ?_; refine pnn_ 9 36 13 1023 ?_; refine pnn_ 10 37 13 2047 ?_; refine pun_ 11 38 13 4095 ?_; refine pun_ 12 26 13 8191 ?_; refine dn_ ?_; try go_wp2
     go_meet
     case rel => exact ⟨_, (false), z1_, H', ⟨by have := HK1.out; first | omega | exact Nat.le_refl _⟩, ⟨bk_ BK103.out⟩, ⟨z12_⟩, ⟨z9_⟩⟩
    rw [if_pos c19] at H; have c19b0 := dt_ c19; clear c19; (first | rw [c19b0] | (simp only [i64_w, i32_w]; rw [c19b0]) | skip); obtain ⟨ji20, hji20⟩ : ∃ j_ : Int, (wrap64 (x12_1 - 1)) = j_ := ⟨_, rfl⟩; replace H : (if 0 ≤ (ji20) then (if (ji20) < (l0.length : Int) then ((tree_Less.f ((rd_T108 l0 (ji20)).f0) ((rd_T108 l0 (ji20)).f1) ((rd_T108 l0 (ji20)).f2) ((rd_T108 l0 x12_1).f0) ((rd_T108 l0 x12_1).f1) ((rd_T108 l0 x12_1).f2)).bind fun t106 => (tree_Check.j1 k1 l0 l0 (l0.length : Int) x12_1 (!t106) (MSI.put x102000_1 ((rd_T108 l0 x12_1).f1) (wrap64 ((MSI.get x102000_1 ((rd_T108 l0 x12_1).f1)) + 1))) ((rd_T108 l0 x12_1).f0) ((rd_T108 l0 x12_1).f1) ((rd_T108 l0 x12_1).f2))) else (none)) else (none)) = some r := by first | (rw [hji20] at H; exact H) | (simp only [hji20] at H ⊢; exact H)
    have hji20w : (IntKind.i64.wrap (x12_1 - 1)) = ji20 := (i64_w _).trans hji20; by_cases c21 : 0 ≤ (ji20); rotate_left
    ·rw [if_neg c21] at H; exact no_ H
    rw [if_pos c21] at H; have c21b0 := dt_ c21; clear c21; by_cases c22 : (ji20) < (l0.length : Int); rotate_left
    ·rw [if_neg c22] at H; exact no_ H
    rw [if_pos c22] at H; have c22b0 := dt_ c22; clear c22; obtain ⟨t106, A23, H⟩ := bx_ H; have H' := Aside0.mk H; clear H; try go_wp2
    replace BK103 := ad_ BK103; replace HI101 := Aside0.mk (IsS176.drew HI101.out); replace HB := hd_ HB; have p105 : 0 ≤ ((ji20) : Int) := y0_; have q105 : (ji20) < (l0.length : Int) := y0_; obtain ⟨ad105, e105, hx105_0, hx105_1, hx105_2⟩ := at_T108 HR0.out (ji20) p105 q105; have hw105_2 := hx105_2; have hw105_1 := hx105_1; have hw105_0 := hx105_0; obtain rfl : ad102 = ad105 := (by injection e105); replace hx105_0 := (HB.out.cell (World.block_lt_of_cell? w _ hx105_0)).trans hx105_0; replace hx105_1 := (HB.out.cell (World.block_lt_of_cell? w _ hx105_1)).trans hx105_1; replace hx105_2 := (HB.out.cell (World.block_lt_of_cell? w _ hx105_2)).trans hx105_2; replace p105 := eq_true p105; replace q105 := eq_true q105; refine start_ (n := 13) (S := fun w' => w'.cell? ⟨gb103, 0, none⟩ = some (.int .i64 ((rd_T108 l0 x12_1).f0)) ∧ w'.cell? ⟨gb103, 1, none⟩ = some (.string ((rd_T108 l0 x12_1).f1)) ∧ w'.cell? ⟨gb103, 2, none⟩ = some (.string ((rd_T108 l0 x12_1).f2)) ∧ w'.cell? (ad102.add (((ji20)).toNat * 3)) = some (.int .i64 ((rd_T108 l0 (ji20)).f0)) ∧ w'.cell? ⟨(ad102.add (((ji20)).toNat * 3)).block, (ad102.add (((ji20)).toNat * 3)).off + 1, none⟩ = some (.string ((rd_T108 l0 (ji20)).f1)) ∧ w'.cell? ⟨(ad102.add (((ji20)).toNat * 3)).block, (ad102.add (((ji20)).toNat * 3)).off + 2, none⟩ = some (.string ((rd_T108 l0 (ji20)).f2))) (ds := []) (bs 13 0) (by kernel_rfl) rfl rfl ⟨(blk_cell BK103.out 0).trans rfl, (blk_cell BK103.out 1).trans rfl, (blk_cell BK103.out 2).trans rfl, ((HB.out.cell (World.block_lt_of_cell? w _ hw105_0)).trans hw105_0), ((HB.out.cell (World.block_lt_of_cell? w _ hw105_1)).trans hw105_1), ((HB.out.cell (World.block_lt_of_cell? w _ hw105_2)).trans hw105_2)⟩ (fun hHeld => ?_); refine with_tabW tree_Check.tab10 tree_Check.bits10 (fun HT_ HW_ => ?_); generalize w18.drew = w24 at BK103 HI101 HB hx105_0 hx105_1 hx105_2 hHeld ⊢; refine pun_ 0 27 13 1 ?_; refine pun_ 1 28 13 3 ?_; refine pun_ 2 29 13 7 ?_; refine pun_ 3 30 13 15 ?_; refine pun_ 4 31 13 31 ?_; refine pun_ 5 32 13 63 ?_; refine pun_ 6 33 13 127 ?_; refine tkW6n_ 7 34 13 255 hHeld ?_; refine tkW6n_ 8 35 13 511 hHeld ?_; refine on_ 9 36 13 1023 (fun K hK => ?_); refine goes_ func193 (by kernel_rfl) rfl #[.agg #[.int .i64 ((rd_T108 l0 (ji20)).f0), .string ((rd_T108 l0 (ji20)).f1), .string ((rd_T108 l0 (ji20)).f2)], .agg #[.int .i64 ((rd_T108 l0 x12_1).f0), .string ((rd_T108 l0 x12_1).f1), .string ((rd_T108 l0 x12_1).f2)]] (by rfl) rfl rfl (by (try simp only [List.map_toArray, List.map_cons, List.map_nil]); first | done | (simp only [hji20]; rfl) | rfl | (simp only [List.length_drop, List.length_take]; rfl)) ?_
    with_reducible refine (tree_Less.calls ((rd_T108 l0 (ji20)).f0) ((rd_T108 l0 (ji20)).f1) ((rd_T108 l0 (ji20)).f2) ((rd_T108 l0 x12_1).f0) ((rd_T108 l0 x12_1).f1) ((rd_T108 l0 x12_1).f2) t106 _ A23.out).mono ?_
    rintro e w25 ⟨rfl, hb⟩; refine ⟨_, rfl, ?_⟩; replace BK103 := ab_ BK103 hb; replace HB := Aside0.mk (below_step z9_ hb); replace HI101 := Aside0.mk (IsS176.below z12_ hb); (try clear hb)
    (try clear hb2)
    (try clear hk)
    (try clear hi)
    refine hK.out _ _ ⟨(blk_cell BK103.out 0).trans rfl, (blk_cell BK103.out 1).trans rfl, (blk_cell BK103.out 2).trans rfl, ((HB.out.cell (World.block_lt_of_cell? w _ hw105_0)).trans hw105_0), ((HB.out.cell (World.block_lt_of_cell? w _ hw105_1)).trans hw105_1), ((HB.out.cell (World.block_lt_of_cell? w _ hw105_2)).trans hw105_2)⟩ (fun hHeld => ?_); clear hK K; refine norm_ (a' := ?_) ?_ ?_; rotate_left
    ·show Act.put _ (some 36) _ = _
     simp only [Act.put, List.setIfInBounds_toArray, List.set_cons_zero, List.set_cons_succ, i64_w, i32_w]; rfl
    refine pun_ 10 37 13 2047 ?_; refine pun_ 11 38 13 4095 ?_; refine pun_ 12 26 13 8191 ?_; refine dn_ ?_; try go_wp2
    (try subst hji20)
    go_meet
    case rel => exact ⟨_, (!t106), z1_, H', ⟨by have := HK1.out; first | omega | exact Nat.le_refl _⟩, ⟨bk_ BK103.out⟩, ⟨z12_⟩, ⟨z9_⟩⟩
   case rest =>
    clear HC12; try clear c1
    try clear p1
    try clear q1
    try clear hx1
    try clear c2
    try clear c2b0
    try clear c2b1
    try clear p2
    try clear c4
    try clear c4b0
    try clear c5
    try clear c5b0
    try clear c6
    try clear c6b0
    try clear p6
    try clear c7
    try clear c7b0
    try clear c7b1
    try clear c7b2
    try clear c8
    try clear c8b0
    try clear c9
    try clear c9b0
    try clear c9b1
    try clear p10
    try clear q10
    try clear hx10
    try clear c11
    try clear c14
    try clear c15
    try clear c19
    try clear c19b0
    try clear c21
    try clear c21b0
    try clear c22
    try clear c22b0
    try clear Z15_0 Z15_1 Z15_2
    try clear Z17_0 Z17_1 Z17_2
    try clear F15
    try clear F17
    try clear hx102_0
    try clear hx102_1
    try clear hx102_2
    try clear hx105_0
    try clear hx105_1
    try clear hx105_2
    try clear p102
    try clear p105
    try clear p2
    try clear q102
    try clear q105
    obtain ⟨kq, x26_11, rfl, HA, HJ11, BK103, HI101, HB⟩ := hcut
    cases kq with
    | zero => exact absurd HA.out (by simp [tree_Check.j1])
    | succ kj11 =>
     have H := HA.out; clear HA; simp only [tree_Check.j1] at H; by_cases c27 : x26_11 = true
     ·subst c27; rw [if_pos rfl] at H; obtain rfl := oi_ H; go_wp2
      go_ret
      exact ⟨z3_, z9_⟩
     replace c27 := Bool.eq_false_iff.mpr c27; subst c27; rw [if_neg nft_] at H; by_cases c28 : ((rd_T108 l0 x12_1).f1).size ≤ 9223372036854775807; rotate_left
     ·rw [if_neg c28] at H; exact no_ H
     rw [if_pos c28] at H; have c28b0 := eq_true c28; have c28b1 := dt_ c28; try have c28b2 := nl_ c28
     clear c28; by_cases c29 : (MSI.get (MSI.put x102000_1 ((rd_T108 l0 x12_1).f1) (wrap64 ((MSI.get x102000_1 ((rd_T108 l0 x12_1).f1)) + 1))) ((rd_T108 l0 x12_1).f1)) > 1
     ·rw [if_pos c29] at H; have c29b0 := dt_ c29; clear c29; obtain rfl := oi_ H; have hnb30 := NB103_101.out; have hnc30 := NB101_103.out; obtain ⟨Z31_0, Z31_1, Z31_2, F31⟩ := bc3 BK103.out; go_wp2_with (first | ((with_reducible refine gate_dst (N := 43) rfl ?_); refine IsS176.look (show IsS176 w _ gb101 (MSI.put x102000_1 ((rd_T108 l0 x12_1).f1) (wrap64 ((MSI.get x102000_1 ((rd_T108 l0 x12_1).f1)) + 1))) from z12_) rfl rfl rfl rfl (y0_ : ((rd_T108 l0 x12_1).f1).size ≤ 9223372036854775807) ?_)); go_ret
      exact ⟨z3_, z9_⟩
     rw [if_neg c29] at H; have c29b0 := df_ c29; clear c29; have H' := Aside0.mk H; clear H; have hnb32 := NB103_101.out; have hnc32 := NB101_103.out; obtain ⟨Z33_0, Z33_1, Z33_2, F33⟩ := bc3 BK103.out; go_wp2_with (first | ((with_reducible refine gate_dst (N := 43) rfl ?_); refine IsS176.look (show IsS176 w _ gb101 (MSI.put x102000_1 ((rd_T108 l0 x12_1).f1) (wrap64 ((MSI.get x102000_1 ((rd_T108 l0 x12_1).f1)) + 1))) from z12_) rfl rfl rfl rfl (y0_ : ((rd_T108 l0 x12_1).f1).size ≤ 9223372036854775807) ?_)); go_roundg kj11
     case measure => have := HK1.out; have := HJ11.out; omega
     case rel => exact ⟨(wrap64 (x12_1 + 1)), ((MSI.put x102000_1 ((rd_T108 l0 x12_1).f1) (wrap64 ((MSI.get x102000_1 ((rd_T108 l0 x12_1).f1)) + 1)))), z1_, H', ⟨by have := HK1.out; have := HJ11.out; omega⟩, ⟨z12_⟩, ⟨z9_⟩⟩
def tree_Parse.l0 : Nat → ByteArray → List (S108) → Option ((List (S108)) × Int)
 | 0, _, _ => none
 | k + 1, x0, x4 => if x0.toList = ([] : List UInt8) then ((tree_Check.f k x4).bind fun t101 => (if t101 = 0 then (some (x4, 0)) else (some (([] : List (S108)), t101)))) else ((tree_mode.f k x0).bind fun bt102 => (if bt102.2.2 = 0 then ((strings_Cut.f bt102.2.1 ⟨#[0]⟩).bind fun bt105 => (if bt105.2.2 = true then (if (bt105.2.1.size : Int) < 20 then (some (([] : List (S108)), 3)) else (if 0 ≤ 20 then (if 20 ≤ (bt105.2.1.size : Int) then ((ident_Hex.f k (bt105.2.1.extract 0 20)).bind fun t108 => (if x4.length < 3518437208883 then (tree_Parse.l0 k (bt105.2.1.extract 20 bt105.2.1.size) (x4 ++ [(⟨bt102.1, bt105.1, t108⟩ : S108)])) else (none))) else (none)) else (none))) else (some (([] : List (S108)), 3)))) else (some (([] : List (S108)), bt102.2.2))))
def tree_Parse.f (k : Nat) (a0 : ByteArray) : Option ((List (S108)) × Int) := tree_Parse.l0 k a0 ([] : List (S108))
theorem tree_Parse.mono_l : ∀ k, (∀ y0 y1, LeO (tree_Parse.l0 k y0 y1) (tree_Parse.l0 (k + 1) y0 y1))
 | 0 => fun _ _ r h => by simp [tree_Parse.l0] at h
 | k + 1 => by
  have ih0 := tree_Parse.mono_l k
  ·intro y0 y1
   unfold tree_Parse.l0
   have m0_ := @ih0
   have m1_ := @ident_Hex.mono
   have m2_ := @tree_Check.mono
   have m3_ := @tree_mode.mono
   exact mz_
theorem tree_Parse.mono : ∀ a0 k, LeO (tree_Parse.f k a0) (tree_Parse.f (k + 1) a0) := by
 intro a0 k; have ih0 := tree_Parse.mono_l k; unfold tree_Parse.f; have m0_ := @ih0; have m1_ := @ident_Hex.mono; have m2_ := @tree_Check.mono; have m3_ := @tree_mode.mono; exact mz_
theorem tree_Parse.calls (k : Nat) (a0 : ByteArray) (r1 : List (S108)) (r2 : Int) (w : World) (hgv : GV w) (h : tree_Parse.f k a0 = some (r1, r2)) :
  Calls Tryz.prog 94 #[.string a0] w fun e w' => ∃ v0_ : Value, e = .returned (.tuple #[v0_, .int .i64 r2]) ∧ Kd.R k108 108 w' w.heap.size (fun _ => True) v0_ r1 ∧ Below w.heap.size w w' := by
 have hu108 := underlying108; have HB := Aside0.mk (Below.refl w.heap.size w); unfold tree_Parse.f at h; have H := h; clear h; have H' := Aside0.mk H; clear H; go_enter func94, ntmps94; go_wp2
 go_loopg [0, 4] k (fun kq v0 v4 w' => ∃ (x0_1 : ByteArray) (x4_1 : List (S108)), v0 = .string x0_1 ∧ Aside0 (tree_Parse.l0 kq x0_1 x4_1 = some (r1, r2)) ∧ Aside0 (kq ≤ k) ∧ Aside0 (Kd.R k108 108 w' w.heap.size (fun _ => True) v4 x4_1) ∧ Aside0 (Below w.heap.size w w'))
 case atStart => exact ⟨(a0), (([] : List (S108))), z1_, H', ⟨Nat.le_refl _⟩, ⟨z6_⟩, ⟨hb_ HB.out⟩⟩
 case round =>
  clear H'; obtain ⟨x0_1, x4_1, rfl, HA, HK1, HO_4, HB⟩ := hrel
  cases gk with
  | zero => exact absurd HA.out (by simp [tree_Parse.l0])
  | succ k1 =>
   have H := HA.out; clear HA; simp only [tree_Parse.l0] at H; by_cases c2 : x0_1.toList = ([] : List UInt8)
   ·rw [if_pos c2] at H; have c2b0 := et_ c2; have c2b1 := nf_ c2; clear c2; obtain ⟨t101, A3, H⟩ := bx_ H; by_cases c4 : t101 = 0
    ·rw [if_pos c4] at H; have c4b0 := et_ c4; have c4b1 := nf_ c4; clear c4; obtain ⟨rfl, rfl⟩ := pj2_ H; obtain ⟨Ao5, co5, eo5⟩ := Kd.R_slice HO_4.out; subst eo5; go_wp2_with (first | ((with_reducible refine gate_callee (f := 150) rfl ?_); refine gl_ (some 48) func150 #[.slice Ao5 x4_1.length co5] ?_; (with_reducible refine (tree_Check.calls k1 _ _ x4_1 t101 _ ?side1 ?side2 ?side3 A3.out).mono ?_); (case side1 => repeat (first | exact (Kd.R_reads' HO_4.out).2.2 | (with_reducible refine Kd.C_alloc ?_ _) | (with_reducible refine Kd.C_drewN ?_ _) | (with_reducible refine Kd.C_drew ?_))); (case side2 => exact (Kd.R_reads' HO_4.out).2.1); (case side3 => exact GV.below hgv (hb_ HB.out)); rintro e w6 ⟨rfl, hb⟩; refine ⟨_, rfl, ?_⟩; replace HO_4 := Aside0.mk (Kd.R_below (rk_ HO_4.out) hb); replace HB := ah_ HB hb; (try clear hb); (try clear hb2); (try clear hk); (try clear hi)))
     go_ret2
     exact ⟨_, z3_, rk_ HO_4.out, hb_ HB.out⟩
    rw [if_neg c4] at H; have c4b0 := ef_ c4; have c4b1 := nt_ c4; obtain ⟨rfl, rfl⟩ := pj2_ H; obtain ⟨Ao7, co7, eo7⟩ := Kd.R_slice HO_4.out; subst eo7; go_wp2_with (first | ((with_reducible refine gate_callee (f := 150) rfl ?_); refine gl_ (some 48) func150 #[.slice Ao7 x4_1.length co7] ?_; (with_reducible refine (tree_Check.calls k1 _ _ x4_1 t101 _ ?side1 ?side2 ?side3 A3.out).mono ?_); (case side1 => repeat (first | exact (Kd.R_reads' HO_4.out).2.2 | (with_reducible refine Kd.C_alloc ?_ _) | (with_reducible refine Kd.C_drewN ?_ _) | (with_reducible refine Kd.C_drew ?_))); (case side2 => exact (Kd.R_reads' HO_4.out).2.1); (case side3 => exact GV.below hgv (hb_ HB.out)); rintro e w8 ⟨rfl, hb⟩; refine ⟨_, rfl, ?_⟩; replace HO_4 := Aside0.mk (Kd.R_below (rk_ HO_4.out) hb); replace HB := ah_ HB hb; (try clear hb); (try clear hb2); (try clear hk); (try clear hi)))
    go_ret2
    exact ⟨_, z3_, z6_, hb_ HB.out⟩
   rw [if_neg c2] at H; have c2b0 := ef_ c2; have c2b1 := nt_ c2; obtain ⟨⟨t102, t103, t104⟩, A9, H⟩ := bx_ H; dsimp only at H; by_cases c10 : t104 = 0; rotate_left
   ·rw [if_neg c10] at H; have c10b0 := ef_ c10; have c10b1 := nt_ c10; obtain ⟨rfl, rfl⟩ := pj2_ H; go_wp2_with (first | ((with_reducible refine gate_callee (f := 148) rfl ?_); refine gl_ (some 16) func148 #[.string x0_1] ?_; refine cm_ (tree_mode.calls k1 x0_1 t102 t103 t104 _ A9.out) ?_; rintro w' ⟨nd, rfl⟩)); go_ret2
    exact ⟨_, z3_, z6_, hb_ HB.out⟩
   rw [if_pos c10] at H; have c10b0 := et_ c10; have c10b1 := nf_ c10; clear c10; obtain ⟨⟨t105, t106, t107⟩, A11, H⟩ := bx_ H; dsimp only at H; by_cases c12 : t107 = true; rotate_left
   ·replace c12 := Bool.eq_false_iff.mpr c12; subst c12; rw [if_neg nft_] at H; obtain ⟨rfl, rfl⟩ := pj2_ H; go_wp2_with (first | ((with_reducible refine gate_callee (f := 148) rfl ?_); refine gl_ (some 16) func148 #[.string x0_1] ?_; refine cm_ (tree_mode.calls k1 x0_1 t102 t103 t104 _ A9.out) ?_; rintro w' ⟨nd, rfl⟩) | ((with_reducible refine gate_callee (f := 82) rfl ?_); refine gl_ (some 25) func82 #[.string t103, .string ⟨#[0]⟩] ?_; (with_reducible refine (strings_Cut.calls t103 ⟨#[0]⟩ t105 t106 false _ ?side1 A11.out).mono ?_); (case side1 => exact GV.below hgv (hb_ HB.out)); rintro e w' ⟨rfl, ⟨nd, rfl⟩⟩; refine ⟨_, rfl, ?_⟩)); go_ret2
    exact ⟨_, z3_, z6_, hb_ HB.out⟩
   subst c12; rw [if_pos rfl] at H; by_cases c13 : (t106.size : Int) < 20
   ·rw [if_pos c13] at H; have c13b0 := dt_ c13; have c13b1 : decide (t106.size < 20) = true := decide_eq_true (by omega); clear c13; obtain ⟨rfl, rfl⟩ := pj2_ H; go_wp2_with (first | ((with_reducible refine gate_callee (f := 148) rfl ?_); refine gl_ (some 16) func148 #[.string x0_1] ?_; refine cm_ (tree_mode.calls k1 x0_1 t102 t103 t104 _ A9.out) ?_; rintro w' ⟨nd, rfl⟩) | ((with_reducible refine gate_callee (f := 82) rfl ?_); refine gl_ (some 25) func82 #[.string t103, .string ⟨#[0]⟩] ?_; (with_reducible refine (strings_Cut.calls t103 ⟨#[0]⟩ t105 t106 true _ ?side1 A11.out).mono ?_); (case side1 => exact GV.below hgv (hb_ HB.out)); rintro e w' ⟨rfl, ⟨nd, rfl⟩⟩; refine ⟨_, rfl, ?_⟩)); go_ret2
    exact ⟨_, z3_, z6_, hb_ HB.out⟩
   rw [if_neg c13] at H; have c13b0 := df_ c13; have c13b1 : decide (t106.size < 20) = false := decide_eq_false (by omega); clear c13; by_cases c14 : 0 ≤ 20; rotate_left
   ·rw [if_neg c14] at H; exact no_ H
   rw [if_pos c14] at H; have c14b0 := eq_true c14; have c14b1 := dt_ c14; clear c14; by_cases c15 : 20 ≤ (t106.size : Int); rotate_left
   ·rw [if_neg c15] at H; exact no_ H
   rw [if_pos c15] at H; have c15b0 := eq_true c15; have c15b1 := dt_ c15; clear c15; obtain ⟨t108, A16, H⟩ := bx_ H; by_cases c17 : x4_1.length < 3518437208883; rotate_left
   ·rw [if_neg c17] at H; exact no_ H
   rw [if_pos c17] at H; have LMc17 := Aside0.mk c17; clear c17; obtain ⟨y109, hy109⟩ : ∃ y_ : List (S108), y_ = (x4_1 ++ [(⟨t102, t105, t108⟩ : S108)]) := ⟨_, rfl⟩; replace H : (tree_Parse.l0 k1 (t106.extract 20 t106.size) y109) = some (r1, r2) := by first | (rw [hy109]; with_reducible exact H) | (have H2_ := (Option.bind_some _ _).symm.trans H; rw [hy109]; with_reducible exact H2_) | (have H2_ := (Option.bind_some _ _).symm.trans H; with_reducible exact H2_) | with_reducible exact H | (rw [hy109]; exact H) | exact H
   have Ny109 := Aside0.mk hy109; clear hy109; have c18b0 := eq_true (y0_ : 20 ≤ (t106.size : Int)); have H' := Aside0.mk H; clear H; go_wp2_with (first | ((with_reducible refine gate_callee (f := 148) rfl ?_); refine gl_ (some 16) func148 #[.string x0_1] ?_; refine cm_ (tree_mode.calls k1 x0_1 t102 t103 t104 _ A9.out) ?_; rintro w' ⟨nd, rfl⟩) | ((with_reducible refine gate_callee (f := 82) rfl ?_); refine gl_ (some 25) func82 #[.string t103, .string ⟨#[0]⟩] ?_; (with_reducible refine (strings_Cut.calls t103 ⟨#[0]⟩ t105 t106 true _ ?side1 A11.out).mono ?_); (case side1 => exact GV.below hgv (hb_ HB.out)); rintro e w' ⟨rfl, ⟨nd, rfl⟩⟩; refine ⟨_, rfl, ?_⟩) | ((with_reducible refine gate_callee (f := 149) rfl ?_); refine gl_ (some 41) func149 #[.string (t106.extract 0 20)] ?_; refine cm_ (ident_Hex.calls k1 (t106.extract 0 20) t108 _ A16.out) fun w19 hb => ?_; replace HO_4 := Aside0.mk (Kd.R_below (rk_ HO_4.out) hb); replace HB := ah_ HB hb; (try clear hb); (try clear hb2); (try clear hk); (try clear hi)) | ((with_reducible refine gate_builtin (b := .append) (xs := #[.tmp 36, .tmp 43]) rfl ?_); (try (refine gate_guard (by rfl) ?_; dsimp only)); at_builtin; refine Kd.R_append k108 (w0 := w) w.heap.size rfl (.tmp 36) (.tmp 43) 104 108 (.agg #[(.int .i64 0), (.string ⟨#[]⟩), (.string ⟨#[]⟩)]) 40 rfl underlying104 info108 rfl (by decide) (by omega) u4 x4_1 (⟨t102, t105, t108⟩ : S108) [.int .i64 t102, .string t105, .string t108] (fun _ => True) (fun _ => False) rfl rfl ?aP (fun _ hk => hk.elim) ?aF ?aO ?aB ?aS ?aL ?_; (case aP => exact k108_mkM _ _ _ (⟨t102, t105, t108⟩ : S108)); (case aB => exact (hb_ HB.out)); (case aF => exact (fun _ _ => trivial)); (case aO => exact (rk_ HO_4.out)); (case aS => exact (below_size (hb_ HB.out))); (case aL => have := LMc17.out; omega); intro v110 w20 ho hb hg hat; rw [← Ny109.out] at ho; have n0_ := Aside0.mk (hb); have n1_ := Aside0.mk (ho); clear HB; clear HO_4; have HB := n0_; have HO111 := n1_; clear n0_ n1_; clear ho hb hg hat)); go_roundg k1
   case measure => have := HK1.out; omega
   case rel => exact ⟨(t106.extract 20 t106.size), (y109), z1_, H', ⟨by have := HK1.out; omega⟩, ⟨by (with_reducible repeat (first | apply Kd.R_alloc | apply Kd.R_drewN | apply Kd.R_drew)); exact HO111.out⟩, ⟨hb_ HB.out⟩⟩
def IsS87 (w0 W : World) (g : Nat) (f0 : ByteArray) (f1 : Int) : Prop := W.heap[g]? = some (.cells #[.string f0, .int .i64 f1] 87 (0, 0)) ∧ w0.heap.size ≤ g
theorem IsS87.grown {w0 W : World} {g : Nat} {f0 : ByteArray} {f1 : Int} {W1 : World} {row : Option Nat} (h : IsS87 w0 W g f0 f1) (hw : W.grownBy W1 row) (hne : some g ≠ row) : IsS87 w0 W1 g f0 f1 := by
 obtain ⟨hb, hg⟩ := h; exact ⟨blk_grown hb hw hne, hg⟩
theorem IsS87.fresh {w0 W : World} {g : Nat} {f0 : ByteArray} {f1 : Int} (h : IsS87 w0 W g f0 f1) : ∀ k, W.heap.size ≤ k → k ≠ g := by
 obtain ⟨hb, hg⟩ := h; exact Kd.freshB hb
theorem IsS87.kept {w0 W : World} {g : Nat} {f0 : ByteArray} {f1 : Int} {W1 : World} {S : Nat → Prop} (h : IsS87 w0 W g f0 f1) (hk : Kept W W1 S) (hne : ¬ S g) : IsS87 w0 W1 g f0 f1 := by
 obtain ⟨hb, hg⟩ := h; exact ⟨blk_kept hb hk hne, hg⟩
theorem IsS87.below {w0 W : World} {g : Nat} {f0 : ByteArray} {f1 : Int} {W1 : World} (h : IsS87 w0 W g f0 f1) (hw : Below W.heap.size W W1) : IsS87 w0 W1 g f0 f1 := h.grown (grown_of_below hw none) (by simp)
theorem IsS87.alloc {w0 W : World} {g : Nat} {f0 : ByteArray} {f1 : Int} (h : IsS87 w0 W g f0 f1) (o : Obj) : IsS87 w0 (W.alloc o) g f0 f1 := h.below (below_alloc (Below.refl _ _) o)
theorem IsS87.drewN {w0 W : World} {g : Nat} {f0 : ByteArray} {f1 : Int} (h : IsS87 w0 W g f0 f1) (m : Nat) : IsS87 w0 (W.drewN m) g f0 f1 := h
theorem IsS87.drew {w0 W : World} {g : Nat} {f0 : ByteArray} {f1 : Int} (h : IsS87 w0 W g f0 f1) : IsS87 w0 W.drew g f0 f1 := h
theorem IsS87.at_ {w0 W : World} {g : Nat} {f0 : ByteArray} {f1 : Int} {w' : World} {m : Nat} (hq : W.drewN m = w') (h : IsS87 w0 W g f0 f1) : IsS87 w0 w' g f0 f1 := by subst hq; exact IsS87.drewN h m
theorem IsS87.apart {w0 W : World} {g : Nat} {f0 : ByteArray} {f1 : Int} {α : Type} {d : Kd α} {e : Nat} {base : Nat} {ok : Nat → Prop} {v : Value} {xs : List α} (h : IsS87 w0 W g f0 f1) (ho : d.R e W base ok v xs) (ht : ∀ q, q ∈ e :: d.E → q ≠ 87) : d.R e W base (fun k => ok k ∧ k ≠ g) v xs := by
 obtain ⟨hb, hg⟩ := h; exact Kd.R_types ho hb ht
theorem IsS87.own_ne {w0 W : World} {g : Nat} {f0 : ByteArray} {f1 : Int} {α : Type} {d : Kd α} {e : Nat} {base : Nat} {ok : Nat → Prop} {v : Value} {xs : List α} (h : IsS87 w0 W g f0 f1) (ho : d.R e W base ok v xs) (ht : e ≠ 87) : some g ≠ v.ownBlock := by
 obtain ⟨hb, hg⟩ := h; exact Kd.R_ne ho hb ht
theorem IsS87.lt {w0 W : World} {g : Nat} {f0 : ByteArray} {f1 : Int} (h : IsS87 w0 W g f0 f1) : g < W.heap.size := by
 obtain ⟨hb, hg⟩ := h; exact blk_lt hb
theorem IsS87.ge {w0 W : World} {g : Nat} {f0 : ByteArray} {f1 : Int} (h : IsS87 w0 W g f0 f1) : w0.heap.size ≤ g := by
 obtain ⟨hb, hg⟩ := h; exact hg
theorem IsS87.far {w0 W : World} {g : Nat} {f0 : ByteArray} {f1 : Int} {p : Addr} (h : IsS87 w0 W g f0 f1) (hne : g ≠ p.block) (u : Value) : IsS87 w0 (W.setCell p u) g f0 f1 := by
 obtain ⟨hb, hg⟩ := h; exact ⟨blk_far hb hne u, hg⟩
theorem cellS87_0 {W : World} {g : Nat} {f0 : ByteArray} {f1 : Int} (h : W.heap[g]? = some (.cells #[.string f0, .int .i64 f1] 87 (0, 0))) : W.cell? ⟨g, 0, none⟩ = some (.string f0) := (blk_cell h 0).trans rfl
theorem IsS87.set_0 {w0 W : World} {g : Nat} {f0 : ByteArray} {f1 : Int} (h : IsS87 w0 W g f0 f1) (x : ByteArray) : IsS87 w0 (W.setCell ⟨g, 0, none⟩ (.string x)) g x f1 := by
 obtain ⟨hb, hg⟩ := h; exact ⟨by simpa using blk_set hb 0 (.string x), hg⟩
theorem cellS87_1 {W : World} {g : Nat} {f0 : ByteArray} {f1 : Int} (h : W.heap[g]? = some (.cells #[.string f0, .int .i64 f1] 87 (0, 0))) : W.cell? ⟨g, 1, none⟩ = some (.int .i64 f1) := (blk_cell h 1).trans rfl
theorem IsS87.set_1 {w0 W : World} {g : Nat} {f0 : ByteArray} {f1 : Int} (h : IsS87 w0 W g f0 f1) (x : Int) : IsS87 w0 (W.setCell ⟨g, 1, none⟩ (.int .i64 x)) g f0 x := by
 obtain ⟨hb, hg⟩ := h; exact ⟨by simpa using blk_set hb 1 (.int .i64 x), hg⟩
theorem IsS87.new (w0 W : World) (f0 : ByteArray) (f1 : Int) (hB : Below w0.heap.size w0 W) : IsS87 w0 (W.alloc (.cells #[.string f0, .int .i64 f1] 87)) W.heap.size f0 f1 := ⟨by simpa using heap_alloc_new W _, hB.size⟩
def commit_reader_fail.f (s0_0 : ByteArray) (s0_1 : Int) (a1 : Int) : Option (ByteArray × Int) := if s0_1 = 0 then (some (s0_0, a1)) else (if a1 = 2 then (some (s0_0, a1)) else (some (s0_0, s0_1)))
theorem commit_reader_fail.calls (g : Nat) (s0_0 : ByteArray) (s0_1 : Int) (a1 : Int) (r1 : ByteArray) (r2 : Int) (w0 w : World) (hI : IsS87 w0 w g s0_0 s0_1) (hB : Below w0.heap.size w0 w) (h : commit_reader_fail.f s0_0 s0_1 a1 = some (r1, r2)) :
  Calls Tryz.prog 74 #[.pointer (some ⟨g, 0, none⟩), .int .i64 a1] w fun e w' => e = .returned (.tuple #[]) ∧ IsS87 w0 w' g r1 r2 ∧ Below w0.heap.size w0 w' ∧ KeepBut w w' g none := by
 have HI0 := Aside0.mk hI; have HK := Aside0.mk (KeepBut.refl w g none); have HL := Aside0.mk hB.size; clear hI; have HW0 := Aside0.mk hB.size; have HB := Aside0.mk hB; clear hB; unfold commit_reader_fail.f at h; have H := h; clear h; by_cases c3 : s0_1 = 0
 ·rw [if_pos c3] at H; have c3b0 := et_ c3; have c3b1 := nf_ c3; clear c3; obtain ⟨rfl, rfl⟩ := pj2_ H; obtain ⟨HGz4, hgz4⟩ := HI0.out; have Z4_0 := cellS87_0 HGz4; have Z4_1 := cellS87_1 HGz4; have F4_0 := blk_frozen HGz4 0; have F4_1 := blk_frozen HGz4 1; clear HGz4 hgz4; go_enter func74, ntmps74; go_wp2
  first | go_end0 | ((try simp only [Exit.inBlock, Exit.then]); refine bodyPost_ret (results_none rfl _ _ _) rfl ?_)
  exact ⟨z3_, z10_, z11_, z7_⟩
 rw [if_neg c3] at H; have c3b0 := ef_ c3; have c3b1 := nt_ c3; by_cases c5 : a1 = 2; rotate_left
 ·rw [if_neg c5] at H; have c5b0 := ef_ c5; have c5b1 := nt_ c5; obtain ⟨rfl, rfl⟩ := pj2_ H; obtain ⟨HGz7, hgz7⟩ := HI0.out; have Z7_0 := cellS87_0 HGz7; have Z7_1 := cellS87_1 HGz7; have F7_0 := blk_frozen HGz7 0; have F7_1 := blk_frozen HGz7 1; clear HGz7 hgz7; go_enter func74, ntmps74; go_wp2
  first | go_end0 | ((try simp only [Exit.inBlock, Exit.then]); refine bodyPost_ret (results_none rfl _ _ _) rfl ?_)
  exact ⟨z3_, z10_, z11_, z7_⟩
 rw [if_pos c5] at H; have c5b0 := et_ c5; have c5b1 := nf_ c5; clear c5; obtain ⟨rfl, rfl⟩ := pj2_ H; obtain ⟨HGz6, hgz6⟩ := HI0.out; have Z6_0 := cellS87_0 HGz6; have Z6_1 := cellS87_1 HGz6; have F6_0 := blk_frozen HGz6 0; have F6_1 := blk_frozen HGz6 1; clear HGz6 hgz6; go_enter func74, ntmps74; go_wp2
 first | go_end0 | ((try simp only [Exit.inBlock, Exit.then]); refine bodyPost_ret (results_none rfl _ _ _) rfl ?_)
 exact ⟨z3_, z10_, z11_, z7_⟩
def commit_reader_line.f (s0_0 : ByteArray) (s0_1 : Int) (a1 : ByteArray) : Option (ByteArray × ByteArray × Int) := (strings_Cut.f s0_0 ⟨#[10]⟩).bind fun bt106 => ((strings_CutPrefix.f bt106.1 a1).bind fun bt109 => (if bt106.2.2 = true then (if bt109.2 = true then (some (bt109.1, bt106.2.1, s0_1)) else ((commit_reader_fail.f s0_0 s0_1 2).bind fun bt111 => (some ((⟨#[]⟩ : ByteArray), bt111.1, bt111.2)))) else ((commit_reader_fail.f s0_0 s0_1 2).bind fun bt113 => (some ((⟨#[]⟩ : ByteArray), bt113.1, bt113.2)))))
theorem commit_reader_line.calls (g : Nat) (s0_0 : ByteArray) (s0_1 : Int) (a1 : ByteArray) (r1 : ByteArray) (r2 : ByteArray) (r3 : Int) (w0 w : World) (hI : IsS87 w0 w g s0_0 s0_1) (hB : Below w0.heap.size w0 w) (hgv : GV w0) (h : commit_reader_line.f s0_0 s0_1 a1 = some (r1, r2, r3)) :
  Calls Tryz.prog 73 #[.pointer (some ⟨g, 0, none⟩), .string a1] w fun e w' => e = .returned (.string r1) ∧ IsS87 w0 w' g r2 r3 ∧ Below w0.heap.size w0 w' ∧ KeepBut w w' g none := by
 have HI0 := Aside0.mk hI; have HK := Aside0.mk (KeepBut.refl w g none); have HL := Aside0.mk hB.size; clear hI; have HW0 := Aside0.mk hB.size; have HB := Aside0.mk hB; clear hB; unfold commit_reader_line.f at h; have H := h; clear h; obtain ⟨⟨t106, t107, t108⟩, A3, H⟩ := bx_ H; dsimp only at H; obtain ⟨⟨t109, t110⟩, A4, H⟩ := bx_ H; dsimp only at H; by_cases c5 : t108 = true; rotate_left
 ·replace c5 := Bool.eq_false_iff.mpr c5; subst c5; rw [if_neg nft_] at H; obtain ⟨⟨t113, t114⟩, A11, H⟩ := bx_ H; dsimp only at H; obtain ⟨rfl, rfl, rfl⟩ := pj3_ H; obtain ⟨HGz12, hgz12⟩ := HI0.out; have Z12_0 := cellS87_0 HGz12; have Z12_1 := cellS87_1 HGz12; have F12_0 := blk_frozen HGz12 0; have F12_1 := blk_frozen HGz12 1; clear HGz12 hgz12; go_enter func73, ntmps73; go_wp2_with (first | ((with_reducible refine gate_callee (f := 82) rfl ?_); refine gl_ (some 15) func82 #[.string s0_0, .string ⟨#[10]⟩] ?_; (with_reducible refine (strings_Cut.calls s0_0 ⟨#[10]⟩ t106 t107 false _ ?side1 A3.out).mono ?_); (case side1 => exact GV.below hgv z11_); rintro e w' ⟨rfl, ⟨nd, rfl⟩⟩; refine ⟨_, rfl, ?_⟩) | ((with_reducible refine gate_callee (f := 142) rfl ?_); refine gl_ (some 22) func142 #[.string t106, .string a1] ?_; refine cm_ (strings_CutPrefix.calls t106 a1 t109 t110 _ A4.out) ?_; rintro w' ⟨nd, rfl⟩) | ((with_reducible refine gate_callee (f := 74) rfl ?_); refine gl_ (some 32) func74 #[.pointer (some ⟨g, 0, none⟩), .int .i64 2] ?_; (with_reducible refine (commit_reader_fail.calls g s0_0 s0_1 2 t113 t114 w0 _ ?side1 ?side2 A11.out).mono ?_); (case side1 => repeat (first | (with_reducible first | exact HI0.out | apply IsS87.alloc | apply IsS87.drewN | apply IsS87.drew | apply IsS87.set_0 | apply IsS87.set_1) | exact HI0.out)); (case side2 => repeat (first | (with_reducible first | exact HB.out | apply below_alloc | apply pw_below_drewN | apply below_drew1 | refine below_set ?_ (IsS87.ge HI0.out)) | exact HB.out)); rintro e w13 ⟨rfl, hi, hb, hk⟩; refine ⟨_, rfl, ?_⟩; replace HK := Aside0.mk (KeepBut.trans z7_ hk (.inl rfl)); replace HB := Aside0.mk (hb); replace HI0 := Aside0.mk (hi); (try clear hb); (try clear hb2); (try clear hk); (try clear hi)))
  go_ret
  exact ⟨z3_, z10_, z11_, z7_⟩
 subst c5; rw [if_pos rfl] at H; by_cases c6 : t110 = true
 ·subst c6; rw [if_pos rfl] at H; obtain ⟨rfl, rfl, rfl⟩ := pj3_ H; obtain ⟨HGz7, hgz7⟩ := HI0.out; have Z7_0 := cellS87_0 HGz7; have Z7_1 := cellS87_1 HGz7; have F7_0 := blk_frozen HGz7 0; have F7_1 := blk_frozen HGz7 1; clear HGz7 hgz7; go_enter func73, ntmps73; go_wp2_with (first | ((with_reducible refine gate_callee (f := 82) rfl ?_); refine gl_ (some 15) func82 #[.string s0_0, .string ⟨#[10]⟩] ?_; (with_reducible refine (strings_Cut.calls s0_0 ⟨#[10]⟩ t106 t107 true _ ?side1 A3.out).mono ?_); (case side1 => exact GV.below hgv z11_); rintro e w' ⟨rfl, ⟨nd, rfl⟩⟩; refine ⟨_, rfl, ?_⟩) | ((with_reducible refine gate_callee (f := 142) rfl ?_); refine gl_ (some 22) func142 #[.string t106, .string a1] ?_; refine cm_ (strings_CutPrefix.calls t106 a1 t109 true _ A4.out) ?_; rintro w' ⟨nd, rfl⟩)); go_ret
  exact ⟨z3_, z10_, z11_, z7_⟩
 replace c6 := Bool.eq_false_iff.mpr c6; subst c6; rw [if_neg nft_] at H; obtain ⟨⟨t111, t112⟩, A8, H⟩ := bx_ H; dsimp only at H; obtain ⟨rfl, rfl, rfl⟩ := pj3_ H; obtain ⟨HGz9, hgz9⟩ := HI0.out; have Z9_0 := cellS87_0 HGz9; have Z9_1 := cellS87_1 HGz9; have F9_0 := blk_frozen HGz9 0; have F9_1 := blk_frozen HGz9 1; clear HGz9 hgz9; go_enter func73, ntmps73; go_wp2_with (first | ((with_reducible refine gate_callee (f := 82) rfl ?_); refine gl_ (some 15) func82 #[.string s0_0, .string ⟨#[10]⟩] ?_; (with_reducible refine (strings_Cut.calls s0_0 ⟨#[10]⟩ t106 t107 true _ ?side1 A3.out).mono ?_); (case side1 => exact GV.below hgv z11_); rintro e w' ⟨rfl, ⟨nd, rfl⟩⟩; refine ⟨_, rfl, ?_⟩) | ((with_reducible refine gate_callee (f := 142) rfl ?_); refine gl_ (some 22) func142 #[.string t106, .string a1] ?_; refine cm_ (strings_CutPrefix.calls t106 a1 t109 false _ A4.out) ?_; rintro w' ⟨nd, rfl⟩) | ((with_reducible refine gate_callee (f := 74) rfl ?_); refine gl_ (some 32) func74 #[.pointer (some ⟨g, 0, none⟩), .int .i64 2] ?_; (with_reducible refine (commit_reader_fail.calls g s0_0 s0_1 2 t111 t112 w0 _ ?side1 ?side2 A8.out).mono ?_); (case side1 => repeat (first | (with_reducible first | exact HI0.out | apply IsS87.alloc | apply IsS87.drewN | apply IsS87.drew | apply IsS87.set_0 | apply IsS87.set_1) | exact HI0.out)); (case side2 => repeat (first | (with_reducible first | exact HB.out | apply below_alloc | apply pw_below_drewN | apply below_drew1 | refine below_set ?_ (IsS87.ge HI0.out)) | exact HB.out)); rintro e w10 ⟨rfl, hi, hb, hk⟩; refine ⟨_, rfl, ?_⟩; replace HK := Aside0.mk (KeepBut.trans z7_ hk (.inl rfl)); replace HB := Aside0.mk (hb); replace HI0 := Aside0.mk (hi); (try clear hb); (try clear hb2); (try clear hk); (try clear hi)))
 go_ret
 exact ⟨z3_, z10_, z11_, z7_⟩
def commit_reader_id.f (k : Nat) (s0_0 : ByteArray) (s0_1 : Int) (a1 : ByteArray) : Option (ByteArray × ByteArray × Int) := (commit_reader_line.f s0_0 s0_1 a1).bind fun bt101 => ((ident_Is.f k bt101.1).bind fun t104 => (if t104 = true then (some (bt101.1, bt101.2.1, bt101.2.2)) else ((commit_reader_fail.f bt101.2.1 bt101.2.2 2).bind fun bt105 => (some (bt101.1, bt105.1, bt105.2)))))
theorem commit_reader_id.mono : ∀ a0 a1 a2 k, LeO (commit_reader_id.f k a0 a1 a2) (commit_reader_id.f (k + 1) a0 a1 a2) := by
 intro a0 a1 a2 k; unfold commit_reader_id.f; have m0_ := @ident_Is.mono; exact mz_
theorem commit_reader_id.calls (k : Nat) (g : Nat) (s0_0 : ByteArray) (s0_1 : Int) (a1 : ByteArray) (r1 : ByteArray) (r2 : ByteArray) (r3 : Int) (w0 w : World) (hI : IsS87 w0 w g s0_0 s0_1) (hB : Below w0.heap.size w0 w) (hgv : GV w0) (h : commit_reader_id.f k s0_0 s0_1 a1 = some (r1, r2, r3)) :
  Calls Tryz.prog 70 #[.pointer (some ⟨g, 0, none⟩), .string a1] w fun e w' => e = .returned (.string r1) ∧ IsS87 w0 w' g r2 r3 ∧ Below w0.heap.size w0 w' ∧ KeepBut w w' g none := by
 have HI0 := Aside0.mk hI; have HK := Aside0.mk (KeepBut.refl w g none); have HL := Aside0.mk hB.size; clear hI; have HW0 := Aside0.mk hB.size; have HB := Aside0.mk hB; clear hB; unfold commit_reader_id.f at h; have H := h; clear h; obtain ⟨⟨t101, t102, t103⟩, A3, H⟩ := bx_ H; dsimp only at H; obtain ⟨t104, A4, H⟩ := bx_ H; by_cases c5 : t104 = true
 ·subst c5; rw [if_pos rfl] at H; obtain ⟨rfl, rfl, rfl⟩ := pj3_ H; go_enter func70, ntmps70; go_wp2_with (first | ((with_reducible refine gate_callee (f := 73) rfl ?_); refine gl_ (some 8) func73 #[.pointer (some ⟨g, 0, none⟩), .string a1] ?_; (with_reducible refine (commit_reader_line.calls g s0_0 s0_1 a1 t101 t102 t103 w0 _ ?side1 ?side2 ?side3 A3.out).mono ?_); (case side1 => repeat (first | (with_reducible first | exact HI0.out | apply IsS87.alloc | apply IsS87.drewN | apply IsS87.drew | apply IsS87.set_0 | apply IsS87.set_1) | exact HI0.out)); (case side2 => repeat (first | (with_reducible first | exact HB.out | apply below_alloc | apply pw_below_drewN | apply below_drew1 | refine below_set ?_ (IsS87.ge HI0.out)) | exact HB.out)); (case side3 => exact hgv); rintro e w6 ⟨rfl, hi, hb, hk⟩; refine ⟨_, rfl, ?_⟩; replace HK := Aside0.mk (KeepBut.trans z7_ hk (.inl rfl)); replace HB := Aside0.mk (hb); replace HI0 := Aside0.mk (hi); (try clear hb); (try clear hb2); (try clear hk); (try clear hi)) | ((with_reducible refine gate_callee (f := 65) rfl ?_); refine gl_ (some 10) func65 #[.string t101] ?_; refine cm_ (ident_Is.calls k t101 true _ A4.out) ?_; rintro w' ⟨nd, rfl⟩)); go_ret
  exact ⟨z3_, z10_, z11_, z7_⟩
 replace c5 := Bool.eq_false_iff.mpr c5; subst c5; rw [if_neg nft_] at H; obtain ⟨⟨t105, t106⟩, A7, H⟩ := bx_ H; dsimp only at H; obtain ⟨rfl, rfl, rfl⟩ := pj3_ H; go_enter func70, ntmps70; go_wp2_with (first | ((with_reducible refine gate_callee (f := 73) rfl ?_); refine gl_ (some 8) func73 #[.pointer (some ⟨g, 0, none⟩), .string a1] ?_; (with_reducible refine (commit_reader_line.calls g s0_0 s0_1 a1 t101 t102 t103 w0 _ ?side1 ?side2 ?side3 A3.out).mono ?_); (case side1 => repeat (first | (with_reducible first | exact HI0.out | apply IsS87.alloc | apply IsS87.drewN | apply IsS87.drew | apply IsS87.set_0 | apply IsS87.set_1) | exact HI0.out)); (case side2 => repeat (first | (with_reducible first | exact HB.out | apply below_alloc | apply pw_below_drewN | apply below_drew1 | refine below_set ?_ (IsS87.ge HI0.out)) | exact HB.out)); (case side3 => exact hgv); rintro e w8 ⟨rfl, hi, hb, hk⟩; refine ⟨_, rfl, ?_⟩; replace HK := Aside0.mk (KeepBut.trans z7_ hk (.inl rfl)); replace HB := Aside0.mk (hb); replace HI0 := Aside0.mk (hi); (try clear hb); (try clear hb2); (try clear hk); (try clear hi)) | ((with_reducible refine gate_callee (f := 65) rfl ?_); refine gl_ (some 10) func65 #[.string t101] ?_; refine cm_ (ident_Is.calls k t101 false _ A4.out) ?_; rintro w' ⟨nd, rfl⟩) | ((with_reducible refine gate_callee (f := 74) rfl ?_); refine gl_ (some 13) func74 #[.pointer (some ⟨g, 0, none⟩), .int .i64 2] ?_; (with_reducible refine (commit_reader_fail.calls g t102 t103 2 t105 t106 w0 _ ?side1 ?side2 A7.out).mono ?_); (case side1 => repeat (first | (with_reducible first | exact HI0.out | apply IsS87.alloc | apply IsS87.drewN | apply IsS87.drew | apply IsS87.set_0 | apply IsS87.set_1) | exact HI0.out)); (case side2 => repeat (first | (with_reducible first | exact HB.out | apply below_alloc | apply pw_below_drewN | apply below_drew1 | refine below_set ?_ (IsS87.ge HI0.out)) | exact HB.out)); rintro e w9 ⟨rfl, hi, hb, hk⟩; refine ⟨_, rfl, ?_⟩; replace HK := Aside0.mk (KeepBut.trans z7_ hk (.inl rfl)); replace HB := Aside0.mk (hb); replace HI0 := Aside0.mk (hi); (try clear hb); (try clear hb2); (try clear hk); (try clear hi)))
 go_ret
 exact ⟨z3_, z10_, z11_, z7_⟩
mutual
def commit_digits.j0 : Nat → ByteArray → Bool → Option (Int × Bool)
 | 0, _, _ => none
 | k + 1, x0, x27 => if x27 = true then (some (0, false)) else (commit_digits.l0 k x0 (x0.size : Int) 0)
def commit_digits.l0 : Nat → ByteArray → Int → Int → Option (Int × Bool)
 | 0, _, _, _ => none
 | k + 1, x0, x29, x30 => if x30 < x29 then (if 0 ≤ x30 then (if x30 < (x0.size : Int) then (if (bt x0 x30) < 48 then (some (0, false)) else (if (bt x0 x30) > 57 then (some (0, false)) else (commit_digits.l0 k x0 x29 (wrap64 (x30 + 1))))) else (none)) else (none)) else ((strconv_Atoi.f x0).bind fun bt101 => (if bt101.2.isNone = true then (some (bt101.1, true)) else (some (bt101.1, false))))
end
def commit_digits.f (k : Nat) (a0 : ByteArray) (a1 : Int) : Option (Int × Bool) := if (a0.size : Int) < 1 then (commit_digits.j0 k a0 true) else (if (a0.size : Int) > a1 then (commit_digits.j0 k a0 true) else (if (a0.size : Int) > 1 then (if 0 < (a0.size : Int) then (commit_digits.j0 k a0 ((bt a0 0) == 48)) else (none)) else (commit_digits.j0 k a0 false)))
theorem commit_digits.mono_l : ∀ k, (∀ y0 y1, LeO (commit_digits.j0 k y0 y1) (commit_digits.j0 (k + 1) y0 y1)) ∧ (∀ y0 y1 y2, LeO (commit_digits.l0 k y0 y1 y2) (commit_digits.l0 (k + 1) y0 y1 y2))
 | 0 => ⟨fun _ _ r h => by simp [commit_digits.j0] at h, fun _ _ _ r h => by simp [commit_digits.l0] at h⟩
 | k + 1 => by
  obtain ⟨ih0, ih1⟩ := commit_digits.mono_l k
  refine ⟨?_, ?_⟩
  ·intro y0 y1
   unfold commit_digits.j0
   have m0_ := @ih0
   have m1_ := @ih1
   exact mz_
  ·intro y0 y1 y2
   unfold commit_digits.l0
   have m0_ := @ih0
   have m1_ := @ih1
   exact mz_
theorem commit_digits.mono : ∀ a0 a1 k, LeO (commit_digits.f k a0 a1) (commit_digits.f (k + 1) a0 a1) := by
 intro a0 a1 k; obtain ⟨ih0, ih1⟩ := commit_digits.mono_l k; unfold commit_digits.f; have m0_ := @ih0; have m1_ := @ih1; exact mz_
theorem commit_digits.calls (k : Nat) (a0 : ByteArray) (a1 : Int) (r1 : Int) (r2 : Bool) (w : World) (h : commit_digits.f k a0 a1 = some (r1, r2)) :
  Calls Tryz.prog 83 #[.string a0, .int .i64 a1] w fun e w' => e = .returned (.tuple #[.int .i64 r1, .bool r2]) ∧ Below w.heap.size w w' := by
 have hu117 := underlying117; have HB := Aside0.mk (Below.refl w.heap.size w); unfold commit_digits.f at h; have H := h; clear h; have HC3 := Aside0.mk H; clear H; go_enter func83, ntmps83; go_upto_region 1 with (fail)
 repeat (go_quiet (fail); go_upto_region 1 with (fail))
 go_cut [27] (fun v27 wc => ∃ (kq : Nat) (x27_2 : Bool), v27 = .bool x27_2 ∧ Aside0 (commit_digits.j0 kq a0 x27_2 = some (r1, r2)) ∧ Aside0 (kq ≤ k) ∧ Aside0 (Below w.heap.size w wc))
 case first =>
  have H := HC3.out; clear HC3; by_cases c4 : (a0.size : Int) < 1
  ·rw [if_pos c4] at H; have c4b0 := dt_ c4; have c4b1 : decide (a0.size < 1) = true := decide_eq_true (by omega); clear c4; (first | rw [c4b0] | (simp only [i64_w, i32_w]; rw [c4b0]) | skip); have H' := Aside0.mk H; clear H; go_wp2
   repeat (go_quiet (fail); try go_wp2)
   go_meet
   case rel => exact ⟨_, (true), z1_, H', ⟨z4_⟩, ⟨hb_ HB.out⟩⟩
  rw [if_neg c4] at H; have c4b0 := df_ c4; have c4b1 : decide (a0.size < 1) = false := decide_eq_false (by omega); clear c4; (first | rw [c4b0] | (simp only [i64_w, i32_w]; rw [c4b0]) | skip); by_cases c5 : (a0.size : Int) > a1
  ·rw [if_pos c5] at H; have c5b0 := dt_ c5; clear c5; have H' := Aside0.mk H; clear H; go_wp2
   repeat (go_quiet (fail); try go_wp2)
   go_meet
   case rel => exact ⟨_, (true), z1_, H', ⟨z4_⟩, ⟨hb_ HB.out⟩⟩
  rw [if_neg c5] at H; have c5b0 := df_ c5; clear c5; by_cases c6 : (a0.size : Int) > 1; rotate_left
  ·rw [if_neg c6] at H; have c6b0 := df_ c6; have c6b1 : decide (1 < a0.size) = false := decide_eq_false (by omega); clear c6; have H' := Aside0.mk H; clear H; go_wp2
   repeat (go_quiet (fail); try go_wp2)
   go_meet
   case rel => exact ⟨_, (false), z1_, H', ⟨z4_⟩, ⟨hb_ HB.out⟩⟩
  rw [if_pos c6] at H; have c6b0 := dt_ c6; have c6b1 : decide (1 < a0.size) = true := decide_eq_true (by omega); clear c6; by_cases c7 : 0 < (a0.size : Int); rotate_left
  ·rw [if_neg c7] at H; exact no_ H
  rw [if_pos c7] at H; have c7b0 := dt_ c7; have c7b1 : decide (0 < a0.size) = true := decide_eq_true (by omega); clear c7; have H' := Aside0.mk H; clear H; have p8 : 0 ≤ (0 : Int) := (by omega); have q8 : 0 < a0.size := (by have : (0 : Int) < (a0.size : Int) := y0_; omega)
  have hx8 : ∀ h : 0 < a0.size, ((a0[0]'h).toNat : Int) = bt a0 0 := bt_at a0 0; clear p8; have qi8 : (0 < (a0.size : Int)) = True := eq_true (y0_); replace q8 := eq_true q8; go_wp2
  repeat (go_quiet (fail); try go_wp2)
  go_meet
  case rel => exact ⟨_, (((bt a0 0) == 48)), z1_, H', ⟨z4_⟩, ⟨hb_ HB.out⟩⟩
 case rest =>
  clear HC3; try clear p2
  try clear c4
  try clear c4b0
  try clear c4b1
  try clear c5
  try clear c5b0
  try clear c6
  try clear c6b0
  try clear c6b1
  try clear c7
  try clear c7b0
  try clear c7b1
  try clear c8
  try clear p8
  try clear q8
  try clear hx8
  try clear qi8
  try clear p8
  try clear q8
  obtain ⟨kq, x27_2, rfl, HA, HJ2, HB⟩ := hcut
  cases kq with
  | zero => exact absurd HA.out (by simp [commit_digits.j0])
  | succ kj2 =>
   have H := HA.out; clear HA; simp only [commit_digits.j0] at H; by_cases c9 : x27_2 = true
   ·subst c9; rw [if_pos rfl] at H; obtain ⟨rfl, rfl⟩ := pj2_ H; go_wp2
    repeat (go_quiet (fail); try go_wp2)
    go_ret2
    exact ⟨z3_, hb_ HB.out⟩
   replace c9 := Bool.eq_false_iff.mpr c9; subst c9; rw [if_neg nft_] at H; have H' := Aside0.mk H; clear H; go_wp2
   repeat (go_quiet (fail); try go_wp2)
   go_loopg [30] kj2 (fun kq v30 w' => ∃ (x30_2 : Int), v30 = .int .i64 x30_2 ∧ Aside0 (commit_digits.l0 kq a0 (a0.size : Int) x30_2 = some (r1, r2)) ∧ Aside0 (kq ≤ kj2) ∧ Aside0 (Below w.heap.size w w'))
   case atStart => exact ⟨(0), z1_, H', ⟨Nat.le_refl _⟩, ⟨hb_ HB.out⟩⟩
   case round =>
    clear H'; try clear p2
    try clear c4
    try clear c4b0
    try clear c4b1
    try clear c5
    try clear c5b0
    try clear c6
    try clear c6b0
    try clear c6b1
    try clear c7
    try clear c7b0
    try clear c7b1
    try clear c8
    try clear p8
    try clear q8
    try clear hx8
    try clear qi8
    try clear c9
    try clear p2
    try clear p8
    try clear q8
    obtain ⟨x30_2, rfl, HA, HK2, HB⟩ := hrel
    cases gk with
    | zero => exact absurd HA.out (by simp [commit_digits.l0])
    | succ k2 =>
     have H := HA.out; clear HA; simp only [commit_digits.l0] at H; by_cases c10 : x30_2 < (a0.size : Int); rotate_left
     ·rw [if_neg c10] at H; have c10b0 := df_ c10; clear c10; obtain ⟨⟨t101, t102⟩, A17, H⟩ := bx_ H; dsimp only at H; rcases t102 with _ | q103
      ·have H1 : (some (t101, true)) = some (r1, r2) := by rw [if_pos (show (none : Option Int).isNone = true by rfl)] at H; exact H
       clear H; have H := H1; clear H1; try simp only [errW_none, errW_some]
       obtain ⟨rfl, rfl⟩ := pj2_ H; go_wp2_with (first | (go_at_call 145; (with_reducible refine (strconv_Atoi.calls a0 t101 none _ A17.out).mono ?_); rintro e w18 ⟨rfl, hb⟩; replace HB := ah_ HB hb; (try clear hb); (try clear hb2); (try clear hk); (try clear hi); (try simp only [errW_none, errW_some])))
       repeat (go_quiet (first | (go_at_call 145; (with_reducible refine (strconv_Atoi.calls a0 t101 none _ A17.out).mono ?_); rintro e w18 ⟨rfl, hb⟩; replace HB := ah_ HB hb; (try clear hb); (try clear hb2); (try clear hk); (try clear hi); (try simp only [errW_none, errW_some]))); try go_wp2_with (first | (go_at_call 145; (with_reducible refine (strconv_Atoi.calls a0 t101 none _ A17.out).mono ?_); rintro e w18 ⟨rfl, hb⟩; replace HB := ah_ HB hb; (try clear hb); (try clear hb2); (try clear hk); (try clear hi); (try simp only [errW_none, errW_some]))))
       go_ret2
       exact ⟨z3_, hb_ HB.out⟩
      ·have H1 : (some (t101, false)) = some (r1, r2) := by rw [if_neg (show ¬ (some q103).isNone = true by simp)] at H; exact H
       clear H; have H := H1; clear H1; try simp only [errW_none, errW_some]
       obtain ⟨rfl, rfl⟩ := pj2_ H; go_wp2_with (first | (go_at_call 145; (with_reducible refine (strconv_Atoi.calls a0 t101 (some q103) _ A17.out).mono ?_); rintro e w19 ⟨rfl, hb⟩; replace HB := ah_ HB hb; (try clear hb); (try clear hb2); (try clear hk); (try clear hi); (try simp only [errW_none, errW_some])))
       repeat (go_quiet (first | (go_at_call 145; (with_reducible refine (strconv_Atoi.calls a0 t101 (some q103) _ A17.out).mono ?_); rintro e w19 ⟨rfl, hb⟩; replace HB := ah_ HB hb; (try clear hb); (try clear hb2); (try clear hk); (try clear hi); (try simp only [errW_none, errW_some]))); try go_wp2_with (first | (go_at_call 145; (with_reducible refine (strconv_Atoi.calls a0 t101 (some q103) _ A17.out).mono ?_); rintro e w19 ⟨rfl, hb⟩; replace HB := ah_ HB hb; (try clear hb); (try clear hb2); (try clear hk); (try clear hi); (try simp only [errW_none, errW_some]))))
       go_ret2
       exact ⟨z3_, hb_ HB.out⟩
     rw [if_pos c10] at H; have c10b0 := dt_ c10; clear c10; by_cases c11 : 0 ≤ x30_2; rotate_left
     ·rw [if_neg c11] at H; exact no_ H
     rw [if_pos c11] at H; have c11b0 := dt_ c11; clear c11; by_cases c12 : x30_2 < (a0.size : Int); rotate_left
     ·rw [if_neg c12] at H; exact no_ H
     rw [if_pos c12] at H; have c12b0 := dt_ c12; clear c12; by_cases c14 : (bt a0 x30_2) < 48
     ·rw [if_pos c14] at H; have c14b0 := dt_ c14; clear c14; obtain ⟨rfl, rfl⟩ := pj2_ H; have p13 : 0 ≤ (x30_2 : Int) := y0_; have q13 : x30_2 < (a0.size : Int) := y0_; have hx13 := bt_at a0 x30_2; replace p13 := eq_true p13; replace q13 := eq_true q13; go_wp2
      repeat (go_quiet (fail); try go_wp2)
      go_ret2
      exact ⟨z3_, hb_ HB.out⟩
     rw [if_neg c14] at H; have c14b0 := df_ c14; clear c14; by_cases c16 : (bt a0 x30_2) > 57
     ·rw [if_pos c16] at H; have c16b0 := dt_ c16; clear c16; obtain ⟨rfl, rfl⟩ := pj2_ H; have p13 : 0 ≤ (x30_2 : Int) := y0_; have q13 : x30_2 < (a0.size : Int) := y0_; have hx13 := bt_at a0 x30_2; replace p13 := eq_true p13; replace q13 := eq_true q13; have p15 : 0 ≤ (x30_2 : Int) := y0_; have q15 : x30_2 < (a0.size : Int) := y0_; have hx15 := bt_at a0 x30_2; replace p15 := eq_true p15; replace q15 := eq_true q15; go_wp2
      repeat (go_quiet (fail); try go_wp2)
      go_ret2
      exact ⟨z3_, hb_ HB.out⟩
     rw [if_neg c16] at H; have c16b0 := df_ c16; clear c16; have H' := Aside0.mk H; clear H; have p13 : 0 ≤ (x30_2 : Int) := y0_; have q13 : x30_2 < (a0.size : Int) := y0_; have hx13 := bt_at a0 x30_2; replace p13 := eq_true p13; replace q13 := eq_true q13; have p15 : 0 ≤ (x30_2 : Int) := y0_; have q15 : x30_2 < (a0.size : Int) := y0_; have hx15 := bt_at a0 x30_2; replace p15 := eq_true p15; replace q15 := eq_true q15; go_wp2
     repeat (go_quiet (fail); try go_wp2)
     go_roundg k2
     case measure => have := HJ2.out; have := HK2.out; omega
     case rel => exact ⟨(wrap64 (x30_2 + 1)), z1_, H', ⟨by have := HJ2.out; have := HK2.out; omega⟩, ⟨hb_ HB.out⟩⟩
mutual
def commit_zone.j0 : Nat → ByteArray → Bool → Option (Int × Bool)
 | 0, _, _ => none
 | k + 1, x0, x25 => if x25 = true then (some (0, false)) else (commit_zone.l0 k x0 1)
def commit_zone.l0 : Nat → ByteArray → Int → Option (Int × Bool)
 | 0, _, _ => none
 | k + 1, x0, x4 => if x4 < 5 then (if 0 ≤ x4 then (if x4 < (x0.size : Int) then (if (bt x0 x4) < 48 then (some (0, false)) else (if (bt x0 x4) > 57 then (some (0, false)) else (commit_zone.l0 k x0 (wrap64 (x4 + 1))))) else (none)) else (none)) else (if 1 ≤ 3 then (if 3 ≤ (x0.size : Int) then ((strconv_Atoi.f (x0.extract 1 3)).bind fun bt104 => ((strconv_Atoi.f (x0.extract 3 x0.size)).bind fun bt106 => (if bt106.1 ≥ 60 then (some (0, false)) else (if 0 < (x0.size : Int) then (if (bt x0 0) = 45 then (some (wrap64 ((wrap64 ((-60) * bt104.1)) - bt106.1), true)) else (some (wrap64 ((wrap64 (60 * bt104.1)) + bt106.1), true))) else (none))))) else (none)) else (none))
end
def commit_zone.f (k : Nat) (a0 : ByteArray) : Option (Int × Bool) := if (a0.size : Int) = 5 then (if 0 < (a0.size : Int) then (if (bt a0 0) = 43 then (commit_zone.j0 k a0 (a0.toList == ([45, 48, 48, 48, 48] : List UInt8))) else (if (bt a0 0) = 45 then (commit_zone.j0 k a0 (a0.toList == ([45, 48, 48, 48, 48] : List UInt8))) else (commit_zone.j0 k a0 true))) else (none)) else (commit_zone.j0 k a0 true)
theorem commit_zone.mono_l : ∀ k, (∀ y0 y1, LeO (commit_zone.j0 k y0 y1) (commit_zone.j0 (k + 1) y0 y1)) ∧ (∀ y0 y1, LeO (commit_zone.l0 k y0 y1) (commit_zone.l0 (k + 1) y0 y1))
 | 0 => ⟨fun _ _ r h => by simp [commit_zone.j0] at h, fun _ _ r h => by simp [commit_zone.l0] at h⟩
 | k + 1 => by
  obtain ⟨ih0, ih1⟩ := commit_zone.mono_l k
  refine ⟨?_, ?_⟩
  ·intro y0 y1
   unfold commit_zone.j0
   have m0_ := @ih0
   have m1_ := @ih1
   exact mz_
  ·intro y0 y1
   unfold commit_zone.l0
   have m0_ := @ih0
   have m1_ := @ih1
   exact mz_
theorem commit_zone.mono : ∀ a0 k, LeO (commit_zone.f k a0) (commit_zone.f (k + 1) a0) := by
 intro a0 k; obtain ⟨ih0, ih1⟩ := commit_zone.mono_l k; unfold commit_zone.f; have m0_ := @ih0; have m1_ := @ih1; exact mz_
theorem commit_zone.calls (k : Nat) (a0 : ByteArray) (r1 : Int) (r2 : Bool) (w : World) (h : commit_zone.f k a0 = some (r1, r2)) :
  Calls Tryz.prog 84 #[.string a0] w fun e w' => e = .returned (.tuple #[.int .i64 r1, .bool r2]) ∧ Below w.heap.size w w' := by
 have HB := Aside0.mk (Below.refl w.heap.size w); unfold commit_zone.f at h; have H := h; clear h; have HC2 := Aside0.mk H; clear H; go_enter func84, ntmps84; go_upto_region 1 with (fail)
 go_cut [25] (fun v25 wc => ∃ (kq : Nat) (x25_1 : Bool), v25 = .bool x25_1 ∧ Aside0 (commit_zone.j0 kq a0 x25_1 = some (r1, r2)) ∧ Aside0 (kq ≤ k) ∧ Aside0 (Below w.heap.size w wc))
 case first =>
  have H := HC2.out; clear HC2; by_cases c3 : (a0.size : Int) = 5; rotate_left
  ·rw [if_neg c3] at H; have c3b0 := ef_ c3; have c3b1 := nt_ c3; (first | rw [c3b0] | (simp only [i64_w, i32_w]; rw [c3b0]) | skip); have H' := Aside0.mk H; clear H; go_wp2
   go_meet
   case rel => exact ⟨_, (true), z1_, H', ⟨z4_⟩, ⟨hb_ HB.out⟩⟩
  rw [if_pos c3] at H; have c3b0 := et_ c3; have c3b1 := nf_ c3; clear c3; (first | rw [c3b0] | (simp only [i64_w, i32_w]; rw [c3b0]) | skip); by_cases c4 : 0 < (a0.size : Int); rotate_left
  ·rw [if_neg c4] at H; exact no_ H
  rw [if_pos c4] at H; have c4b0 := dt_ c4; have c4b1 : decide (0 < a0.size) = true := decide_eq_true (by omega); clear c4; by_cases c6 : (bt a0 0) = 43
  ·rw [if_pos c6] at H; have c6b0 := et_ c6; have c6b1 := nf_ c6; clear c6; have H' := Aside0.mk H; clear H; have p5 : 0 ≤ (0 : Int) := (by omega); have q5 : 0 < a0.size := (by have : (0 : Int) < (a0.size : Int) := y0_; omega)
   have hx5 : ∀ h : 0 < a0.size, ((a0[0]'h).toNat : Int) = bt a0 0 := bt_at a0 0; clear p5; have qi5 : (0 < (a0.size : Int)) = True := eq_true (y0_); replace q5 := eq_true q5; go_wp2
   go_meet
   case rel => exact ⟨_, ((a0.toList == ([45, 48, 48, 48, 48] : List UInt8))), z1_, H', ⟨z4_⟩, ⟨hb_ HB.out⟩⟩
  rw [if_neg c6] at H; have c6b0 := ef_ c6; have c6b1 := nt_ c6; by_cases c8 : (bt a0 0) = 45; rotate_left
  ·rw [if_neg c8] at H; have c8b0 := ef_ c8; have c8b1 := nt_ c8; have H' := Aside0.mk H; clear H; have p5 : 0 ≤ (0 : Int) := (by omega); have q5 : 0 < a0.size := (by have : (0 : Int) < (a0.size : Int) := y0_; omega)
   have hx5 : ∀ h : 0 < a0.size, ((a0[0]'h).toNat : Int) = bt a0 0 := bt_at a0 0; clear p5; have qi5 : (0 < (a0.size : Int)) = True := eq_true (y0_); replace q5 := eq_true q5; have p7 : 0 ≤ (0 : Int) := (by omega); have q7 : 0 < a0.size := (by have : (0 : Int) < (a0.size : Int) := y0_; omega)
   have hx7 : ∀ h : 0 < a0.size, ((a0[0]'h).toNat : Int) = bt a0 0 := bt_at a0 0; clear p7; have qi7 : (0 < (a0.size : Int)) = True := eq_true (y0_); replace q7 := eq_true q7; go_wp2
   go_meet
   case rel => exact ⟨_, (true), z1_, H', ⟨z4_⟩, ⟨hb_ HB.out⟩⟩
  rw [if_pos c8] at H; have c8b0 := et_ c8; have c8b1 := nf_ c8; clear c8; have H' := Aside0.mk H; clear H; have p5 : 0 ≤ (0 : Int) := (by omega); have q5 : 0 < a0.size := (by have : (0 : Int) < (a0.size : Int) := y0_; omega)
  have hx5 : ∀ h : 0 < a0.size, ((a0[0]'h).toNat : Int) = bt a0 0 := bt_at a0 0; clear p5; have qi5 : (0 < (a0.size : Int)) = True := eq_true (y0_); replace q5 := eq_true q5; have p7 : 0 ≤ (0 : Int) := (by omega); have q7 : 0 < a0.size := (by have : (0 : Int) < (a0.size : Int) := y0_; omega)
  have hx7 : ∀ h : 0 < a0.size, ((a0[0]'h).toNat : Int) = bt a0 0 := bt_at a0 0; clear p7; have qi7 : (0 < (a0.size : Int)) = True := eq_true (y0_); replace q7 := eq_true q7; go_wp2
  go_meet
  case rel => exact ⟨_, ((a0.toList == ([45, 48, 48, 48, 48] : List UInt8))), z1_, H', ⟨z4_⟩, ⟨hb_ HB.out⟩⟩
 case rest =>
  clear HC2; try clear p2
  try clear c3
  try clear c3b0
  try clear c3b1
  try clear c4
  try clear c4b0
  try clear c4b1
  try clear p5
  try clear q5
  try clear hx5
  try clear qi5
  try clear c6
  try clear c6b0
  try clear c6b1
  try clear p7
  try clear q7
  try clear hx7
  try clear qi7
  try clear c8
  try clear c8b0
  try clear c8b1
  try clear p5
  try clear p7
  try clear q5
  try clear q7
  obtain ⟨kq, x25_1, rfl, HA, HJ1, HB⟩ := hcut
  cases kq with
  | zero => exact absurd HA.out (by simp [commit_zone.j0])
  | succ kj1 =>
   have H := HA.out; clear HA; simp only [commit_zone.j0] at H; by_cases c9 : x25_1 = true
   ·subst c9; rw [if_pos rfl] at H; obtain ⟨rfl, rfl⟩ := pj2_ H; go_wp2
    go_ret2
    exact ⟨z3_, hb_ HB.out⟩
   replace c9 := Bool.eq_false_iff.mpr c9; subst c9; rw [if_neg nft_] at H; have H' := Aside0.mk H; clear H; go_wp2
   go_loopg [4] kj1 (fun kq v4 w' => ∃ (x4_2 : Int), v4 = .int .i64 x4_2 ∧ Aside0 (commit_zone.l0 kq a0 x4_2 = some (r1, r2)) ∧ Aside0 (kq ≤ kj1) ∧ Aside0 (Below w.heap.size w w'))
   case atStart => exact ⟨(1), z1_, H', ⟨Nat.le_refl _⟩, ⟨hb_ HB.out⟩⟩
   case round =>
    clear H'; try clear p2
    try clear c3
    try clear c3b0
    try clear c3b1
    try clear c4
    try clear c4b0
    try clear c4b1
    try clear p5
    try clear q5
    try clear hx5
    try clear qi5
    try clear c6
    try clear c6b0
    try clear c6b1
    try clear p7
    try clear q7
    try clear hx7
    try clear qi7
    try clear c8
    try clear c8b0
    try clear c8b1
    try clear c9
    try clear p2
    try clear p5
    try clear p7
    try clear q5
    try clear q7
    obtain ⟨x4_2, rfl, HA, HK2, HB⟩ := hrel
    cases gk with
    | zero => exact absurd HA.out (by simp [commit_zone.l0])
    | succ k2 =>
     have H := HA.out; clear HA; simp only [commit_zone.l0] at H; by_cases c10 : x4_2 < 5
     ·rw [if_pos c10] at H; have c10b0 := dt_ c10; clear c10; by_cases c11 : 0 ≤ x4_2; rotate_left
      ·rw [if_neg c11] at H; exact no_ H
      rw [if_pos c11] at H; have c11b0 := dt_ c11; clear c11; by_cases c12 : x4_2 < (a0.size : Int); rotate_left
      ·rw [if_neg c12] at H; exact no_ H
      rw [if_pos c12] at H; have c12b0 := dt_ c12; clear c12; by_cases c14 : (bt a0 x4_2) < 48
      ·rw [if_pos c14] at H; have c14b0 := dt_ c14; clear c14; obtain ⟨rfl, rfl⟩ := pj2_ H; have p13 : 0 ≤ (x4_2 : Int) := y0_; have q13 : x4_2 < (a0.size : Int) := y0_; have hx13 := bt_at a0 x4_2; replace p13 := eq_true p13; replace q13 := eq_true q13; go_wp2
       go_ret2
       exact ⟨z3_, hb_ HB.out⟩
      rw [if_neg c14] at H; have c14b0 := df_ c14; clear c14; by_cases c16 : (bt a0 x4_2) > 57
      ·rw [if_pos c16] at H; have c16b0 := dt_ c16; clear c16; obtain ⟨rfl, rfl⟩ := pj2_ H; have p13 : 0 ≤ (x4_2 : Int) := y0_; have q13 : x4_2 < (a0.size : Int) := y0_; have hx13 := bt_at a0 x4_2; replace p13 := eq_true p13; replace q13 := eq_true q13; have p15 : 0 ≤ (x4_2 : Int) := y0_; have q15 : x4_2 < (a0.size : Int) := y0_; have hx15 := bt_at a0 x4_2; replace p15 := eq_true p15; replace q15 := eq_true q15; go_wp2
       go_ret2
       exact ⟨z3_, hb_ HB.out⟩
      rw [if_neg c16] at H; have c16b0 := df_ c16; clear c16; have H' := Aside0.mk H; clear H; have p13 : 0 ≤ (x4_2 : Int) := y0_; have q13 : x4_2 < (a0.size : Int) := y0_; have hx13 := bt_at a0 x4_2; replace p13 := eq_true p13; replace q13 := eq_true q13; have p15 : 0 ≤ (x4_2 : Int) := y0_; have q15 : x4_2 < (a0.size : Int) := y0_; have hx15 := bt_at a0 x4_2; replace p15 := eq_true p15; replace q15 := eq_true q15; go_wp2
      go_roundg k2
      case measure => have := HJ1.out; have := HK2.out; omega
      case rel => exact ⟨(wrap64 (x4_2 + 1)), z1_, H', ⟨by have := HJ1.out; have := HK2.out; omega⟩, ⟨hb_ HB.out⟩⟩
     rw [if_neg c10] at H; have c10b0 := df_ c10; clear c10; by_cases c17 : 1 ≤ 3; rotate_left
     ·rw [if_neg c17] at H; exact no_ H
     rw [if_pos c17] at H; have c17b0 := eq_true c17; have c17b1 := dt_ c17; clear c17; by_cases c18 : 3 ≤ (a0.size : Int); rotate_left
     ·rw [if_neg c18] at H; exact no_ H
     rw [if_pos c18] at H; have c18b0 := eq_true c18; have c18b1 := dt_ c18; clear c18; obtain ⟨⟨t104, t105⟩, A19, H⟩ := bx_ H; dsimp only at H; have c20b0 := eq_true (y0_ : 3 ≤ (a0.size : Int)); obtain ⟨⟨t106, t107⟩, A21, H⟩ := bx_ H; dsimp only at H; by_cases c22 : t106 ≥ 60
     ·rw [if_pos c22] at H; have c22b0 := dt_ c22; clear c22; obtain ⟨rfl, rfl⟩ := pj2_ H; have tk1_ : True := trivial; have tk2_ : True := trivial; go_wp2_with (first | (have _t := tk1_; (with_reducible refine gate_callee (f := 145) rfl ?_); refine gl_ (some 43) func145 #[.string (a0.extract 1 3)] ?_; refine cm_ (strconv_Atoi.calls (a0.extract 1 3) t104 t105 _ A19.out) fun w23 hb => ?_; replace HB := ah_ HB hb; (try clear hb); (try clear hb2); (try clear hk); (try clear hi); (try simp only [errW_none, errW_some]); clear tk1_) | (have _t := tk2_; (with_reducible refine gate_callee (f := 145) rfl ?_); refine gl_ (some 49) func145 #[.string (a0.extract 3 a0.size)] ?_; refine cm_ (strconv_Atoi.calls (a0.extract 3 a0.size) t106 t107 _ A21.out) fun w24 hb => ?_; replace HB := ah_ HB hb; (try clear hb); (try clear hb2); (try clear hk); (try clear hi); (try simp only [errW_none, errW_some]); clear tk2_)); go_ret2
      exact ⟨z3_, hb_ HB.out⟩
     rw [if_neg c22] at H; have c22b0 := df_ c22; clear c22; by_cases c25 : 0 < (a0.size : Int); rotate_left
     ·rw [if_neg c25] at H; exact no_ H
     rw [if_pos c25] at H; have c25b0 := dt_ c25; have c25b1 : decide (0 < a0.size) = true := decide_eq_true (by omega); clear c25; by_cases c27 : (bt a0 0) = 45; rotate_left
     ·rw [if_neg c27] at H; have c27b0 := ef_ c27; have c27b1 := nt_ c27; obtain ⟨rfl, rfl⟩ := pj2_ H; have tk5_ : True := trivial; have tk6_ : True := trivial; go_wp2_with (first | (have _t := tk5_; (with_reducible refine gate_callee (f := 145) rfl ?_); refine gl_ (some 43) func145 #[.string (a0.extract 1 3)] ?_; refine cm_ (strconv_Atoi.calls (a0.extract 1 3) t104 t105 _ A19.out) fun w30 hb => ?_; replace HB := ah_ HB hb; (try clear hb); (try clear hb2); (try clear hk); (try clear hi); (try simp only [errW_none, errW_some]); clear tk5_) | (have _t := tk6_; (with_reducible refine gate_callee (f := 145) rfl ?_); refine gl_ (some 49) func145 #[.string (a0.extract 3 a0.size)] ?_; refine cm_ (strconv_Atoi.calls (a0.extract 3 a0.size) t106 t107 _ A21.out) fun w31 hb => ?_; replace HB := ah_ HB hb; (try clear hb); (try clear hb2); (try clear hk); (try clear hi); (try simp only [errW_none, errW_some]); have p26 : 0 ≤ (0 : Int) := (by omega); have q26 : 0 < a0.size := (by have : (0 : Int) < (a0.size : Int) := y0_; omega); have hx26 : ∀ h : 0 < a0.size, ((a0[0]'h).toNat : Int) = bt a0 0 := bt_at a0 0; clear p26; have qi26 : (0 < (a0.size : Int)) = True := eq_true (y0_); replace q26 := eq_true q26; clear tk6_)); go_ret2
      exact ⟨z3_, hb_ HB.out⟩
     rw [if_pos c27] at H; have c27b0 := et_ c27; have c27b1 := nf_ c27; clear c27; obtain ⟨rfl, rfl⟩ := pj2_ H; have tk3_ : True := trivial; have tk4_ : True := trivial; go_wp2_with (first | (have _t := tk3_; (with_reducible refine gate_callee (f := 145) rfl ?_); refine gl_ (some 43) func145 #[.string (a0.extract 1 3)] ?_; refine cm_ (strconv_Atoi.calls (a0.extract 1 3) t104 t105 _ A19.out) fun w28 hb => ?_; replace HB := ah_ HB hb; (try clear hb); (try clear hb2); (try clear hk); (try clear hi); (try simp only [errW_none, errW_some]); clear tk3_) | (have _t := tk4_; (with_reducible refine gate_callee (f := 145) rfl ?_); refine gl_ (some 49) func145 #[.string (a0.extract 3 a0.size)] ?_; refine cm_ (strconv_Atoi.calls (a0.extract 3 a0.size) t106 t107 _ A21.out) fun w29 hb => ?_; replace HB := ah_ HB hb; (try clear hb); (try clear hb2); (try clear hk); (try clear hi); (try simp only [errW_none, errW_some]); have p26 : 0 ≤ (0 : Int) := (by omega); have q26 : 0 < a0.size := (by have : (0 : Int) < (a0.size : Int) := y0_; omega); have hx26 : ∀ h : 0 < a0.size, ((a0[0]'h).toNat : Int) = bt a0 0 := bt_at a0 0; clear p26; have qi26 : (0 < (a0.size : Int)) = True := eq_true (y0_); replace q26 := eq_true q26; clear tk4_)); go_ret2
     exact ⟨z3_, hb_ HB.out⟩
def commit_ParseWho.j0 : Nat → ByteArray → ByteArray → Int → Int → Bool → Option (ByteArray × ByteArray × Int × Int × Int)
 | 0, _, _, _, _, _ => none
 | k + 1, x4, x7, x12, x14, x68 => if x68 = true then (some ((⟨#[]⟩ : ByteArray), (⟨#[]⟩ : ByteArray), 0, 0, 2)) else ((commit_somebody.f k x4 x7 x12 x14).bind fun t124 => (if t124 = true then (some (x4, x7, x12, x14, 0)) else (some ((⟨#[]⟩ : ByteArray), (⟨#[]⟩ : ByteArray), 0, 0, 1))))
def commit_ParseWho.f (k : Nat) (a0 : ByteArray) : Option (ByteArray × ByteArray × Int × Int × Int) := (strings_Cut.f a0 ⟨#[32, 60]⟩).bind fun bt109 => ((strings_Cut.f bt109.2.1 ⟨#[62, 32]⟩).bind fun bt112 => ((strings_Cut.f bt112.2.1 ⟨#[32]⟩).bind fun bt115 => ((commit_digits.f k bt115.1 18).bind fun bt118 => ((commit_zone.f k bt115.2.1).bind fun bt120 => (if bt109.2.2 = true then (if bt112.2.2 = true then (if bt115.2.2 = true then (if bt118.2 = true then (if bt120.2 = true then (if bt109.1.size + bt112.1.size ≤ 9223372036854775807 then ((strings_ContainsAny.f (bt109.1 ++ bt112.1) ⟨#[60, 62]⟩).bind fun t122 => (commit_ParseWho.j0 k bt109.1 bt112.1 bt118.1 bt120.1 t122)) else (none)) else (commit_ParseWho.j0 k bt109.1 bt112.1 bt118.1 bt120.1 true)) else (commit_ParseWho.j0 k bt109.1 bt112.1 bt118.1 bt120.1 true)) else (commit_ParseWho.j0 k bt109.1 bt112.1 bt118.1 bt120.1 true)) else (commit_ParseWho.j0 k bt109.1 bt112.1 bt118.1 bt120.1 true)) else (commit_ParseWho.j0 k bt109.1 bt112.1 bt118.1 bt120.1 true))))))
theorem commit_ParseWho.mono_l : ∀ k, (∀ y0 y1 y2 y3 y4, LeO (commit_ParseWho.j0 k y0 y1 y2 y3 y4) (commit_ParseWho.j0 (k + 1) y0 y1 y2 y3 y4))
 | 0 => fun _ _ _ _ _ r h => by simp [commit_ParseWho.j0] at h
 | k + 1 => by
  have ih0 := commit_ParseWho.mono_l k
  ·intro y0 y1 y2 y3 y4
   unfold commit_ParseWho.j0
   have m0_ := @ih0
   have m1_ := @commit_digits.mono
   have m2_ := @commit_somebody.mono
   have m3_ := @commit_zone.mono
   exact mz_
theorem commit_ParseWho.mono : ∀ a0 k, LeO (commit_ParseWho.f k a0) (commit_ParseWho.f (k + 1) a0) := by
 intro a0 k; have ih0 := commit_ParseWho.mono_l k; unfold commit_ParseWho.f; have m0_ := @ih0; have m1_ := @commit_digits.mono; have m2_ := @commit_somebody.mono; have m3_ := @commit_zone.mono; exact mz_
theorem commit_ParseWho.calls (k : Nat) (a0 : ByteArray) (r1 : ByteArray) (r2 : ByteArray) (r3 : Int) (r4 : Int) (r5 : Int) (w : World) (hgv : GV w) (h : commit_ParseWho.f k a0 = some (r1, r2, r3, r4, r5)) :
  Calls Tryz.prog 29 #[.string a0] w fun e w' => e = .returned (.tuple #[.agg #[.string r1, .string r2, .int .i64 r3, .int .i64 r4], .int .i64 r5]) ∧ Below w.heap.size w w' := by
 have hu24 := underlying24; have HB := Aside0.mk (Below.refl w.heap.size w); unfold commit_ParseWho.f at h; have H := h; clear h; obtain ⟨⟨t109, t110, t111⟩, A2, H⟩ := bx_ H; dsimp only at H; obtain ⟨⟨t112, t113, t114⟩, A3, H⟩ := bx_ H; dsimp only at H; obtain ⟨⟨t115, t116, t117⟩, A4, H⟩ := bx_ H; dsimp only at H; obtain ⟨⟨t118, t119⟩, A5, H⟩ := bx_ H; dsimp only at H; obtain ⟨⟨t120, t121⟩, A6, H⟩ := bx_ H; dsimp only at H; have HC7 := Aside0.mk H; clear H; go_enter func29, ntmps29; go_upto_region 6 with (first | ((with_reducible refine gate_dst (N := 2) rfl ?_); refine be_ (cs := #[.string ⟨#[]⟩, .string ⟨#[]⟩, .int .i64 0, .int .i64 0]) (t := 24) ?_; intro gb108 hg w8 hbox hb; have BK108 := Aside0.mk (hbox); have GW108 := ag_ hg HB; have GE108 := ag_ hg HB; replace HB := ah_ HB hb; clear hb hbox hg) | ((with_reducible refine gate_callee (f := 82) rfl ?_); refine gl_ (some 19) func82 #[.string a0, .string ⟨#[32, 60]⟩] ?_; (with_reducible refine (strings_Cut.calls a0 ⟨#[32, 60]⟩ t109 t110 t111 _ ?side1 A2.out).mono ?_); (case side1 => exact GV.below hgv (hs_)); rintro e w' ⟨rfl, ⟨nd, rfl⟩⟩; refine ⟨_, rfl, ?_⟩) | ((with_reducible refine gate_callee (f := 82) rfl ?_); refine gl_ (some 25) func82 #[.string t110, .string ⟨#[62, 32]⟩] ?_; (with_reducible refine (strings_Cut.calls t110 ⟨#[62, 32]⟩ t112 t113 t114 _ ?side1 A3.out).mono ?_); (case side1 => exact GV.below hgv (hs_)); rintro e w' ⟨rfl, ⟨nd, rfl⟩⟩; refine ⟨_, rfl, ?_⟩) | ((with_reducible refine gate_callee (f := 82) rfl ?_); refine gl_ (some 31) func82 #[.string t113, .string ⟨#[32]⟩] ?_; (with_reducible refine (strings_Cut.calls t113 ⟨#[32]⟩ t115 t116 t117 _ ?side1 A4.out).mono ?_); (case side1 => exact GV.below hgv (hs_)); rintro e w' ⟨rfl, ⟨nd, rfl⟩⟩; refine ⟨_, rfl, ?_⟩) | ((with_reducible refine gate_callee (f := 83) rfl ?_); refine gl_ (some 37) func83 #[.string t115, .int .i64 18] ?_; refine cm_ (commit_digits.calls k t115 18 t118 t119 _ A5.out) fun w9 hb => ?_; replace BK108 := ab_ BK108 hb; replace HB := Aside0.mk (below_step (hs_) hb); (try clear hb); (try clear hb2); (try clear hk); (try clear hi)) | ((with_reducible refine gate_callee (f := 84) rfl ?_); refine gl_ (some 42) func84 #[.string t116] ?_; refine cm_ (commit_zone.calls k t116 t120 t121 _ A6.out) fun w10 hb => ?_; replace BK108 := ab_ BK108 hb; replace HB := Aside0.mk (below_step (hs_) hb); (try clear hb); (try clear hb2); (try clear hk); (try clear hi)))
 (try simp only [Act.put, List.setIfInBounds_toArray, List.set_cons_zero, List.set_cons_succ])
 go_cut [68] (fun v68 wc => ∃ (kq : Nat) (x68_6 : Bool), v68 = .bool x68_6 ∧ Aside0 (commit_ParseWho.j0 kq t109 t112 t118 t120 x68_6 = some (r1, r2, r3, r4, r5)) ∧ Aside0 (kq ≤ k) ∧ Aside0 (wc.heap[gb108]? = some (.cells #[.string ⟨#[]⟩, .string ⟨#[]⟩, .int .i64 0, .int .i64 0] 24 (0, 0))) ∧ Aside0 (Below w.heap.size w wc))
 case first =>
  have H := HC7.out; clear HC7; by_cases c11 : t111 = true; rotate_left
  ·replace c11 := Bool.eq_false_iff.mpr c11; subst c11; rw [if_neg nft_] at H; have H' := Aside0.mk H; clear H; go_wp2
   go_meet
   case rel => exact ⟨_, (true), z1_, H', ⟨z4_⟩, ⟨bk_ BK108.out⟩, ⟨hs_⟩⟩
  subst c11; rw [if_pos rfl] at H; by_cases c12 : t114 = true; rotate_left
  ·replace c12 := Bool.eq_false_iff.mpr c12; subst c12; rw [if_neg nft_] at H; have H' := Aside0.mk H; clear H; go_wp2
   go_meet
   case rel => exact ⟨_, (true), z1_, H', ⟨z4_⟩, ⟨bk_ BK108.out⟩, ⟨hs_⟩⟩
  subst c12; rw [if_pos rfl] at H; by_cases c13 : t117 = true; rotate_left
  ·replace c13 := Bool.eq_false_iff.mpr c13; subst c13; rw [if_neg nft_] at H; have H' := Aside0.mk H; clear H; go_wp2
   go_meet
   case rel => exact ⟨_, (true), z1_, H', ⟨z4_⟩, ⟨bk_ BK108.out⟩, ⟨hs_⟩⟩
  subst c13; rw [if_pos rfl] at H; by_cases c14 : t119 = true; rotate_left
  ·replace c14 := Bool.eq_false_iff.mpr c14; subst c14; rw [if_neg nft_] at H; have H' := Aside0.mk H; clear H; go_wp2
   go_meet
   case rel => exact ⟨_, (true), z1_, H', ⟨z4_⟩, ⟨bk_ BK108.out⟩, ⟨hs_⟩⟩
  subst c14; rw [if_pos rfl] at H; by_cases c15 : t121 = true; rotate_left
  ·replace c15 := Bool.eq_false_iff.mpr c15; subst c15; rw [if_neg nft_] at H; have H' := Aside0.mk H; clear H; go_wp2
   go_meet
   case rel => exact ⟨_, (true), z1_, H', ⟨z4_⟩, ⟨bk_ BK108.out⟩, ⟨hs_⟩⟩
  subst c15; rw [if_pos rfl] at H; by_cases c16 : t109.size + t112.size ≤ 9223372036854775807; rotate_left
  ·rw [if_neg c16] at H; exact no_ H
  rw [if_pos c16] at H; have c16b0 := eq_true c16; have c16b1 := dt_ c16; try have c16b2 := nl_ c16
  obtain ⟨t122, A17, H⟩ := bx_ H; have H' := Aside0.mk H; clear H; go_wp2_with (first | (go_at_call 85; (with_reducible refine (strings_ContainsAny.calls (t109 ++ t112) ⟨#[60, 62]⟩ t122 _ A17.out).mono ?_); rintro e w18 ⟨rfl, hb⟩; replace BK108 := ab_ BK108 hb; replace HB := Aside0.mk (below_step (hs_) hb); (try clear hb); (try clear hb2); (try clear hk); (try clear hi)))
  go_meet
  case rel => exact ⟨_, (t122), z1_, H', ⟨z4_⟩, ⟨bk_ BK108.out⟩, ⟨hs_⟩⟩
 case rest =>
  clear HC7; try clear c1
  try clear c2
  try clear p2
  try clear c8
  try clear c11
  try clear c12
  try clear c13
  try clear c14
  try clear c15
  try clear c16
  try clear c16b0
  try clear c16b1
  try clear c16b2
  obtain ⟨kq, x68_6, rfl, HA, HJ6, BK108, HB⟩ := hcut
  cases kq with
  | zero => exact absurd HA.out (by simp [commit_ParseWho.j0])
  | succ kj6 =>
   have H := HA.out; clear HA; simp only [commit_ParseWho.j0] at H; by_cases c19 : x68_6 = true
   ·subst c19; rw [if_pos rfl] at H; obtain ⟨rfl, rfl, rfl, rfl, rfl⟩ := pj5_ H; obtain ⟨Z20_0, Z20_1, Z20_2, Z20_3, F20⟩ := bc4 BK108.out; go_wp2
    refine bodyPost_ret (results_ct rfl _ _ gb108 24 #[.string ⟨#[]⟩, .string ⟨#[]⟩, .int .i64 0, .int .i64 0] (0, 0) _ rfl (by have b_ := BK108; exact zb_) underlying24 rfl (by kernel_rfl)) rfl ?_; exact ⟨z3_, hs_⟩
   replace c19 := Bool.eq_false_iff.mpr c19; subst c19; rw [if_neg nft_] at H; obtain ⟨t124, A21, H⟩ := bx_ H; by_cases c22 : t124 = true; rotate_left
   ·replace c22 := Bool.eq_false_iff.mpr c22; subst c22; rw [if_neg nft_] at H; obtain ⟨rfl, rfl, rfl, rfl, rfl⟩ := pj5_ H; go_wp2_with (first | ((with_reducible refine gate_dst (N := 16) rfl ?_); refine be_ (cs := #[.string ⟨#[]⟩, .string ⟨#[]⟩, .int .i64 0, .int .i64 0]) (t := 24) ?_; intro gb123 hg w29 hbox hb; have BK123 := Aside0.mk (hbox); have GW123 := Aside0.mk ((by rw [hg]; exact (below_size (hs_)) : w.heap.size ≤ gb123)); have GE123 := Aside0.mk ((by rw [hg]; exact (below_size (hs_)) : w.heap.size ≤ gb123)); replace HB := Aside0.mk (below_step (hs_) hb); have NB108_123 := Aside0.mk (nl2_ hg BK108.out); have NB123_108 := Aside0.mk (ng2_ hg BK108.out); replace BK108 := ab_ BK108 hb; clear hb hbox hg; have hnb30 := NB123_108.out; have hnc30 := NB108_123.out; obtain ⟨Z31_0, Z31_1, Z31_2, Z31_3, F31⟩ := bc4 BK123.out) | ((with_reducible refine gate_callee (f := 67) rfl ?_); refine gl_ (some 76) func67 #[.agg #[.string t109, .string t112, .int .i64 t118, .int .i64 t120]] ?_; refine cm_ (commit_somebody.calls kj6 t109 t112 t118 t120 false _ A21.out) fun w32 hb => ?_; replace BK108 := Aside0.mk (blk_below (g := gb108) (o := .cells #[.string ⟨#[]⟩, .string ⟨#[]⟩, .int .i64 0, .int .i64 0] 24 (0, 0)) (by have b_ := BK108; have f_ := NB108_123; exact zb_) hb); replace BK123 := Aside0.mk (blk_below (g := gb123) (o := .cells #[.string t109, .string t112, .int .i64 t118, .int .i64 t120] 24 (0, 0)) (by have b_ := BK123; exact zb_) hb); replace HB := Aside0.mk (below_step (hs_) hb); (try clear hb); (try clear hb2); (try clear hk); (try clear hi); obtain ⟨Z33_0, Z33_1, Z33_2, Z33_3, F33⟩ := bc4 BK108.out)); refine bodyPost_ret (results_ct rfl _ _ gb108 24 #[.string ⟨#[]⟩, .string ⟨#[]⟩, .int .i64 0, .int .i64 0] (0, 0) _ rfl (by have b_ := BK108; exact zb_) underlying24 rfl (by kernel_rfl)) rfl ?_; exact ⟨z3_, hs_⟩
   subst c22; rw [if_pos rfl] at H; obtain ⟨rfl, rfl, rfl, rfl, rfl⟩ := pj5_ H; go_wp2_with (first | ((with_reducible refine gate_dst (N := 16) rfl ?_); refine be_ (cs := #[.string ⟨#[]⟩, .string ⟨#[]⟩, .int .i64 0, .int .i64 0]) (t := 24) ?_; intro gb123 hg w23 hbox hb; have BK123 := Aside0.mk (hbox); have GW123 := Aside0.mk ((by rw [hg]; exact (below_size (hs_)) : w.heap.size ≤ gb123)); have GE123 := Aside0.mk ((by rw [hg]; exact (below_size (hs_)) : w.heap.size ≤ gb123)); replace HB := Aside0.mk (below_step (hs_) hb); have NB108_123 := Aside0.mk (nl2_ hg BK108.out); have NB123_108 := Aside0.mk (ng2_ hg BK108.out); replace BK108 := ab_ BK108 hb; clear hb hbox hg; have hnb24 := NB123_108.out; have hnc24 := NB108_123.out; obtain ⟨Z25_0, Z25_1, Z25_2, Z25_3, F25⟩ := bc4 BK123.out) | ((with_reducible refine gate_callee (f := 67) rfl ?_); refine gl_ (some 76) func67 #[.agg #[.string t109, .string t112, .int .i64 t118, .int .i64 t120]] ?_; refine cm_ (commit_somebody.calls kj6 t109 t112 t118 t120 true _ A21.out) fun w26 hb => ?_; replace BK108 := Aside0.mk (blk_below (g := gb108) (o := .cells #[.string ⟨#[]⟩, .string ⟨#[]⟩, .int .i64 0, .int .i64 0] 24 (0, 0)) (by have b_ := BK108; have f_ := NB108_123; exact zb_) hb); replace BK123 := Aside0.mk (blk_below (g := gb123) (o := .cells #[.string t109, .string t112, .int .i64 t118, .int .i64 t120] 24 (0, 0)) (by have b_ := BK123; exact zb_) hb); replace HB := Aside0.mk (below_step (hs_) hb); (try clear hb); (try clear hb2); (try clear hk); (try clear hi); obtain ⟨Z27_0, Z27_1, Z27_2, Z27_3, F27⟩ := bc4 BK123.out; obtain ⟨Z28_0, Z28_1, Z28_2, Z28_3, F28⟩ := bc4 BK108.out)); refine bodyPost_ret (results_ct rfl _ _ gb108 24 #[.string t109, .string t112, .int .i64 t118, .int .i64 t120] (0, 0) _ rfl (by have b_ := BK108; exact zb_) underlying24 rfl (by kernel_rfl)) rfl ?_; exact ⟨z3_, hs_⟩
def commit_reader_who.f (k : Nat) (s0_0 : ByteArray) (s0_1 : Int) (a1 : ByteArray) : Option (ByteArray × ByteArray × Int × Int × ByteArray × Int) := (commit_reader_line.f s0_0 s0_1 a1).bind fun bt108 => ((commit_ParseWho.f k bt108.1).bind fun bt111 => (if bt111.2.2.2.2 = 0 then (some (bt111.1, bt111.2.1, bt111.2.2.1, bt111.2.2.2.1, bt108.2.1, bt108.2.2)) else ((commit_reader_fail.f bt108.2.1 bt108.2.2 bt111.2.2.2.2).bind fun bt117 => (some (bt111.1, bt111.2.1, bt111.2.2.1, bt111.2.2.2.1, bt117.1, bt117.2)))))
theorem commit_reader_who.mono : ∀ a0 a1 a2 k, LeO (commit_reader_who.f k a0 a1 a2) (commit_reader_who.f (k + 1) a0 a1 a2) := by
 intro a0 a1 a2 k; unfold commit_reader_who.f; have m0_ := @commit_ParseWho.mono; exact mz_
theorem commit_reader_who.calls (k : Nat) (g : Nat) (s0_0 : ByteArray) (s0_1 : Int) (a1 : ByteArray) (r1 : ByteArray) (r2 : ByteArray) (r3 : Int) (r4 : Int) (r5 : ByteArray) (r6 : Int) (w0 w : World) (hI : IsS87 w0 w g s0_0 s0_1) (hB : Below w0.heap.size w0 w) (hgv : GV w0) (h : commit_reader_who.f k s0_0 s0_1 a1 = some (r1, r2, r3, r4, r5, r6)) :
  Calls Tryz.prog 72 #[.pointer (some ⟨g, 0, none⟩), .string a1] w fun e w' => e = .returned (.agg #[.string r1, .string r2, .int .i64 r3, .int .i64 r4]) ∧ IsS87 w0 w' g r5 r6 ∧ Below w0.heap.size w0 w' ∧ KeepBut w w' g none := by
 have hu24 := underlying24; have HI0 := Aside0.mk hI; have HK := Aside0.mk (KeepBut.refl w g none); have HL := Aside0.mk hB.size; clear hI; have HW0 := Aside0.mk hB.size; have HB := Aside0.mk hB; clear hB; unfold commit_reader_who.f at h; have H := h; clear h; obtain ⟨⟨t108, t109, t110⟩, A3, H⟩ := bx_ H; dsimp only at H; obtain ⟨⟨t111, t112, t113, t114, t115⟩, A4, H⟩ := bx_ H; dsimp only at H; by_cases c5 : t115 = 0
 ·rw [if_pos c5] at H; have c5b0 := et_ c5; have c5b1 := nf_ c5; clear c5; obtain ⟨rfl, rfl, rfl, rfl, rfl, rfl⟩ := pj6_ H; go_enter func72, ntmps72; go_wp2_with (first | ((with_reducible refine gate_dst (N := 4) rfl ?_); refine be_ (cs := #[.string ⟨#[]⟩, .string ⟨#[]⟩, .int .i64 0, .int .i64 0]) (t := 24) ?_; intro gb107 hg w6 hbox hb; replace HB := Aside0.mk (below_step z11_ hb); have BK107 := Aside0.mk (hbox); have GW107 := Aside0.mk ((by rw [hg]; exact (keep_size (w := w) (g := g) (row := none) z7_) : w.heap.size ≤ gb107)); have GE107 := Aside0.mk ((Nat.le_trans HW0.out (by rw [hg]; exact (keep_size (w := w) (g := g) (row := none) z7_) : w.heap.size ≤ gb107) : w0.heap.size ≤ gb107)); replace HK := Aside0.mk (KeepBut.trans z7_ (KeepBut.of_below hb g none) (.inl rfl)); have NB0_107 := Aside0.mk ((by rw [hg]; exact Nat.ne_of_lt (IsS87.lt (show IsS87 w0 _ g s0_0 s0_1 from z10_)) : g ≠ gb107)); have NB107_0 := Aside0.mk ((by rw [hg]; exact Nat.ne_of_gt (IsS87.lt (show IsS87 w0 _ g s0_0 s0_1 from z10_)) : gb107 ≠ g)); replace HI0 := Aside0.mk (IsS87.below z10_ hb); clear hb hbox hg) | ((with_reducible refine gate_callee (f := 73) rfl ?_); refine gl_ (some 10) func73 #[.pointer (some ⟨g, 0, none⟩), .string a1] ?_; (with_reducible refine (commit_reader_line.calls g s0_0 s0_1 a1 t108 t109 t110 w0 _ ?side1 ?side2 ?side3 A3.out).mono ?_); (case side1 => repeat (first | (with_reducible first | exact HI0.out | apply IsS87.alloc | apply IsS87.drewN | apply IsS87.drew | apply IsS87.set_0 | apply IsS87.set_1 | refine IsS87.far ?_ NB0_107.out _) | exact HI0.out)); (case side2 => repeat (first | (with_reducible first | exact HB.out | apply below_alloc | apply pw_below_drewN | apply below_drew1 | refine below_set ?_ (IsS87.ge HI0.out) | refine below_set ?_ GE107.out) | exact HB.out)); (case side3 => exact hgv); rintro e w7 ⟨rfl, hi, hb, hk⟩; refine ⟨_, rfl, ?_⟩; replace BK107 := Aside0.mk (KeepBut.blk hk (g' := gb107) (o := .cells #[.string ⟨#[]⟩, .string ⟨#[]⟩, .int .i64 0, .int .i64 0] 24 (0, 0)) (bk_ BK107.out) NB107_0.out (by simp)); replace HK := Aside0.mk (KeepBut.trans z13_ hk (.inl rfl)); replace HB := Aside0.mk (hb); replace HI0 := Aside0.mk (hi); (try clear hb); (try clear hb2); (try clear hk); (try clear hi)) | ((with_reducible refine gate_callee (f := 29) rfl ?_); refine gl_ (some 11) func29 #[.string t108] ?_; (with_reducible refine (commit_ParseWho.calls k t108 t111 t112 t113 t114 t115 _ ?side1 A4.out).mono ?_); (case side1 => exact GV.below hgv z22_); rintro e w8 ⟨rfl, hb⟩; refine ⟨_, rfl, ?_⟩; replace BK107 := ab_ BK107 hb; replace HK := Aside0.mk (KeepBut.trans z13_ (KeepBut.of_below hb g none) (.inl rfl)); replace HB := Aside0.mk (below_step z22_ hb); replace HI0 := Aside0.mk (IsS87.below z18_ hb); (try clear hb); (try clear hb2); (try clear hk); (try clear hi)) | ((with_reducible refine gate_dst (N := 5) rfl ?_); refine be_ (cs := #[.string ⟨#[]⟩, .string ⟨#[]⟩, .int .i64 0, .int .i64 0]) (t := 24) ?_; intro gb116 hg w9 hbox hb; replace HB := Aside0.mk (below_step z22_ hb); have BK116 := Aside0.mk (hbox); have GW116 := Aside0.mk ((by rw [hg]; exact (keep_size (w := w) (g := g) (row := none) z13_) : w.heap.size ≤ gb116)); have GE116 := Aside0.mk ((Nat.le_trans HW0.out (by rw [hg]; exact (keep_size (w := w) (g := g) (row := none) z13_) : w.heap.size ≤ gb116) : w0.heap.size ≤ gb116)); replace HK := Aside0.mk (KeepBut.trans z13_ (KeepBut.of_below hb g none) (.inl rfl)); have NB107_116 := Aside0.mk (nl2_ hg BK107.out); have NB116_107 := Aside0.mk (ng2_ hg BK107.out); replace BK107 := ab_ BK107 hb; have NB0_116 := Aside0.mk ((by rw [hg]; exact Nat.ne_of_lt (IsS87.lt (show IsS87 w0 _ g t109 t110 from z18_)) : g ≠ gb116)); have NB116_0 := Aside0.mk ((by rw [hg]; exact Nat.ne_of_gt (IsS87.lt (show IsS87 w0 _ g t109 t110 from z18_)) : gb116 ≠ g)); replace HI0 := Aside0.mk (IsS87.below z18_ hb); clear hb hbox hg; have hnb10 := NB116_107.out; have hnc10 := NB107_116.out; have hnb11 := NB116_0.out; have hnc11 := NB0_116.out; obtain ⟨Z12_0, Z12_1, Z12_2, Z12_3, F12⟩ := bc4 BK116.out; have hnb13 := NB107_0.out; have hnc13 := NB0_107.out; obtain ⟨Z14_0, Z14_1, Z14_2, Z14_3, F14⟩ := bc4 BK107.out))
  refine bodyPost_ret (results_cell_row rfl _ _ gb107 24 #[.string t111, .string t112, .int .i64 t113, .int .i64 t114] (0, 0) _ rfl (by have b_ := BK107; have f_ := NB107_116; exact zb_) underlying24 rfl (by kernel_rfl)) rfl ?_; exact ⟨z3_, by repeat (first | (with_reducible first | exact HI0.out | apply IsS87.alloc | apply IsS87.drewN | apply IsS87.drew | apply IsS87.set_0 | apply IsS87.set_1 | refine IsS87.far ?_ NB0_107.out _ | refine IsS87.far ?_ NB0_116.out _) | exact HI0.out), by repeat (first | (with_reducible first | exact HB.out | apply below_alloc | apply pw_below_drewN | apply below_drew1 | refine below_set ?_ (IsS87.ge HI0.out) | refine below_set ?_ GE107.out | refine below_set ?_ GE116.out) | exact HB.out), z33_⟩
 rw [if_neg c5] at H; have c5b0 := ef_ c5; have c5b1 := nt_ c5; obtain ⟨⟨t117, t118⟩, A15, H⟩ := bx_ H; dsimp only at H; obtain ⟨rfl, rfl, rfl, rfl, rfl, rfl⟩ := pj6_ H; go_enter func72, ntmps72; go_wp2_with (first | ((with_reducible refine gate_dst (N := 4) rfl ?_); refine be_ (cs := #[.string ⟨#[]⟩, .string ⟨#[]⟩, .int .i64 0, .int .i64 0]) (t := 24) ?_; intro gb107 hg w16 hbox hb; replace HB := Aside0.mk (below_step z11_ hb); have BK107 := Aside0.mk (hbox); have GW107 := Aside0.mk ((by rw [hg]; exact (keep_size (w := w) (g := g) (row := none) z7_) : w.heap.size ≤ gb107)); have GE107 := Aside0.mk ((Nat.le_trans HW0.out (by rw [hg]; exact (keep_size (w := w) (g := g) (row := none) z7_) : w.heap.size ≤ gb107) : w0.heap.size ≤ gb107)); replace HK := Aside0.mk (KeepBut.trans z7_ (KeepBut.of_below hb g none) (.inl rfl)); have NB0_107 := Aside0.mk ((by rw [hg]; exact Nat.ne_of_lt (IsS87.lt (show IsS87 w0 _ g s0_0 s0_1 from z10_)) : g ≠ gb107)); have NB107_0 := Aside0.mk ((by rw [hg]; exact Nat.ne_of_gt (IsS87.lt (show IsS87 w0 _ g s0_0 s0_1 from z10_)) : gb107 ≠ g)); replace HI0 := Aside0.mk (IsS87.below z10_ hb); clear hb hbox hg) | ((with_reducible refine gate_callee (f := 73) rfl ?_); refine gl_ (some 10) func73 #[.pointer (some ⟨g, 0, none⟩), .string a1] ?_; (with_reducible refine (commit_reader_line.calls g s0_0 s0_1 a1 t108 t109 t110 w0 _ ?side1 ?side2 ?side3 A3.out).mono ?_); (case side1 => repeat (first | (with_reducible first | exact HI0.out | apply IsS87.alloc | apply IsS87.drewN | apply IsS87.drew | apply IsS87.set_0 | apply IsS87.set_1 | refine IsS87.far ?_ NB0_107.out _) | exact HI0.out)); (case side2 => repeat (first | (with_reducible first | exact HB.out | apply below_alloc | apply pw_below_drewN | apply below_drew1 | refine below_set ?_ (IsS87.ge HI0.out) | refine below_set ?_ GE107.out) | exact HB.out)); (case side3 => exact hgv); rintro e w17 ⟨rfl, hi, hb, hk⟩; refine ⟨_, rfl, ?_⟩; replace BK107 := Aside0.mk (KeepBut.blk hk (g' := gb107) (o := .cells #[.string ⟨#[]⟩, .string ⟨#[]⟩, .int .i64 0, .int .i64 0] 24 (0, 0)) (bk_ BK107.out) NB107_0.out (by simp)); replace HK := Aside0.mk (KeepBut.trans z13_ hk (.inl rfl)); replace HB := Aside0.mk (hb); replace HI0 := Aside0.mk (hi); (try clear hb); (try clear hb2); (try clear hk); (try clear hi)) | ((with_reducible refine gate_callee (f := 29) rfl ?_); refine gl_ (some 11) func29 #[.string t108] ?_; (with_reducible refine (commit_ParseWho.calls k t108 t111 t112 t113 t114 t115 _ ?side1 A4.out).mono ?_); (case side1 => exact GV.below hgv z22_); rintro e w18 ⟨rfl, hb⟩; refine ⟨_, rfl, ?_⟩; replace BK107 := ab_ BK107 hb; replace HK := Aside0.mk (KeepBut.trans z13_ (KeepBut.of_below hb g none) (.inl rfl)); replace HB := Aside0.mk (below_step z22_ hb); replace HI0 := Aside0.mk (IsS87.below z18_ hb); (try clear hb); (try clear hb2); (try clear hk); (try clear hi)) | ((with_reducible refine gate_dst (N := 5) rfl ?_); refine be_ (cs := #[.string ⟨#[]⟩, .string ⟨#[]⟩, .int .i64 0, .int .i64 0]) (t := 24) ?_; intro gb116 hg w19 hbox hb; replace HB := Aside0.mk (below_step z22_ hb); have BK116 := Aside0.mk (hbox); have GW116 := Aside0.mk ((by rw [hg]; exact (keep_size (w := w) (g := g) (row := none) z13_) : w.heap.size ≤ gb116)); have GE116 := Aside0.mk ((Nat.le_trans HW0.out (by rw [hg]; exact (keep_size (w := w) (g := g) (row := none) z13_) : w.heap.size ≤ gb116) : w0.heap.size ≤ gb116)); replace HK := Aside0.mk (KeepBut.trans z13_ (KeepBut.of_below hb g none) (.inl rfl)); have NB107_116 := Aside0.mk (nl2_ hg BK107.out); have NB116_107 := Aside0.mk (ng2_ hg BK107.out); replace BK107 := ab_ BK107 hb; have NB0_116 := Aside0.mk ((by rw [hg]; exact Nat.ne_of_lt (IsS87.lt (show IsS87 w0 _ g t109 t110 from z18_)) : g ≠ gb116)); have NB116_0 := Aside0.mk ((by rw [hg]; exact Nat.ne_of_gt (IsS87.lt (show IsS87 w0 _ g t109 t110 from z18_)) : gb116 ≠ g)); replace HI0 := Aside0.mk (IsS87.below z18_ hb); clear hb hbox hg; have hnb20 := NB116_107.out; have hnc20 := NB107_116.out; have hnb21 := NB116_0.out; have hnc21 := NB0_116.out; obtain ⟨Z22_0, Z22_1, Z22_2, Z22_3, F22⟩ := bc4 BK116.out) | ((with_reducible refine gate_callee (f := 74) rfl ?_); refine gl_ (some 18) func74 #[.pointer (some ⟨g, 0, none⟩), .int .i64 t115] ?_; (with_reducible refine (commit_reader_fail.calls g t109 t110 t115 t117 t118 w0 _ ?side1 ?side2 A15.out).mono ?_); (case side1 => repeat (first | (with_reducible first | exact HI0.out | apply IsS87.alloc | apply IsS87.drewN | apply IsS87.drew | apply IsS87.set_0 | apply IsS87.set_1 | refine IsS87.far ?_ NB0_107.out _ | refine IsS87.far ?_ NB0_116.out _) | exact HI0.out)); (case side2 => repeat (first | (with_reducible first | exact HB.out | apply below_alloc | apply pw_below_drewN | apply below_drew1 | refine below_set ?_ (IsS87.ge HI0.out) | refine below_set ?_ GE107.out | refine below_set ?_ GE116.out) | exact HB.out)); rintro e w23 ⟨rfl, hi, hb, hk⟩; refine ⟨_, rfl, ?_⟩; replace BK107 := Aside0.mk (KeepBut.blk hk (g' := gb107) (o := .cells #[.string ⟨#[]⟩, .string ⟨#[]⟩, .int .i64 0, .int .i64 0] 24 (0, 0)) (by have b_ := BK107; have f_ := NB107_116; exact zb_) NB107_0.out (by simp)); replace BK116 := Aside0.mk (KeepBut.blk hk (g' := gb116) (o := .cells #[.string t111, .string t112, .int .i64 t113, .int .i64 t114] 24 (0, 0)) (by have b_ := BK116; exact zb_) NB116_0.out (by simp)); replace HK := Aside0.mk (KeepBut.trans z33_ hk (.inl rfl)); replace HB := Aside0.mk (hb); replace HI0 := Aside0.mk (hi); (try clear hb); (try clear hb2); (try clear hk); (try clear hi); obtain ⟨Z24_0, Z24_1, Z24_2, Z24_3, F24⟩ := bc4 BK116.out; have hnb25 := NB107_0.out; have hnc25 := NB0_107.out; obtain ⟨Z26_0, Z26_1, Z26_2, Z26_3, F26⟩ := bc4 BK107.out))
 refine bodyPost_ret (results_cell_row rfl _ _ gb107 24 #[.string t111, .string t112, .int .i64 t113, .int .i64 t114] (0, 0) _ rfl (by have b_ := BK107; exact zb_) underlying24 rfl (by kernel_rfl)) rfl ?_; exact ⟨z3_, by repeat (first | (with_reducible first | exact HI0.out | apply IsS87.alloc | apply IsS87.drewN | apply IsS87.drew | apply IsS87.set_0 | apply IsS87.set_1 | refine IsS87.far ?_ NB0_107.out _ | refine IsS87.far ?_ NB0_116.out _) | exact HI0.out), by repeat (first | (with_reducible first | exact HB.out | apply below_alloc | apply pw_below_drewN | apply below_drew1 | refine below_set ?_ (IsS87.ge HI0.out) | refine below_set ?_ GE107.out | refine below_set ?_ GE116.out) | exact HB.out), z33_⟩
end Go.Proofs.YtbhfbbfjdklfgaaGreatDoor.Q

