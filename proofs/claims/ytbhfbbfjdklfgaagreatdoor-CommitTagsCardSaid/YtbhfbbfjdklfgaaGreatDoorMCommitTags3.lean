/- The law CommitTags holds: for every input it returns true, and each argument reads afterwards as it read before. -/
import Derived.Test.YtbhfbbfjdklfgaaGreatDoorMYCommitTags1
import Derived.Test.YtbhfbbfjdklfgaaGreatDoorMCommitTags1
import Derived.Test.YtbhfbbfjdklfgaaGreatDoorMCommitTags2
import Derived.Laws.Cover1
import Derived.Lib.AppendZerosOnto
import Derived.Lib.Overlaps
import Derived.Lib.SliceRun
import Derived.Maps.AppendAt
import Derived.Deep.AppendSrc
import Derived.Laws.CopyRow
import Derived.Laws.MakeOwn
import Derived.Lib.AppendStr
set_option linter.unusedVariables false
set_option linter.unusedSimpArgs false
namespace Go.Proofs.YtbhfbbfjdklfgaaGreatDoor.Q
open Go.RowKit Go.Proofs.YtbhfbbfjdklfgaaGreatDoorW.PrintWords Go.Proofs.YtbhfbbfjdklfgaaGreatDoorW.PrintLast Go.Proofs.YtbhfbbfjdklfgaaGreatDoorW.PrintMore
attribute [local go_sem] max2_int min2_int max_two min_two max_three min_three max_four min_four   -- for this text's walks alone

def commit_CheckTag.j0 : Nat → Bool → ByteArray → Int → ByteArray → ByteArray → ByteArray → Int → Int → ByteArray → Option (Int)
 | 0, _, _, _, _, _, _, _, _, _ => none
 | k + 1, x29, x141000, x141001, x141002, x141003, x141004, x141005, x141006, x141007 => if x29 = true then (some 1) else (if (x141007.size : Int) > 4096 then (some 4) else (some 0))
def commit_CheckTag.f (k : Nat) (a0_0 : ByteArray) (a0_1 : Int) (a0_2 : ByteArray) (a0_3 : ByteArray) (a0_4 : ByteArray) (a0_5 : Int) (a0_6 : Int) (a0_7 : ByteArray) : Option (Int) := (ident_Is.f k a0_0).bind fun t141 => (if t141 = true then ((object_Word.f a0_1).bind fun t142 => (if t142.toList = ([] : List UInt8) then (commit_CheckTag.j0 k true a0_0 a0_1 a0_2 a0_3 a0_4 a0_5 a0_6 a0_7) else ((commit_tagged.f k a0_2).bind fun t143 => (if t143 = true then ((commit_somebody.f k a0_3 a0_4 a0_5 a0_6).bind fun t144 => (if t144 = true then ((strings_Contains2.f a0_7 (⟨#[0]⟩ : ByteArray)).bind fun t145 => (commit_CheckTag.j0 k t145 a0_0 a0_1 a0_2 a0_3 a0_4 a0_5 a0_6 a0_7)) else (commit_CheckTag.j0 k true a0_0 a0_1 a0_2 a0_3 a0_4 a0_5 a0_6 a0_7))) else (commit_CheckTag.j0 k true a0_0 a0_1 a0_2 a0_3 a0_4 a0_5 a0_6 a0_7))))) else (commit_CheckTag.j0 k true a0_0 a0_1 a0_2 a0_3 a0_4 a0_5 a0_6 a0_7))
theorem commit_CheckTag.mono_l : ∀ k, (∀ y0 y1 y2 y3 y4 y5 y6 y7 y8, LeO (commit_CheckTag.j0 k y0 y1 y2 y3 y4 y5 y6 y7 y8) (commit_CheckTag.j0 (k + 1) y0 y1 y2 y3 y4 y5 y6 y7 y8))
 | 0 => fun _ _ _ _ _ _ _ _ _ r h => by simp [commit_CheckTag.j0] at h
 | k + 1 => by
  have ih0 := commit_CheckTag.mono_l k
  ·intro y0 y1 y2 y3 y4 y5 y6 y7 y8
   unfold commit_CheckTag.j0
   have m0_ := @ih0
   have m1_ := @commit_somebody.mono
   have m2_ := @commit_tagged.mono
   have m3_ := @ident_Is.mono
   exact mz_
theorem commit_CheckTag.mono : ∀ a0 a1 a2 a3 a4 a5 a6 a7 k, LeO (commit_CheckTag.f k a0 a1 a2 a3 a4 a5 a6 a7) (commit_CheckTag.f (k + 1) a0 a1 a2 a3 a4 a5 a6 a7) := by
 intro a0 a1 a2 a3 a4 a5 a6 a7 k
 have ih0 := commit_CheckTag.mono_l k
 unfold commit_CheckTag.f
 have m0_ := @ih0
 have m1_ := @commit_somebody.mono
 have m2_ := @commit_tagged.mono
 have m3_ := @ident_Is.mono
 exact mz_
set_option maxHeartbeats 8000000 in
set_option maxRecDepth 100000 in
theorem commit_CheckTag.calls (k : Nat) (a0_0 : ByteArray) (a0_1 : Int) (a0_2 : ByteArray) (a0_3 : ByteArray) (a0_4 : ByteArray) (a0_5 : Int) (a0_6 : Int) (a0_7 : ByteArray) (r : Int) (w : World) (hgv : GV w) (h : commit_CheckTag.f k a0_0 a0_1 a0_2 a0_3 a0_4 a0_5 a0_6 a0_7 = some r) :
  Calls Tryz.prog 27 #[.agg #[.string a0_0, .int .i64 a0_1, .string a0_2, .string a0_3, .string a0_4, .int .i64 a0_5, .int .i64 a0_6, .string a0_7]] w fun e w' => e = .returned (.int .i64 r) ∧ Below w.heap.size w w' := by
 have hu37 := Tryz.underlying37
 have hu24 := Tryz.underlying24
 have HB := Aside0.mk (Below.refl w.heap.size w)
 have H : ((ident_Is.f k a0_0).bind fun t141 => (if t141 = true then ((object_Word.f a0_1).bind fun t142 => (if t142.toList = ([] : List UInt8) then (commit_CheckTag.j0 k true a0_0 a0_1 a0_2 a0_3 a0_4 a0_5 a0_6 a0_7) else ((commit_tagged.f k a0_2).bind fun t143 => (if t143 = true then ((commit_somebody.f k a0_3 a0_4 a0_5 a0_6).bind fun t144 => (if t144 = true then ((strings_Contains2.f a0_7 (⟨#[0]⟩ : ByteArray)).bind fun t145 => (commit_CheckTag.j0 k t145 a0_0 a0_1 a0_2 a0_3 a0_4 a0_5 a0_6 a0_7)) else (commit_CheckTag.j0 k true a0_0 a0_1 a0_2 a0_3 a0_4 a0_5 a0_6 a0_7))) else (commit_CheckTag.j0 k true a0_0 a0_1 a0_2 a0_3 a0_4 a0_5 a0_6 a0_7))))) else (commit_CheckTag.j0 k true a0_0 a0_1 a0_2 a0_3 a0_4 a0_5 a0_6 a0_7))) = some r := h
 clear h
 have HC2 := Aside0.mk H
 clear H
 go_enter Tryz.func27, Tryz.ntmps27
 go_upto_region 1 with (first | ((with_reducible refine gate_dst (N := 1) rfl ?_); refine be_ (cs := #[.string a0_0, .int .i64 a0_1, .string a0_2, .string a0_3, .string a0_4, .int .i64 a0_5, .int .i64 a0_6, .string a0_7]) (t := 37) ?_; intro gb140 hg w3 hbox hb; have BK140 := Aside0.mk (hbox); have GW140 := Aside0.mk (gw_ hg HB.out); have GE140 := Aside0.mk (gw_ hg HB.out); replace HB := Aside0.mk (below_step (hb_ HB.out) hb); clear hb hbox hg))
 (try simp only [Act.put, List.setIfInBounds_toArray, List.set_cons_zero, List.set_cons_succ])
 go_cut [29] (fun v29 wc => ∃ (kq : Nat) (x29_1 : Bool), v29 = .bool x29_1 ∧ Aside0 (commit_CheckTag.j0 kq x29_1 a0_0 a0_1 a0_2 a0_3 a0_4 a0_5 a0_6 a0_7 = some r) ∧ Aside0 (kq ≤ k) ∧ Aside0 (wc.heap[gb140]? = some (.cells #[.string a0_0, .int .i64 a0_1, .string a0_2, .string a0_3, .string a0_4, .int .i64 a0_5, .int .i64 a0_6, .string a0_7] 37 (0, 0))) ∧ Aside0 (Below w.heap.size w wc))
 case first =>
  have H := HC2.out
  clear HC2
  replace H := Option.bind_eq_some_iff.mp H
  obtain ⟨t141, A40, H⟩ := H
  have A4 := Aside0.mk A40
  clear A40
  by_cases c5 : t141 = true
  ·subst c5
   have H1 : ((object_Word.f a0_1).bind fun t142 => (if t142.toList = ([] : List UInt8) then (commit_CheckTag.j0 k true a0_0 a0_1 a0_2 a0_3 a0_4 a0_5 a0_6 a0_7) else ((commit_tagged.f k a0_2).bind fun t143 => (if t143 = true then ((commit_somebody.f k a0_3 a0_4 a0_5 a0_6).bind fun t144 => (if t144 = true then ((strings_Contains2.f a0_7 (⟨#[0]⟩ : ByteArray)).bind fun t145 => (commit_CheckTag.j0 k t145 a0_0 a0_1 a0_2 a0_3 a0_4 a0_5 a0_6 a0_7)) else (commit_CheckTag.j0 k true a0_0 a0_1 a0_2 a0_3 a0_4 a0_5 a0_6 a0_7))) else (commit_CheckTag.j0 k true a0_0 a0_1 a0_2 a0_3 a0_4 a0_5 a0_6 a0_7))))) = some r := by rw [if_pos rfl] at H; exact H
   clear H
   have H := H1
   clear H1
   replace H := Option.bind_eq_some_iff.mp H
   obtain ⟨t142, A60, H⟩ := H
   have A6 := Aside0.mk A60
   clear A60
   by_cases c7 : t142.toList = ([] : List UInt8)
   ·rw [if_pos c7] at H
    have c7b0 := beq_iff_eq.mpr c7
    have c7b1 := bne_eq_false_iff_eq.mpr c7
    clear c7
    (first | rw [c7b0] | (simp only [i64_w, i32_w]; rw [c7b0]) | skip)
    have H' := Aside0.mk H
    clear H
    obtain ⟨hcz8_0, hcz8_1, hcz8_2, hcz8_3, hcz8_4, hcz8_5, hcz8_6, hcz8_7, hfz8_0, hfz8_1, hfz8_2, hfz8_3, hfz8_4, hfz8_5, hfz8_6, hfz8_7⟩ := bc8 BK140.out
    go_wp2_with (first | ((with_reducible refine gate_callee (f := 65) rfl ?_); refine goesL_ (some 5) rfl rfl Tryz.func65 (by kernel_rfl) rfl #[.string a0_0] rfl z2_ ?_; (with_reducible refine (ident_Is.calls k a0_0 true _ A4.out).mono ?_); rintro e w' ⟨rfl, ⟨nd, rfl⟩⟩; refine ⟨_, rfl, ?_⟩) | (go_at_call 79; (with_reducible refine (object_Word.calls a0_1 t142 _ A6.out).mono ?_); rintro e w9 ⟨rfl, hb⟩; replace BK140 := Aside0.mk (bb_ BK140.out hb); replace HB := Aside0.mk (below_step (hs_) hb); (try clear hb); (try clear hb2); (try clear hk); (try clear hi)))
    go_meet
    case rel => exact ⟨_, (true), z1_, H', ⟨z5_⟩, ⟨bk_ BK140.out⟩, ⟨hs_⟩⟩
   ·rw [if_neg c7] at H
    have c7b0 := beq_eq_false_iff_ne.mpr c7
    have c7b1 := bne_iff_ne.mpr c7
    (first | rw [c7b0] | (simp only [i64_w, i32_w]; rw [c7b0]) | skip)
    replace H := Option.bind_eq_some_iff.mp H
    obtain ⟨t143, A100, H⟩ := H
    have A10 := Aside0.mk A100
    clear A100
    by_cases c11 : t143 = true
    ·subst c11
     have H1 : ((commit_somebody.f k a0_3 a0_4 a0_5 a0_6).bind fun t144 => (if t144 = true then ((strings_Contains2.f a0_7 (⟨#[0]⟩ : ByteArray)).bind fun t145 => (commit_CheckTag.j0 k t145 a0_0 a0_1 a0_2 a0_3 a0_4 a0_5 a0_6 a0_7)) else (commit_CheckTag.j0 k true a0_0 a0_1 a0_2 a0_3 a0_4 a0_5 a0_6 a0_7))) = some r := by rw [if_pos rfl] at H; exact H
     clear H
     have H := H1
     clear H1
     replace H := Option.bind_eq_some_iff.mp H
     obtain ⟨t144, A120, H⟩ := H
     have A12 := Aside0.mk A120
     clear A120
     by_cases c13 : t144 = true
     ·subst c13
      have H1 : ((strings_Contains2.f a0_7 (⟨#[0]⟩ : ByteArray)).bind fun t145 => (commit_CheckTag.j0 k t145 a0_0 a0_1 a0_2 a0_3 a0_4 a0_5 a0_6 a0_7)) = some r := by rw [if_pos rfl] at H; exact H
      clear H
      have H := H1
      clear H1
      replace H := Option.bind_eq_some_iff.mp H
      obtain ⟨t145, A140, H⟩ := H
      have A14 := Aside0.mk A140
      clear A140
      have H' := Aside0.mk H
      clear H
      obtain ⟨hcz15_0, hcz15_1, hcz15_2, hcz15_3, hcz15_4, hcz15_5, hcz15_6, hcz15_7, hfz15_0, hfz15_1, hfz15_2, hfz15_3, hfz15_4, hfz15_5, hfz15_6, hfz15_7⟩ := bc8 BK140.out
      go_wp2_with (first | ((with_reducible refine gate_callee (f := 65) rfl ?_); refine goesL_ (some 5) rfl rfl Tryz.func65 (by kernel_rfl) rfl #[.string a0_0] rfl z2_ ?_; (with_reducible refine (ident_Is.calls k a0_0 true _ A4.out).mono ?_); rintro e w' ⟨rfl, ⟨nd, rfl⟩⟩; refine ⟨_, rfl, ?_⟩) | (go_at_call 79; (with_reducible refine (object_Word.calls a0_1 t142 _ A6.out).mono ?_); rintro e w16 ⟨rfl, hb⟩; replace BK140 := Aside0.mk (bb_ BK140.out hb); replace HB := Aside0.mk (below_step (hs_) hb); (try clear hb); (try clear hb2); (try clear hk); (try clear hi); obtain ⟨hcz17_0, hcz17_1, hcz17_2, hcz17_3, hcz17_4, hcz17_5, hcz17_6, hcz17_7, hfz17_0, hfz17_1, hfz17_2, hfz17_3, hfz17_4, hfz17_5, hfz17_6, hfz17_7⟩ := bc8 BK140.out) | (go_at_call 81; (with_reducible refine (commit_tagged.calls k a0_2 true _ A10.out).mono ?_); rintro e w' ⟨rfl, ⟨nd, rfl⟩⟩) | (go_at_call 67; (with_reducible refine (commit_somebody.calls k a0_3 a0_4 a0_5 a0_6 true _ A12.out).mono ?_); rintro e w18 ⟨rfl, hb⟩; replace BK140 := Aside0.mk (bb_ BK140.out hb); replace HB := Aside0.mk (below_step (hs_) hb); (try clear hb); (try clear hb2); (try clear hk); (try clear hi); obtain ⟨hcz19_0, hcz19_1, hcz19_2, hcz19_3, hcz19_4, hcz19_5, hcz19_6, hcz19_7, hfz19_0, hfz19_1, hfz19_2, hfz19_3, hfz19_4, hfz19_5, hfz19_6, hfz19_7⟩ := bc8 BK140.out) | (go_at_call 68; (with_reducible refine (strings_Contains2.calls a0_7 (⟨#[0]⟩ : ByteArray) t145 _ ?side1 A14.out).mono ?_); (case side1 => exact GV.below hgv (hs_)); rintro e w' ⟨rfl, ⟨nd, rfl⟩⟩))
      go_meet
      case rel => exact ⟨_, (t145), z1_, H', ⟨z5_⟩, ⟨bk_ BK140.out⟩, ⟨hs_⟩⟩
     ·replace c13 := Bool.eq_false_iff.mpr c13
      subst c13
      have H1 : (commit_CheckTag.j0 k true a0_0 a0_1 a0_2 a0_3 a0_4 a0_5 a0_6 a0_7) = some r := by rw [if_neg (show ¬ (false = true) by decide)] at H; exact H
      clear H
      have H := H1
      clear H1
      have H' := Aside0.mk H
      clear H
      obtain ⟨hcz20_0, hcz20_1, hcz20_2, hcz20_3, hcz20_4, hcz20_5, hcz20_6, hcz20_7, hfz20_0, hfz20_1, hfz20_2, hfz20_3, hfz20_4, hfz20_5, hfz20_6, hfz20_7⟩ := bc8 BK140.out
      go_wp2_with (first | ((with_reducible refine gate_callee (f := 65) rfl ?_); refine goesL_ (some 5) rfl rfl Tryz.func65 (by kernel_rfl) rfl #[.string a0_0] rfl z2_ ?_; (with_reducible refine (ident_Is.calls k a0_0 true _ A4.out).mono ?_); rintro e w' ⟨rfl, ⟨nd, rfl⟩⟩; refine ⟨_, rfl, ?_⟩) | (go_at_call 79; (with_reducible refine (object_Word.calls a0_1 t142 _ A6.out).mono ?_); rintro e w21 ⟨rfl, hb⟩; replace BK140 := Aside0.mk (bb_ BK140.out hb); replace HB := Aside0.mk (below_step (hs_) hb); (try clear hb); (try clear hb2); (try clear hk); (try clear hi); obtain ⟨hcz22_0, hcz22_1, hcz22_2, hcz22_3, hcz22_4, hcz22_5, hcz22_6, hcz22_7, hfz22_0, hfz22_1, hfz22_2, hfz22_3, hfz22_4, hfz22_5, hfz22_6, hfz22_7⟩ := bc8 BK140.out) | (go_at_call 81; (with_reducible refine (commit_tagged.calls k a0_2 true _ A10.out).mono ?_); rintro e w' ⟨rfl, ⟨nd, rfl⟩⟩) | (go_at_call 67; (with_reducible refine (commit_somebody.calls k a0_3 a0_4 a0_5 a0_6 false _ A12.out).mono ?_); rintro e w23 ⟨rfl, hb⟩; replace BK140 := Aside0.mk (bb_ BK140.out hb); replace HB := Aside0.mk (below_step (hs_) hb); (try clear hb); (try clear hb2); (try clear hk); (try clear hi)))
      go_meet
      case rel => exact ⟨_, (true), z1_, H', ⟨z5_⟩, ⟨bk_ BK140.out⟩, ⟨hs_⟩⟩
    ·replace c11 := Bool.eq_false_iff.mpr c11
     subst c11
     have H1 : (commit_CheckTag.j0 k true a0_0 a0_1 a0_2 a0_3 a0_4 a0_5 a0_6 a0_7) = some r := by rw [if_neg (show ¬ (false = true) by decide)] at H; exact H
     clear H
     have H := H1
     clear H1
     have H' := Aside0.mk H
     clear H
     obtain ⟨hcz24_0, hcz24_1, hcz24_2, hcz24_3, hcz24_4, hcz24_5, hcz24_6, hcz24_7, hfz24_0, hfz24_1, hfz24_2, hfz24_3, hfz24_4, hfz24_5, hfz24_6, hfz24_7⟩ := bc8 BK140.out
     go_wp2_with (first | ((with_reducible refine gate_callee (f := 65) rfl ?_); refine goesL_ (some 5) rfl rfl Tryz.func65 (by kernel_rfl) rfl #[.string a0_0] rfl z2_ ?_; (with_reducible refine (ident_Is.calls k a0_0 true _ A4.out).mono ?_); rintro e w' ⟨rfl, ⟨nd, rfl⟩⟩; refine ⟨_, rfl, ?_⟩) | (go_at_call 79; (with_reducible refine (object_Word.calls a0_1 t142 _ A6.out).mono ?_); rintro e w25 ⟨rfl, hb⟩; replace BK140 := Aside0.mk (bb_ BK140.out hb); replace HB := Aside0.mk (below_step (hs_) hb); (try clear hb); (try clear hb2); (try clear hk); (try clear hi); obtain ⟨hcz26_0, hcz26_1, hcz26_2, hcz26_3, hcz26_4, hcz26_5, hcz26_6, hcz26_7, hfz26_0, hfz26_1, hfz26_2, hfz26_3, hfz26_4, hfz26_5, hfz26_6, hfz26_7⟩ := bc8 BK140.out) | (go_at_call 81; (with_reducible refine (commit_tagged.calls k a0_2 false _ A10.out).mono ?_); rintro e w' ⟨rfl, ⟨nd, rfl⟩⟩))
     go_meet
     case rel => exact ⟨_, (true), z1_, H', ⟨z5_⟩, ⟨bk_ BK140.out⟩, ⟨hs_⟩⟩
  ·replace c5 := Bool.eq_false_iff.mpr c5
   subst c5
   have H1 : (commit_CheckTag.j0 k true a0_0 a0_1 a0_2 a0_3 a0_4 a0_5 a0_6 a0_7) = some r := by rw [if_neg (show ¬ (false = true) by decide)] at H; exact H
   clear H
   have H := H1
   clear H1
   have H' := Aside0.mk H
   clear H
   obtain ⟨hcz27_0, hcz27_1, hcz27_2, hcz27_3, hcz27_4, hcz27_5, hcz27_6, hcz27_7, hfz27_0, hfz27_1, hfz27_2, hfz27_3, hfz27_4, hfz27_5, hfz27_6, hfz27_7⟩ := bc8 BK140.out
   go_wp2_with (first | ((with_reducible refine gate_callee (f := 65) rfl ?_); refine goesL_ (some 5) rfl rfl Tryz.func65 (by kernel_rfl) rfl #[.string a0_0] rfl z2_ ?_; (with_reducible refine (ident_Is.calls k a0_0 false _ A4.out).mono ?_); rintro e w' ⟨rfl, ⟨nd, rfl⟩⟩; refine ⟨_, rfl, ?_⟩))
   go_meet
   case rel => exact ⟨_, (true), z1_, H', ⟨z5_⟩, ⟨bk_ BK140.out⟩, ⟨hs_⟩⟩
 case rest =>
  clear HC2
  try clear c1
  try clear c2
  try clear p2
  try clear c5
  try clear c6
  try clear c7
  try clear c7b0
  try clear c7b1
  try clear c11
  try clear c13
  try clear c27
  try clear hcz15_0 hcz15_1 hcz15_2 hcz15_3 hcz15_4 hcz15_5 hcz15_6 hcz15_7
  try clear hcz17_0 hcz17_1 hcz17_2 hcz17_3 hcz17_4 hcz17_5 hcz17_6 hcz17_7
  try clear hcz19_0 hcz19_1 hcz19_2 hcz19_3 hcz19_4 hcz19_5 hcz19_6 hcz19_7
  try clear hcz20_0 hcz20_1 hcz20_2 hcz20_3 hcz20_4 hcz20_5 hcz20_6 hcz20_7
  try clear hcz22_0 hcz22_1 hcz22_2 hcz22_3 hcz22_4 hcz22_5 hcz22_6 hcz22_7
  try clear hcz24_0 hcz24_1 hcz24_2 hcz24_3 hcz24_4 hcz24_5 hcz24_6 hcz24_7
  try clear hcz26_0 hcz26_1 hcz26_2 hcz26_3 hcz26_4 hcz26_5 hcz26_6 hcz26_7
  try clear hcz27_0 hcz27_1 hcz27_2 hcz27_3 hcz27_4 hcz27_5 hcz27_6 hcz27_7
  try clear hcz8_0 hcz8_1 hcz8_2 hcz8_3 hcz8_4 hcz8_5 hcz8_6 hcz8_7
  try clear hfz15_0 hfz15_1 hfz15_2 hfz15_3 hfz15_4 hfz15_5 hfz15_6 hfz15_7
  try clear hfz17_0 hfz17_1 hfz17_2 hfz17_3 hfz17_4 hfz17_5 hfz17_6 hfz17_7
  try clear hfz19_0 hfz19_1 hfz19_2 hfz19_3 hfz19_4 hfz19_5 hfz19_6 hfz19_7
  try clear hfz20_0 hfz20_1 hfz20_2 hfz20_3 hfz20_4 hfz20_5 hfz20_6 hfz20_7
  try clear hfz22_0 hfz22_1 hfz22_2 hfz22_3 hfz22_4 hfz22_5 hfz22_6 hfz22_7
  try clear hfz24_0 hfz24_1 hfz24_2 hfz24_3 hfz24_4 hfz24_5 hfz24_6 hfz24_7
  try clear hfz26_0 hfz26_1 hfz26_2 hfz26_3 hfz26_4 hfz26_5 hfz26_6 hfz26_7
  try clear hfz27_0 hfz27_1 hfz27_2 hfz27_3 hfz27_4 hfz27_5 hfz27_6 hfz27_7
  try clear hfz8_0 hfz8_1 hfz8_2 hfz8_3 hfz8_4 hfz8_5 hfz8_6 hfz8_7
  obtain ⟨kq, x29_1, rfl, HA, HJ1, BK140, HB⟩ := hcut
  cases kq with
  | zero => exact absurd HA.out (by simp [commit_CheckTag.j0])
  | succ kj1 =>
   have H := HA.out
   clear HA
   simp only [commit_CheckTag.j0] at H
   by_cases c28 : x29_1 = true
   ·subst c28
    have H1 : (some 1) = some r := by rw [if_pos rfl] at H; exact H
    clear H
    have H := H1
    clear H1
    obtain rfl := Option.some.inj H
    go_wp2
    go_ret
    exact ⟨z4_, hs_⟩
   ·replace c28 := Bool.eq_false_iff.mpr c28
    subst c28
    have H1 : (if (a0_7.size : Int) > 4096 then (some 4) else (some 0)) = some r := by rw [if_neg (show ¬ (false = true) by decide)] at H; exact H
    clear H
    have H := H1
    clear H1
    by_cases c29 : (a0_7.size : Int) > 4096
    ·rw [if_pos c29] at H
     have c29b0 := decide_eq_true c29
     have c29b1 : decide (4096 < a0_7.size) = true := decide_eq_true (by omega)
     clear c29
     obtain rfl := Option.some.inj H
     obtain ⟨hcz30_0, hcz30_1, hcz30_2, hcz30_3, hcz30_4, hcz30_5, hcz30_6, hcz30_7, hfz30_0, hfz30_1, hfz30_2, hfz30_3, hfz30_4, hfz30_5, hfz30_6, hfz30_7⟩ := bc8 BK140.out
     go_wp2
     go_ret
     exact ⟨z4_, hs_⟩
    ·rw [if_neg c29] at H
     have c29b0 := decide_eq_false c29
     have c29b1 : decide (4096 < a0_7.size) = false := decide_eq_false (by omega)
     clear c29
     obtain rfl := Option.some.inj H
     obtain ⟨hcz31_0, hcz31_1, hcz31_2, hcz31_3, hcz31_4, hcz31_5, hcz31_6, hcz31_7, hfz31_0, hfz31_1, hfz31_2, hfz31_3, hfz31_4, hfz31_5, hfz31_6, hfz31_7⟩ := bc8 BK140.out
     go_wp2
     go_ret
     exact ⟨z4_, hs_⟩

end Go.Proofs.YtbhfbbfjdklfgaaGreatDoor.Q


/- A call of a function value, as one step of a walk. -/
namespace Go.Proofs.YtbhfbbfjdklfgaaGreatDoor.Q
open Go.RowKit Go.Proofs.YtbhfbbfjdklfgaaGreatDoorW.PrintWords Go.Proofs.YtbhfbbfjdklfgaaGreatDoorW.PrintLast Go.Proofs.YtbhfbbfjdklfgaaGreatDoorW.PrintMore
variable {P : Program} {ops : Array Oper} {Q : Exit → Act → World → Prop}
theorem goesF_ {rest : List Oper} {oi : Oper} {a : Act} {w : World} (N : Option Tmp) (hd : oi.dst = N) (hg : oi.guard = none) {t : Tmp} {g : Nat} {lb : Array Value} {os : Array Operand} {ts : Array TypeId}
    (eg : ∀ args w, (callFunc g args).run P w = .ok (.enter g args) w) (args : Array Value)
    (hop : oi.op = .call { callee := .value (.tmp t), args := os, argTypes := ts }) (hf : a.eval (.tmp t) = .func (.func g) #[] lb) (hargs : os.map a.eval = args) (all : Array Value) (hall : args ++ lb = all)
    (h : Calls P g all w fun e w' => ∃ v, e = .returned v ∧ wpList P ops Q rest (a.put N v) w') : wpList P ops Q (oi :: rest) a w := by
  refine wpList_plain hg fun K hK => ?_
  have hrun : (execOp a.eval oi).run P w = .ok (.enter g all) w := by
    unfold execOp
    simp [hop, resolve, Deferred.ofValue, invoke, hf, hargs, eg, hall]
  unfold Oper.wp
  rw [hrun, Oper.upon_enter]
  refine h.mono fun e w'' hh => ?_
  obtain ⟨v, rfl, hk⟩ := hh
  subst hd
  exact hK _ _ hk
theorem goesT_ {oi : Oper} {N : Option Tmp} {a : Act} {w : World} {K : Act → World → Prop} {f : FuncId} {fn : Func} {t : Tmp} {os : Array Operand} {ts : Array TypeId} (hf : P.funcs[f]? = some fn) (hname : (fn.name == "runtime.NumGoroutine") = false) (hb : fn.body.isSome = true) (args : Array Value)
    (hw : Region.wanted oi (yielded ops a.tmps) = true) (hN : oi.dst = N) (hop : oi.op = .call { callee := .value (.tmp t), args := os, argTypes := ts }) (hfv : a.eval (.tmp t) = .func (.func f) #[] #[]) (hargs : os.map a.eval = args)
    (h : Calls P f args w fun e w' => ∃ v, e = .returned v ∧ K (a.put N v) w') : if Region.wanted oi (yielded ops a.tmps) = true then Oper.wp P oi a w K Q else K (a.put N undef) w := by
  refine call_ f args hw hN ?_ h
  have he := enters_ hf hname hb args w
  unfold execOp
  simp [hop, resolve, Deferred.ofValue, invoke, hfv, hargs, he]
end Go.Proofs.YtbhfbbfjdklfgaaGreatDoor.Q


namespace Go.Proofs.YtbhfbbfjdklfgaaGreatDoor.Q
open Go.RowKit Go.Proofs.YtbhfbbfjdklfgaaGreatDoorW.PrintWords Go.Proofs.YtbhfbbfjdklfgaaGreatDoorW.PrintLast Go.Proofs.YtbhfbbfjdklfgaaGreatDoorW.PrintMore
attribute [local go_sem] max2_int min2_int max_two min_two max_three min_three max_four min_four   -- for this text's walks alone

def commit_Who_1.f (a0 : Int) : Option (ByteArray) := (strconv_Itoa.f (Int.tmod (wrap64 (Int.tdiv a0 10)) 10)).bind fun t125 => ((strconv_Itoa.f (Int.tmod a0 10)).bind fun t126 => (if t125.size + t126.size ≤ 9223372036854775807 then (some (t125 ++ t126)) else (none)))
set_option maxHeartbeats 8000000 in
set_option maxRecDepth 100000 in
theorem commit_Who_1.calls (a0 : Int) (r : ByteArray) (w : World) (hgv : GV w) (h : commit_Who_1.f a0 = some r) :
  Calls Tryz.prog 90 #[.int .i64 a0] w fun e w' => e = .returned (.string r) ∧ Below w.heap.size w w' := by
 have HB := Aside0.mk (Below.refl w.heap.size w)
 have H : ((strconv_Itoa.f (Int.tmod (wrap64 (Int.tdiv a0 10)) 10)).bind fun t125 => ((strconv_Itoa.f (Int.tmod a0 10)).bind fun t126 => (if t125.size + t126.size ≤ 9223372036854775807 then (some (t125 ++ t126)) else (none)))) = some r := h
 clear h
 replace H := Option.bind_eq_some_iff.mp H
 obtain ⟨t125, A20, H⟩ := H
 have A2 := Aside0.mk A20
 clear A20
 replace H := Option.bind_eq_some_iff.mp H
 obtain ⟨t126, A30, H⟩ := H
 have A3 := Aside0.mk A30
 clear A30
 by_cases c4 : t125.size + t126.size ≤ 9223372036854775807
 ·rw [if_pos c4] at H
  have c4b0 := eq_true c4
  have c4b1 := decide_eq_true c4
  try have c4b2 := nl_ c4
  obtain rfl := Option.some.inj H
  go_enter Tryz.func90, Tryz.ntmps90
  have tk7_ : True := trivial
  have tk8_ : True := trivial
  go_wp2_with (first | (have _t := tk7_; (with_reducible refine gate_callee (f := 91) rfl ?_); refine goesL_ (some 6) rfl rfl Tryz.func91 (by kernel_rfl) rfl #[.int .i64 (Int.tmod (wrap64 (Int.tdiv a0 10)) 10)] rfl z2_ ?_; (with_reducible refine (strconv_Itoa.calls (Int.tmod (wrap64 (Int.tdiv a0 10)) 10) t125 _ ?side1 A2.out).mono ?_); (case side1 => exact GV.below hgv (hb_ HB.out)); rintro e w5 ⟨rfl, hb⟩; refine ⟨_, rfl, ?_⟩; replace HB := Aside0.mk (below_step (hb_ HB.out) hb); (try clear hb); (try clear hb2); (try clear hk); (try clear hi); clear tk7_) | (have _t := tk8_; (with_reducible refine gate_callee (f := 91) rfl ?_); refine goesL_ (some 9) rfl rfl Tryz.func91 (by kernel_rfl) rfl #[.int .i64 (Int.tmod a0 10)] rfl z2_ ?_; (with_reducible refine (strconv_Itoa.calls (Int.tmod a0 10) t126 _ ?side1 A3.out).mono ?_); (case side1 => exact GV.below hgv (hb_ HB.out)); rintro e w6 ⟨rfl, hb⟩; refine ⟨_, rfl, ?_⟩; replace HB := Aside0.mk (below_step (hb_ HB.out) hb); (try clear hb); (try clear hb2); (try clear hk); (try clear hi); clear tk8_))
  go_ret
  exact ⟨z4_, hb_ HB.out⟩
 ·rw [if_neg c4] at H
  exact absurd H (by simp)


def commit_Who.f (a0_0 : ByteArray) (a0_1 : ByteArray) (a0_2 : Int) (a0_3 : Int) : Option (ByteArray) := if a0_3 < 0 then (if a0_0.size + 2 ≤ 9223372036854775807 then (if (a0_0 ++ (⟨#[32, 60]⟩ : ByteArray)).size + a0_1.size ≤ 9223372036854775807 then (if ((a0_0 ++ (⟨#[32, 60]⟩ : ByteArray)) ++ a0_1).size + 2 ≤ 9223372036854775807 then ((strconv_Itoa.f a0_2).bind fun t102 => (if (((a0_0 ++ (⟨#[32, 60]⟩ : ByteArray)) ++ a0_1) ++ (⟨#[62, 32]⟩ : ByteArray)).size + t102.size ≤ 9223372036854775807 then (if ((((a0_0 ++ (⟨#[32, 60]⟩ : ByteArray)) ++ a0_1) ++ (⟨#[62, 32]⟩ : ByteArray)) ++ t102).size + 1 ≤ 9223372036854775807 then (if (((((a0_0 ++ (⟨#[32, 60]⟩ : ByteArray)) ++ a0_1) ++ (⟨#[62, 32]⟩ : ByteArray)) ++ t102) ++ (⟨#[32]⟩ : ByteArray)).size + 1 ≤ 9223372036854775807 then ((commit_Who_1.f (wrap64 (Int.tdiv (wrap64 (-a0_3)) 60))).bind fun t103 => (if ((((((a0_0 ++ (⟨#[32, 60]⟩ : ByteArray)) ++ a0_1) ++ (⟨#[62, 32]⟩ : ByteArray)) ++ t102) ++ (⟨#[32]⟩ : ByteArray)) ++ (⟨#[45]⟩ : ByteArray)).size + t103.size ≤ 9223372036854775807 then ((commit_Who_1.f (Int.tmod (wrap64 (-a0_3)) 60)).bind fun t104 => (if (((((((a0_0 ++ (⟨#[32, 60]⟩ : ByteArray)) ++ a0_1) ++ (⟨#[62, 32]⟩ : ByteArray)) ++ t102) ++ (⟨#[32]⟩ : ByteArray)) ++ (⟨#[45]⟩ : ByteArray)) ++ t103).size + t104.size ≤ 9223372036854775807 then (some ((((((((a0_0 ++ (⟨#[32, 60]⟩ : ByteArray)) ++ a0_1) ++ (⟨#[62, 32]⟩ : ByteArray)) ++ t102) ++ (⟨#[32]⟩ : ByteArray)) ++ (⟨#[45]⟩ : ByteArray)) ++ t103) ++ t104)) else (none))) else (none))) else (none)) else (none)) else (none))) else (none)) else (none)) else (none)) else (if a0_0.size + 2 ≤ 9223372036854775807 then (if (a0_0 ++ (⟨#[32, 60]⟩ : ByteArray)).size + a0_1.size ≤ 9223372036854775807 then (if ((a0_0 ++ (⟨#[32, 60]⟩ : ByteArray)) ++ a0_1).size + 2 ≤ 9223372036854775807 then ((strconv_Itoa.f a0_2).bind fun t105 => (if (((a0_0 ++ (⟨#[32, 60]⟩ : ByteArray)) ++ a0_1) ++ (⟨#[62, 32]⟩ : ByteArray)).size + t105.size ≤ 9223372036854775807 then (if ((((a0_0 ++ (⟨#[32, 60]⟩ : ByteArray)) ++ a0_1) ++ (⟨#[62, 32]⟩ : ByteArray)) ++ t105).size + 1 ≤ 9223372036854775807 then (if (((((a0_0 ++ (⟨#[32, 60]⟩ : ByteArray)) ++ a0_1) ++ (⟨#[62, 32]⟩ : ByteArray)) ++ t105) ++ (⟨#[32]⟩ : ByteArray)).size + 1 ≤ 9223372036854775807 then ((commit_Who_1.f (wrap64 (Int.tdiv a0_3 60))).bind fun t106 => (if ((((((a0_0 ++ (⟨#[32, 60]⟩ : ByteArray)) ++ a0_1) ++ (⟨#[62, 32]⟩ : ByteArray)) ++ t105) ++ (⟨#[32]⟩ : ByteArray)) ++ (⟨#[43]⟩ : ByteArray)).size + t106.size ≤ 9223372036854775807 then ((commit_Who_1.f (Int.tmod a0_3 60)).bind fun t107 => (if (((((((a0_0 ++ (⟨#[32, 60]⟩ : ByteArray)) ++ a0_1) ++ (⟨#[62, 32]⟩ : ByteArray)) ++ t105) ++ (⟨#[32]⟩ : ByteArray)) ++ (⟨#[43]⟩ : ByteArray)) ++ t106).size + t107.size ≤ 9223372036854775807 then (some ((((((((a0_0 ++ (⟨#[32, 60]⟩ : ByteArray)) ++ a0_1) ++ (⟨#[62, 32]⟩ : ByteArray)) ++ t105) ++ (⟨#[32]⟩ : ByteArray)) ++ (⟨#[43]⟩ : ByteArray)) ++ t106) ++ t107)) else (none))) else (none))) else (none)) else (none)) else (none))) else (none)) else (none)) else (none))
def commit_Who.T5 : Bool × List (List Nat × List Nat) := (true, [([], []), ([0], [0]), ([1], [1]), ([], []), ([3], [3]), ([2, 4], [2, 4]), ([5], [5]), ([], []), ([7], [7]), ([8], [8]), ([6, 9], [6, 9]), ([10], [10]), ([], []), ([11, 12], [11, 12]), ([], []), ([], []), ([15], [15]), ([14, 16, 9], [14, 16]), ([13, 17], [13, 17]), ([], []), ([], []), ([20], [20]), ([19, 21, 17], [19, 21]), ([18, 22], [18, 22]), ([23, 22, 0, 1, 2, 3, 4, 5, 6, 7, 8, 9, 10, 11, 12, 13, 14, 15, 16, 17, 18, 19, 20, 21, 22, 23], [23])])
def commit_Who.B5 : List Nat := [0, 1, 3, 0, 8, 31, 63, 0, 128, 384, 1023, 2047, 0, 8191, 0, 0, 32768, 115584, 262143, 0, 0, 1048576, 3916672, 8388607, 16777215]
theorem commit_Who.tab5 : rtab .any (opsOf Tryz.f31 5) = commit_Who.T5 := by kernel_rfl
theorem commit_Who.bits5 : waitsOk commit_Who.T5.2 commit_Who.B5 = true := by kernel_rfl
set_option maxHeartbeats 8000000 in
set_option maxRecDepth 100000 in
theorem commit_Who.calls (a0_0 : ByteArray) (a0_1 : ByteArray) (a0_2 : Int) (a0_3 : Int) (r : ByteArray) (w : World) (hgv : GV w) (h : commit_Who.f a0_0 a0_1 a0_2 a0_3 = some r) :
  Calls Tryz.prog 31 #[.agg #[.string a0_0, .string a0_1, .int .i64 a0_2, .int .i64 a0_3]] w fun e w' => e = .returned (.string r) ∧ Below w.heap.size w w' := by
 have hu24 := Tryz.underlying24
 have HB := Aside0.mk (Below.refl w.heap.size w)
 have H : (if a0_3 < 0 then (if a0_0.size + 2 ≤ 9223372036854775807 then (if (a0_0 ++ (⟨#[32, 60]⟩ : ByteArray)).size + a0_1.size ≤ 9223372036854775807 then (if ((a0_0 ++ (⟨#[32, 60]⟩ : ByteArray)) ++ a0_1).size + 2 ≤ 9223372036854775807 then ((strconv_Itoa.f a0_2).bind fun t102 => (if (((a0_0 ++ (⟨#[32, 60]⟩ : ByteArray)) ++ a0_1) ++ (⟨#[62, 32]⟩ : ByteArray)).size + t102.size ≤ 9223372036854775807 then (if ((((a0_0 ++ (⟨#[32, 60]⟩ : ByteArray)) ++ a0_1) ++ (⟨#[62, 32]⟩ : ByteArray)) ++ t102).size + 1 ≤ 9223372036854775807 then (if (((((a0_0 ++ (⟨#[32, 60]⟩ : ByteArray)) ++ a0_1) ++ (⟨#[62, 32]⟩ : ByteArray)) ++ t102) ++ (⟨#[32]⟩ : ByteArray)).size + 1 ≤ 9223372036854775807 then ((commit_Who_1.f (wrap64 (Int.tdiv (wrap64 (-a0_3)) 60))).bind fun t103 => (if ((((((a0_0 ++ (⟨#[32, 60]⟩ : ByteArray)) ++ a0_1) ++ (⟨#[62, 32]⟩ : ByteArray)) ++ t102) ++ (⟨#[32]⟩ : ByteArray)) ++ (⟨#[45]⟩ : ByteArray)).size + t103.size ≤ 9223372036854775807 then ((commit_Who_1.f (Int.tmod (wrap64 (-a0_3)) 60)).bind fun t104 => (if (((((((a0_0 ++ (⟨#[32, 60]⟩ : ByteArray)) ++ a0_1) ++ (⟨#[62, 32]⟩ : ByteArray)) ++ t102) ++ (⟨#[32]⟩ : ByteArray)) ++ (⟨#[45]⟩ : ByteArray)) ++ t103).size + t104.size ≤ 9223372036854775807 then (some ((((((((a0_0 ++ (⟨#[32, 60]⟩ : ByteArray)) ++ a0_1) ++ (⟨#[62, 32]⟩ : ByteArray)) ++ t102) ++ (⟨#[32]⟩ : ByteArray)) ++ (⟨#[45]⟩ : ByteArray)) ++ t103) ++ t104)) else (none))) else (none))) else (none)) else (none)) else (none))) else (none)) else (none)) else (none)) else (if a0_0.size + 2 ≤ 9223372036854775807 then (if (a0_0 ++ (⟨#[32, 60]⟩ : ByteArray)).size + a0_1.size ≤ 9223372036854775807 then (if ((a0_0 ++ (⟨#[32, 60]⟩ : ByteArray)) ++ a0_1).size + 2 ≤ 9223372036854775807 then ((strconv_Itoa.f a0_2).bind fun t105 => (if (((a0_0 ++ (⟨#[32, 60]⟩ : ByteArray)) ++ a0_1) ++ (⟨#[62, 32]⟩ : ByteArray)).size + t105.size ≤ 9223372036854775807 then (if ((((a0_0 ++ (⟨#[32, 60]⟩ : ByteArray)) ++ a0_1) ++ (⟨#[62, 32]⟩ : ByteArray)) ++ t105).size + 1 ≤ 9223372036854775807 then (if (((((a0_0 ++ (⟨#[32, 60]⟩ : ByteArray)) ++ a0_1) ++ (⟨#[62, 32]⟩ : ByteArray)) ++ t105) ++ (⟨#[32]⟩ : ByteArray)).size + 1 ≤ 9223372036854775807 then ((commit_Who_1.f (wrap64 (Int.tdiv a0_3 60))).bind fun t106 => (if ((((((a0_0 ++ (⟨#[32, 60]⟩ : ByteArray)) ++ a0_1) ++ (⟨#[62, 32]⟩ : ByteArray)) ++ t105) ++ (⟨#[32]⟩ : ByteArray)) ++ (⟨#[43]⟩ : ByteArray)).size + t106.size ≤ 9223372036854775807 then ((commit_Who_1.f (Int.tmod a0_3 60)).bind fun t107 => (if (((((((a0_0 ++ (⟨#[32, 60]⟩ : ByteArray)) ++ a0_1) ++ (⟨#[62, 32]⟩ : ByteArray)) ++ t105) ++ (⟨#[32]⟩ : ByteArray)) ++ (⟨#[43]⟩ : ByteArray)) ++ t106).size + t107.size ≤ 9223372036854775807 then (some ((((((((a0_0 ++ (⟨#[32, 60]⟩ : ByteArray)) ++ a0_1) ++ (⟨#[62, 32]⟩ : ByteArray)) ++ t105) ++ (⟨#[32]⟩ : ByteArray)) ++ (⟨#[43]⟩ : ByteArray)) ++ t106) ++ t107)) else (none))) else (none))) else (none)) else (none)) else (none))) else (none)) else (none)) else (none))) = some r := h
 clear h
 by_cases c2 : a0_3 < 0
 ·rw [if_pos c2] at H
  have c2b0 := decide_eq_true c2
  clear c2
  by_cases c3 : a0_0.size + 2 ≤ 9223372036854775807
  ·rw [if_pos c3] at H
   have c3b0 := eq_true c3
   have c3b1 := decide_eq_true c3
   try have c3b2 := nl_ c3
   by_cases c4 : (a0_0 ++ (⟨#[32, 60]⟩ : ByteArray)).size + a0_1.size ≤ 9223372036854775807
   ·rw [if_pos c4] at H
    have c4b0 := eq_true c4
    have c4b1 := decide_eq_true c4
    try have c4b3 : (9223372036854775807 < a0_0.size + 2 + a0_1.size) = False := have h_ := c4; ns_
    try have c4b2 := nl_ c4
    by_cases c5 : ((a0_0 ++ (⟨#[32, 60]⟩ : ByteArray)) ++ a0_1).size + 2 ≤ 9223372036854775807
    ·rw [if_pos c5] at H
     have c5b0 := eq_true c5
     have c5b1 := decide_eq_true c5
     try have c5b3 : (9223372036854775807 < a0_0.size + 2 + a0_1.size + 2) = False := have h_ := c5; ns_
     try have c5b2 := nl_ c5
     replace H := Option.bind_eq_some_iff.mp H
     obtain ⟨t102, A60, H⟩ := H
     have A6 := Aside0.mk A60
     clear A60
     by_cases c7 : (((a0_0 ++ (⟨#[32, 60]⟩ : ByteArray)) ++ a0_1) ++ (⟨#[62, 32]⟩ : ByteArray)).size + t102.size ≤ 9223372036854775807
     ·rw [if_pos c7] at H
      have c7b0 := eq_true c7
      have c7b1 := decide_eq_true c7
      try have c7b3 : (9223372036854775807 < a0_0.size + 2 + a0_1.size + 2 + t102.size) = False := have h_ := c7; ns_
      try have c7b2 := nl_ c7
      by_cases c8 : ((((a0_0 ++ (⟨#[32, 60]⟩ : ByteArray)) ++ a0_1) ++ (⟨#[62, 32]⟩ : ByteArray)) ++ t102).size + 1 ≤ 9223372036854775807
      ·rw [if_pos c8] at H
       have c8b0 := eq_true c8
       have c8b1 := decide_eq_true c8
       try have c8b3 : (9223372036854775807 < a0_0.size + 2 + a0_1.size + 2 + t102.size + 1) = False := have h_ := c8; ns_
       try have c8b2 := nl_ c8
       by_cases c9 : (((((a0_0 ++ (⟨#[32, 60]⟩ : ByteArray)) ++ a0_1) ++ (⟨#[62, 32]⟩ : ByteArray)) ++ t102) ++ (⟨#[32]⟩ : ByteArray)).size + 1 ≤ 9223372036854775807
       ·rw [if_pos c9] at H
        have c9b0 := eq_true c9
        have c9b1 := decide_eq_true c9
        try have c9b3 : (9223372036854775807 < a0_0.size + 2 + a0_1.size + 2 + t102.size + 1 + 1) = False := have h_ := c9; ns_
        try have c9b2 := nl_ c9
        replace H := Option.bind_eq_some_iff.mp H
        obtain ⟨t103, A100, H⟩ := H
        have A10 := Aside0.mk A100
        clear A100
        by_cases c11 : ((((((a0_0 ++ (⟨#[32, 60]⟩ : ByteArray)) ++ a0_1) ++ (⟨#[62, 32]⟩ : ByteArray)) ++ t102) ++ (⟨#[32]⟩ : ByteArray)) ++ (⟨#[45]⟩ : ByteArray)).size + t103.size ≤ 9223372036854775807
        ·rw [if_pos c11] at H
         have c11b0 := eq_true c11
         have c11b1 := decide_eq_true c11
         try have c11b3 : (9223372036854775807 < a0_0.size + 2 + a0_1.size + 2 + t102.size + 1 + 1 + t103.size) = False := have h_ := c11; ns_
         try have c11b2 := nl_ c11
         replace H := Option.bind_eq_some_iff.mp H
         obtain ⟨t104, A120, H⟩ := H
         have A12 := Aside0.mk A120
         clear A120
         by_cases c13 : (((((((a0_0 ++ (⟨#[32, 60]⟩ : ByteArray)) ++ a0_1) ++ (⟨#[62, 32]⟩ : ByteArray)) ++ t102) ++ (⟨#[32]⟩ : ByteArray)) ++ (⟨#[45]⟩ : ByteArray)) ++ t103).size + t104.size ≤ 9223372036854775807
         ·rw [if_pos c13] at H
          have c13b0 := eq_true c13
          have c13b1 := decide_eq_true c13
          try have c13b3 : (9223372036854775807 < a0_0.size + 2 + a0_1.size + 2 + t102.size + 1 + 1 + t103.size + t104.size) = False := have h_ := c13; ns_
          try have c13b2 := nl_ c13
          obtain rfl := Option.some.inj H
          go_enter Tryz.func31, Tryz.ntmps31
          try go_wp2_with (first | ((with_reducible refine gate_dst (N := 1) rfl ?_); refine be_ (cs := #[.string a0_0, .string a0_1, .int .i64 a0_2, .int .i64 a0_3]) (t := 24) ?_; intro gb101 hg w14 hbox hb; have BK101 := Aside0.mk (hbox); have GW101 := Aside0.mk (gw_ hg HB.out); have GE101 := Aside0.mk (gw_ hg HB.out); replace HB := Aside0.mk (below_step (hb_ HB.out) hb); clear hb hbox hg))
          replace BK101 := Aside0.mk (blk_drew BK101.out)
          replace HB := Aside0.mk (below_drew1 HB.out)
          refine start_ (n := 4) (S := fun w' => w'.cell? ⟨gb101, 0, none⟩ = some (.string a0_0) ∧ w'.cell? ⟨gb101, 1, none⟩ = some (.string a0_1) ∧ w'.cell? ⟨gb101, 2, none⟩ = some (.int .i64 a0_2) ∧ w'.cell? ⟨gb101, 3, none⟩ = some (.int .i64 a0_3)) (ds := []) (bs 4 0) (by kernel_rfl) rfl rfl ⟨(blk_cell BK101.out 0).trans rfl, (blk_cell BK101.out 1).trans rfl, (blk_cell BK101.out 2).trans rfl, (blk_cell BK101.out 3).trans rfl⟩ (fun hHeld => ?_)
          generalize w14.drew = w15 at BK101 HB hHeld ⊢
          refine pk_ (i := 0) (N := some 6) (bs 4 1) rfl rfl ?_
          refine pk_ (i := 2) (N := some 3) (bs 4 5) rfl rfl ?_
          refine tkK4_ (i := 1) (N := some 7) (bs 4 7) rfl rfl hHeld ?_
          refine pk_ (i := 3) (N := some 4) (bs 4 15) rfl rfl ?_
          refine done_ (by kernel_rfl) ?_
          try go_wp2
          replace BK101 := Aside0.mk (blk_drew BK101.out)
          replace HB := Aside0.mk (below_drew1 HB.out)
          refine start_ (n := 25) (S := fun w' => w'.cell? ⟨gb101, 0, none⟩ = some (.string a0_0) ∧ w'.cell? ⟨gb101, 1, none⟩ = some (.string a0_1) ∧ w'.cell? ⟨gb101, 2, none⟩ = some (.int .i64 a0_2) ∧ w'.cell? ⟨gb101, 3, none⟩ = some (.int .i64 a0_3)) (ds := []) (bs 25 0) (by kernel_rfl) rfl rfl ⟨(blk_cell BK101.out 0).trans rfl, (blk_cell BK101.out 1).trans rfl, (blk_cell BK101.out 2).trans rfl, (blk_cell BK101.out 3).trans rfl⟩ (fun hHeld => ?_); refine with_tabW commit_Who.tab5 commit_Who.bits5 (fun HT_ HW_ => ?_)
          generalize w15.drew = w16 at BK101 HB hHeld ⊢
          refine pu_ (i := 0) (N := some 12) (bs 25 1) rfl rfl ?_
          refine pu_ (i := 3) (N := some 15) (bs 25 9) rfl rfl ?_
          refine pu_ (i := 7) (N := some 19) (bs 25 137) rfl rfl ?_
          refine pu_ (i := 12) (N := some 24) (bs 25 4233) rfl rfl ?_
          refine pu_ (i := 14) (N := some 26) (bs 25 20617) rfl rfl ?_
          refine pu_ (i := 15) (N := some 27) (bs 25 53385) rfl rfl ?_
          refine pu_ (i := 16) (N := some 28) (bs 25 118921) rfl rfl ?_
          refine pu_ (i := 19) (N := some 31) (bs 25 643209) rfl rfl ?_
          refine pu_ (i := 20) (N := some 32) (bs 25 1691785) rfl rfl ?_
          refine pu_ (i := 21) (N := some 33) (bs 25 3788937) rfl rfl ?_
          refine tkW4_ (i := 1) (N := some 13) (bs 25 3788939) rfl rfl hHeld ?_
          refine pu_ (i := 2) (N := some 14) (bs 25 3788943) rfl rfl ?_
          refine tkW4_ (i := 4) (N := some 16) (bs 25 3788959) rfl rfl hHeld ?_
          refine pu_ (i := 5) (N := some 17) (bs 25 3788991) rfl rfl ?_
          refine pu_ (i := 6) (N := some 18) (bs 25 3789055) rfl rfl ?_
          refine tkW4_ (i := 8) (N := some 20) (bs 25 3789311) rfl rfl hHeld ?_
          refine one_ (i := 9) (N := some 21) (bs 25 3789823) rfl rfl (one_of HT_.out (by kernel_rfl)) (by decide) (fun K hK => ?_)
          refine goes_ Tryz.func91 (by kernel_rfl) rfl #[.int .i64 a0_2] (by rfl) rfl rfl z2_ ?_
          with_reducible refine (strconv_Itoa.calls a0_2 t102 _ ?side1 A6.out).mono ?_
          (case side1 => exact GV.below hgv (hs_))
          rintro e w17 ⟨rfl, hb⟩
          refine ⟨_, rfl, ?_⟩
          replace BK101 := Aside0.mk (bb_ BK101.out hb)
          replace HB := Aside0.mk (below_step (hs_) hb)
          (try clear hb)
          (try clear hb2)
          (try clear hk)
          (try clear hi)
          refine hK.out _ _ ⟨(blk_cell BK101.out 0).trans rfl, (blk_cell BK101.out 1).trans rfl, (blk_cell BK101.out 2).trans rfl, (blk_cell BK101.out 3).trans rfl⟩ (fun hHeld => ?_)
          clear hK K
          refine norm_ (a' := ?_) ?_ ?_
          rotate_left
          ·show Act.put _ (some 21) _ = _
           simp only [Act.put, List.setIfInBounds_toArray, List.set_cons_zero, List.set_cons_succ, i64_w, i32_w]
           rfl
          refine pu_ (i := 10) (N := some 22) (bs 25 3790847) rfl rfl ?_
          refine pu_ (i := 11) (N := some 23) (bs 25 3792895) rfl rfl ?_
          refine pu_ (i := 13) (N := some 25) (bs 25 3801087) rfl rfl ?_
          refine one_ (i := 17) (N := some 29) (bs 25 3932159) rfl rfl (one_of HT_.out (by kernel_rfl)) (by decide) (fun K hK => ?_)
          refine goesT_ Tryz.func90 (by kernel_rfl) rfl #[.int .i64 (wrap64 (Int.tdiv (wrap64 (-a0_3)) 60))] (by rfl) rfl rfl rfl z8_ ?_
          with_reducible refine (commit_Who_1.calls (wrap64 (Int.tdiv (wrap64 (-a0_3)) 60))  t103 _ ?side1 A10.out).mono ?_
          (case side1 => exact GV.below hgv (hs_))
          rintro e w18 ⟨rfl, hb⟩
          refine ⟨_, rfl, ?_⟩
          replace BK101 := Aside0.mk (bb_ BK101.out hb)
          replace HB := Aside0.mk (below_step (hs_) hb)
          (try clear hb)
          (try clear hb2)
          (try clear hk)
          (try clear hi)
          refine hK.out _ _ ⟨(blk_cell BK101.out 0).trans rfl, (blk_cell BK101.out 1).trans rfl, (blk_cell BK101.out 2).trans rfl, (blk_cell BK101.out 3).trans rfl⟩ (fun hHeld => ?_)
          clear hK K
          refine norm_ (a' := ?_) ?_ ?_
          rotate_left
          ·show Act.put _ (some 29) _ = _
           simp only [Act.put, List.setIfInBounds_toArray, List.set_cons_zero, List.set_cons_succ, i64_w, i32_w]
           rfl
          refine pu_ (i := 18) (N := some 30) (bs 25 4194303) rfl rfl ?_
          refine one_ (i := 22) (N := some 34) (bs 25 8388607) rfl rfl (one_of HT_.out (by kernel_rfl)) (by decide) (fun K hK => ?_)
          refine goesT_ Tryz.func90 (by kernel_rfl) rfl #[.int .i64 (Int.tmod (wrap64 (-a0_3)) 60)] (by rfl) rfl rfl rfl z8_ ?_
          with_reducible refine (commit_Who_1.calls (Int.tmod (wrap64 (-a0_3)) 60)  t104 _ ?side1 A12.out).mono ?_
          (case side1 => exact GV.below hgv (hs_))
          rintro e w19 ⟨rfl, hb⟩
          refine ⟨_, rfl, ?_⟩
          replace BK101 := Aside0.mk (bb_ BK101.out hb)
          replace HB := Aside0.mk (below_step (hs_) hb)
          (try clear hb)
          (try clear hb2)
          (try clear hk)
          (try clear hi)
          refine hK.out _ _ ⟨(blk_cell BK101.out 0).trans rfl, (blk_cell BK101.out 1).trans rfl, (blk_cell BK101.out 2).trans rfl, (blk_cell BK101.out 3).trans rfl⟩ (fun hHeld => ?_)
          clear hK K
          refine norm_ (a' := ?_) ?_ ?_
          rotate_left
          ·show Act.put _ (some 34) _ = _
           simp only [Act.put, List.setIfInBounds_toArray, List.set_cons_zero, List.set_cons_succ, i64_w, i32_w]
           rfl
          refine pu_ (i := 23) (N := some 35) (bs 25 16777215) rfl rfl ?_
          refine pu_ (i := 24) (N := some 2) (bs 25 33554431) rfl rfl ?_
          refine done_ (done_of HT_.out (by kernel_rfl)) ?_
          try go_wp2
          go_ret
          exact ⟨z4_, hs_⟩
         ·rw [if_neg c13] at H
          exact absurd H (by simp)
        ·rw [if_neg c11] at H
         exact absurd H (by simp)
       ·rw [if_neg c9] at H
        exact absurd H (by simp)
      ·rw [if_neg c8] at H
       exact absurd H (by simp)
     ·rw [if_neg c7] at H
      exact absurd H (by simp)
    ·rw [if_neg c5] at H
     exact absurd H (by simp)
   ·rw [if_neg c4] at H
    exact absurd H (by simp)
  ·rw [if_neg c3] at H
   exact absurd H (by simp)
 ·rw [if_neg c2] at H
  have c2b0 := decide_eq_false c2
  clear c2
  by_cases c20 : a0_0.size + 2 ≤ 9223372036854775807
  ·rw [if_pos c20] at H
   have c20b0 := eq_true c20
   have c20b1 := decide_eq_true c20
   try have c20b2 := nl_ c20
   by_cases c21 : (a0_0 ++ (⟨#[32, 60]⟩ : ByteArray)).size + a0_1.size ≤ 9223372036854775807
   ·rw [if_pos c21] at H
    have c21b0 := eq_true c21
    have c21b1 := decide_eq_true c21
    try have c21b3 : (9223372036854775807 < a0_0.size + 2 + a0_1.size) = False := have h_ := c21; ns_
    try have c21b2 := nl_ c21
    by_cases c22 : ((a0_0 ++ (⟨#[32, 60]⟩ : ByteArray)) ++ a0_1).size + 2 ≤ 9223372036854775807
    ·rw [if_pos c22] at H
     have c22b0 := eq_true c22
     have c22b1 := decide_eq_true c22
     try have c22b3 : (9223372036854775807 < a0_0.size + 2 + a0_1.size + 2) = False := have h_ := c22; ns_
     try have c22b2 := nl_ c22
     replace H := Option.bind_eq_some_iff.mp H
     obtain ⟨t105, A230, H⟩ := H
     have A23 := Aside0.mk A230
     clear A230
     by_cases c24 : (((a0_0 ++ (⟨#[32, 60]⟩ : ByteArray)) ++ a0_1) ++ (⟨#[62, 32]⟩ : ByteArray)).size + t105.size ≤ 9223372036854775807
     ·rw [if_pos c24] at H
      have c24b0 := eq_true c24
      have c24b1 := decide_eq_true c24
      try have c24b3 : (9223372036854775807 < a0_0.size + 2 + a0_1.size + 2 + t105.size) = False := have h_ := c24; ns_
      try have c24b2 := nl_ c24
      by_cases c25 : ((((a0_0 ++ (⟨#[32, 60]⟩ : ByteArray)) ++ a0_1) ++ (⟨#[62, 32]⟩ : ByteArray)) ++ t105).size + 1 ≤ 9223372036854775807
      ·rw [if_pos c25] at H
       have c25b0 := eq_true c25
       have c25b1 := decide_eq_true c25
       try have c25b3 : (9223372036854775807 < a0_0.size + 2 + a0_1.size + 2 + t105.size + 1) = False := have h_ := c25; ns_
       try have c25b2 := nl_ c25
       by_cases c26 : (((((a0_0 ++ (⟨#[32, 60]⟩ : ByteArray)) ++ a0_1) ++ (⟨#[62, 32]⟩ : ByteArray)) ++ t105) ++ (⟨#[32]⟩ : ByteArray)).size + 1 ≤ 9223372036854775807
       ·rw [if_pos c26] at H
        have c26b0 := eq_true c26
        have c26b1 := decide_eq_true c26
        try have c26b3 : (9223372036854775807 < a0_0.size + 2 + a0_1.size + 2 + t105.size + 1 + 1) = False := have h_ := c26; ns_
        try have c26b2 := nl_ c26
        replace H := Option.bind_eq_some_iff.mp H
        obtain ⟨t106, A270, H⟩ := H
        have A27 := Aside0.mk A270
        clear A270
        by_cases c28 : ((((((a0_0 ++ (⟨#[32, 60]⟩ : ByteArray)) ++ a0_1) ++ (⟨#[62, 32]⟩ : ByteArray)) ++ t105) ++ (⟨#[32]⟩ : ByteArray)) ++ (⟨#[43]⟩ : ByteArray)).size + t106.size ≤ 9223372036854775807
        ·rw [if_pos c28] at H
         have c28b0 := eq_true c28
         have c28b1 := decide_eq_true c28
         try have c28b3 : (9223372036854775807 < a0_0.size + 2 + a0_1.size + 2 + t105.size + 1 + 1 + t106.size) = False := have h_ := c28; ns_
         try have c28b2 := nl_ c28
         replace H := Option.bind_eq_some_iff.mp H
         obtain ⟨t107, A290, H⟩ := H
         have A29 := Aside0.mk A290
         clear A290
         by_cases c30 : (((((((a0_0 ++ (⟨#[32, 60]⟩ : ByteArray)) ++ a0_1) ++ (⟨#[62, 32]⟩ : ByteArray)) ++ t105) ++ (⟨#[32]⟩ : ByteArray)) ++ (⟨#[43]⟩ : ByteArray)) ++ t106).size + t107.size ≤ 9223372036854775807
         ·rw [if_pos c30] at H
          have c30b0 := eq_true c30
          have c30b1 := decide_eq_true c30
          try have c30b3 : (9223372036854775807 < a0_0.size + 2 + a0_1.size + 2 + t105.size + 1 + 1 + t106.size + t107.size) = False := have h_ := c30; ns_
          try have c30b2 := nl_ c30
          obtain rfl := Option.some.inj H
          go_enter Tryz.func31, Tryz.ntmps31
          try go_wp2_with (first | ((with_reducible refine gate_dst (N := 1) rfl ?_); refine be_ (cs := #[.string a0_0, .string a0_1, .int .i64 a0_2, .int .i64 a0_3]) (t := 24) ?_; intro gb101 hg w31 hbox hb; have BK101 := Aside0.mk (hbox); have GW101 := Aside0.mk (gw_ hg HB.out); have GE101 := Aside0.mk (gw_ hg HB.out); replace HB := Aside0.mk (below_step (hb_ HB.out) hb); clear hb hbox hg))
          replace BK101 := Aside0.mk (blk_drew BK101.out)
          replace HB := Aside0.mk (below_drew1 HB.out)
          refine start_ (n := 4) (S := fun w' => w'.cell? ⟨gb101, 0, none⟩ = some (.string a0_0) ∧ w'.cell? ⟨gb101, 1, none⟩ = some (.string a0_1) ∧ w'.cell? ⟨gb101, 2, none⟩ = some (.int .i64 a0_2) ∧ w'.cell? ⟨gb101, 3, none⟩ = some (.int .i64 a0_3)) (ds := []) (bs 4 0) (by kernel_rfl) rfl rfl ⟨(blk_cell BK101.out 0).trans rfl, (blk_cell BK101.out 1).trans rfl, (blk_cell BK101.out 2).trans rfl, (blk_cell BK101.out 3).trans rfl⟩ (fun hHeld => ?_)
          generalize w31.drew = w32 at BK101 HB hHeld ⊢
          refine pk_ (i := 0) (N := some 6) (bs 4 1) rfl rfl ?_
          refine pk_ (i := 2) (N := some 3) (bs 4 5) rfl rfl ?_
          refine tkK4_ (i := 1) (N := some 7) (bs 4 7) rfl rfl hHeld ?_
          refine pk_ (i := 3) (N := some 4) (bs 4 15) rfl rfl ?_
          refine done_ (by kernel_rfl) ?_
          try go_wp2
          replace BK101 := Aside0.mk (blk_drew BK101.out)
          replace HB := Aside0.mk (below_drew1 HB.out)
          refine start_ (n := 25) (S := fun w' => w'.cell? ⟨gb101, 0, none⟩ = some (.string a0_0) ∧ w'.cell? ⟨gb101, 1, none⟩ = some (.string a0_1) ∧ w'.cell? ⟨gb101, 2, none⟩ = some (.int .i64 a0_2) ∧ w'.cell? ⟨gb101, 3, none⟩ = some (.int .i64 a0_3)) (ds := []) (bs 25 0) (by kernel_rfl) rfl rfl ⟨(blk_cell BK101.out 0).trans rfl, (blk_cell BK101.out 1).trans rfl, (blk_cell BK101.out 2).trans rfl, (blk_cell BK101.out 3).trans rfl⟩ (fun hHeld => ?_); refine with_tabW commit_Who.tab5 commit_Who.bits5 (fun HT_ HW_ => ?_)
          generalize w32.drew = w33 at BK101 HB hHeld ⊢
          refine pu_ (i := 0) (N := some 12) (bs 25 1) rfl rfl ?_
          refine pu_ (i := 3) (N := some 15) (bs 25 9) rfl rfl ?_
          refine pu_ (i := 7) (N := some 19) (bs 25 137) rfl rfl ?_
          refine pu_ (i := 12) (N := some 24) (bs 25 4233) rfl rfl ?_
          refine pu_ (i := 14) (N := some 26) (bs 25 20617) rfl rfl ?_
          refine pu_ (i := 15) (N := some 27) (bs 25 53385) rfl rfl ?_
          refine pu_ (i := 16) (N := some 28) (bs 25 118921) rfl rfl ?_
          refine pu_ (i := 19) (N := some 31) (bs 25 643209) rfl rfl ?_
          refine pu_ (i := 20) (N := some 32) (bs 25 1691785) rfl rfl ?_
          refine pu_ (i := 21) (N := some 33) (bs 25 3788937) rfl rfl ?_
          refine tkW4_ (i := 1) (N := some 13) (bs 25 3788939) rfl rfl hHeld ?_
          refine pu_ (i := 2) (N := some 14) (bs 25 3788943) rfl rfl ?_
          refine tkW4_ (i := 4) (N := some 16) (bs 25 3788959) rfl rfl hHeld ?_
          refine pu_ (i := 5) (N := some 17) (bs 25 3788991) rfl rfl ?_
          refine pu_ (i := 6) (N := some 18) (bs 25 3789055) rfl rfl ?_
          refine tkW4_ (i := 8) (N := some 20) (bs 25 3789311) rfl rfl hHeld ?_
          refine one_ (i := 9) (N := some 21) (bs 25 3789823) rfl rfl (one_of HT_.out (by kernel_rfl)) (by decide) (fun K hK => ?_)
          refine goes_ Tryz.func91 (by kernel_rfl) rfl #[.int .i64 a0_2] (by rfl) rfl rfl z2_ ?_
          with_reducible refine (strconv_Itoa.calls a0_2 t105 _ ?side1 A23.out).mono ?_
          (case side1 => exact GV.below hgv (hs_))
          rintro e w34 ⟨rfl, hb⟩
          refine ⟨_, rfl, ?_⟩
          replace BK101 := Aside0.mk (bb_ BK101.out hb)
          replace HB := Aside0.mk (below_step (hs_) hb)
          (try clear hb)
          (try clear hb2)
          (try clear hk)
          (try clear hi)
          refine hK.out _ _ ⟨(blk_cell BK101.out 0).trans rfl, (blk_cell BK101.out 1).trans rfl, (blk_cell BK101.out 2).trans rfl, (blk_cell BK101.out 3).trans rfl⟩ (fun hHeld => ?_)
          clear hK K
          refine norm_ (a' := ?_) ?_ ?_
          rotate_left
          ·show Act.put _ (some 21) _ = _
           simp only [Act.put, List.setIfInBounds_toArray, List.set_cons_zero, List.set_cons_succ, i64_w, i32_w]
           rfl
          refine pu_ (i := 10) (N := some 22) (bs 25 3790847) rfl rfl ?_
          refine pu_ (i := 11) (N := some 23) (bs 25 3792895) rfl rfl ?_
          refine pu_ (i := 13) (N := some 25) (bs 25 3801087) rfl rfl ?_
          refine one_ (i := 17) (N := some 29) (bs 25 3932159) rfl rfl (one_of HT_.out (by kernel_rfl)) (by decide) (fun K hK => ?_)
          refine goesT_ Tryz.func90 (by kernel_rfl) rfl #[.int .i64 (wrap64 (Int.tdiv a0_3 60))] (by rfl) rfl rfl rfl z8_ ?_
          with_reducible refine (commit_Who_1.calls (wrap64 (Int.tdiv a0_3 60))  t106 _ ?side1 A27.out).mono ?_
          (case side1 => exact GV.below hgv (hs_))
          rintro e w35 ⟨rfl, hb⟩
          refine ⟨_, rfl, ?_⟩
          replace BK101 := Aside0.mk (bb_ BK101.out hb)
          replace HB := Aside0.mk (below_step (hs_) hb)
          (try clear hb)
          (try clear hb2)
          (try clear hk)
          (try clear hi)
          refine hK.out _ _ ⟨(blk_cell BK101.out 0).trans rfl, (blk_cell BK101.out 1).trans rfl, (blk_cell BK101.out 2).trans rfl, (blk_cell BK101.out 3).trans rfl⟩ (fun hHeld => ?_)
          clear hK K
          refine norm_ (a' := ?_) ?_ ?_
          rotate_left
          ·show Act.put _ (some 29) _ = _
           simp only [Act.put, List.setIfInBounds_toArray, List.set_cons_zero, List.set_cons_succ, i64_w, i32_w]
           rfl
          refine pu_ (i := 18) (N := some 30) (bs 25 4194303) rfl rfl ?_
          refine one_ (i := 22) (N := some 34) (bs 25 8388607) rfl rfl (one_of HT_.out (by kernel_rfl)) (by decide) (fun K hK => ?_)
          refine goesT_ Tryz.func90 (by kernel_rfl) rfl #[.int .i64 (Int.tmod a0_3 60)] (by rfl) rfl rfl rfl z8_ ?_
          with_reducible refine (commit_Who_1.calls (Int.tmod a0_3 60)  t107 _ ?side1 A29.out).mono ?_
          (case side1 => exact GV.below hgv (hs_))
          rintro e w36 ⟨rfl, hb⟩
          refine ⟨_, rfl, ?_⟩
          replace BK101 := Aside0.mk (bb_ BK101.out hb)
          replace HB := Aside0.mk (below_step (hs_) hb)
          (try clear hb)
          (try clear hb2)
          (try clear hk)
          (try clear hi)
          refine hK.out _ _ ⟨(blk_cell BK101.out 0).trans rfl, (blk_cell BK101.out 1).trans rfl, (blk_cell BK101.out 2).trans rfl, (blk_cell BK101.out 3).trans rfl⟩ (fun hHeld => ?_)
          clear hK K
          refine norm_ (a' := ?_) ?_ ?_
          rotate_left
          ·show Act.put _ (some 34) _ = _
           simp only [Act.put, List.setIfInBounds_toArray, List.set_cons_zero, List.set_cons_succ, i64_w, i32_w]
           rfl
          refine pu_ (i := 23) (N := some 35) (bs 25 16777215) rfl rfl ?_
          refine pu_ (i := 24) (N := some 2) (bs 25 33554431) rfl rfl ?_
          refine done_ (done_of HT_.out (by kernel_rfl)) ?_
          try go_wp2
          go_ret
          exact ⟨z4_, hs_⟩
         ·rw [if_neg c30] at H
          exact absurd H (by simp)
        ·rw [if_neg c28] at H
         exact absurd H (by simp)
       ·rw [if_neg c26] at H
        exact absurd H (by simp)
      ·rw [if_neg c25] at H
       exact absurd H (by simp)
     ·rw [if_neg c24] at H
      exact absurd H (by simp)
    ·rw [if_neg c22] at H
     exact absurd H (by simp)
   ·rw [if_neg c21] at H
    exact absurd H (by simp)
  ·rw [if_neg c20] at H
   exact absurd H (by simp)


def commit_TagBody.f (k : Nat) (a0_0 : ByteArray) (a0_1 : Int) (a0_2 : ByteArray) (a0_3 : ByteArray) (a0_4 : ByteArray) (a0_5 : Int) (a0_6 : Int) (a0_7 : ByteArray) : Option (ByteArray × Int) := (commit_CheckTag.f k a0_0 a0_1 a0_2 a0_3 a0_4 a0_5 a0_6 a0_7).bind fun t120 => (if t120 = 0 then (if 7 + a0_0.size ≤ 9223372036854775807 then (if ((⟨#[111, 98, 106, 101, 99, 116, 32]⟩ : ByteArray) ++ a0_0).size + 6 ≤ 9223372036854775807 then ((object_Word.f a0_1).bind fun t121 => (if (((⟨#[111, 98, 106, 101, 99, 116, 32]⟩ : ByteArray) ++ a0_0) ++ (⟨#[10, 116, 121, 112, 101, 32]⟩ : ByteArray)).size + t121.size ≤ 9223372036854775807 then (if ((((⟨#[111, 98, 106, 101, 99, 116, 32]⟩ : ByteArray) ++ a0_0) ++ (⟨#[10, 116, 121, 112, 101, 32]⟩ : ByteArray)) ++ t121).size + 5 ≤ 9223372036854775807 then (if (((((⟨#[111, 98, 106, 101, 99, 116, 32]⟩ : ByteArray) ++ a0_0) ++ (⟨#[10, 116, 121, 112, 101, 32]⟩ : ByteArray)) ++ t121) ++ (⟨#[10, 116, 97, 103, 32]⟩ : ByteArray)).size + a0_2.size ≤ 9223372036854775807 then (if ((((((⟨#[111, 98, 106, 101, 99, 116, 32]⟩ : ByteArray) ++ a0_0) ++ (⟨#[10, 116, 121, 112, 101, 32]⟩ : ByteArray)) ++ t121) ++ (⟨#[10, 116, 97, 103, 32]⟩ : ByteArray)) ++ a0_2).size + 8 ≤ 9223372036854775807 then ((commit_Who.f a0_3 a0_4 a0_5 a0_6).bind fun t122 => (if (((((((⟨#[111, 98, 106, 101, 99, 116, 32]⟩ : ByteArray) ++ a0_0) ++ (⟨#[10, 116, 121, 112, 101, 32]⟩ : ByteArray)) ++ t121) ++ (⟨#[10, 116, 97, 103, 32]⟩ : ByteArray)) ++ a0_2) ++ (⟨#[10, 116, 97, 103, 103, 101, 114, 32]⟩ : ByteArray)).size + t122.size ≤ 9223372036854775807 then (if ((((((((⟨#[111, 98, 106, 101, 99, 116, 32]⟩ : ByteArray) ++ a0_0) ++ (⟨#[10, 116, 121, 112, 101, 32]⟩ : ByteArray)) ++ t121) ++ (⟨#[10, 116, 97, 103, 32]⟩ : ByteArray)) ++ a0_2) ++ (⟨#[10, 116, 97, 103, 103, 101, 114, 32]⟩ : ByteArray)) ++ t122).size + 2 ≤ 9223372036854775807 then (if (((((((((⟨#[111, 98, 106, 101, 99, 116, 32]⟩ : ByteArray) ++ a0_0) ++ (⟨#[10, 116, 121, 112, 101, 32]⟩ : ByteArray)) ++ t121) ++ (⟨#[10, 116, 97, 103, 32]⟩ : ByteArray)) ++ a0_2) ++ (⟨#[10, 116, 97, 103, 103, 101, 114, 32]⟩ : ByteArray)) ++ t122) ++ (⟨#[10, 10]⟩ : ByteArray)).size + a0_7.size ≤ 9223372036854775807 then (some ((((((((((⟨#[111, 98, 106, 101, 99, 116, 32]⟩ : ByteArray) ++ a0_0) ++ (⟨#[10, 116, 121, 112, 101, 32]⟩ : ByteArray)) ++ t121) ++ (⟨#[10, 116, 97, 103, 32]⟩ : ByteArray)) ++ a0_2) ++ (⟨#[10, 116, 97, 103, 103, 101, 114, 32]⟩ : ByteArray)) ++ t122) ++ (⟨#[10, 10]⟩ : ByteArray)) ++ a0_7, 0)) else (none)) else (none)) else (none))) else (none)) else (none)) else (none)) else (none))) else (none)) else (none)) else (some ((⟨#[]⟩ : ByteArray), t120)))
theorem commit_TagBody.mono : ∀ a0 a1 a2 a3 a4 a5 a6 a7 k, LeO (commit_TagBody.f k a0 a1 a2 a3 a4 a5 a6 a7) (commit_TagBody.f (k + 1) a0 a1 a2 a3 a4 a5 a6 a7) := by
 intro a0 a1 a2 a3 a4 a5 a6 a7 k
 unfold commit_TagBody.f
 have m0_ := @commit_CheckTag.mono
 exact mz_
def commit_TagBody.T4 : Bool × List (List Nat × List Nat) := (true, [([], []), ([0], [0]), ([1], [1]), ([2], [2]), ([], []), ([4], [4]), ([5], [5]), ([3, 6], [3, 6]), ([7], [7]), ([], []), ([9], [9]), ([8, 10], [8, 10]), ([11], [11]), ([], []), ([13], [13]), ([14, 6], [14]), ([12, 15], [12, 15]), ([16], [16]), ([], []), ([18], [18]), ([17, 19], [17, 19]), ([20, 15, 0, 1, 2, 3, 4, 5, 6, 7, 8, 9, 10, 11, 12, 13, 14, 15, 16, 17, 18, 19, 20], [20]), ([21, 0, 1, 2, 3, 4, 5, 6, 7, 8, 9, 10, 11, 12, 13, 14, 15, 16, 17, 18, 19, 20, 21], [])])
def commit_TagBody.B4 : List Nat := [0, 1, 3, 7, 0, 16, 48, 127, 255, 0, 512, 2047, 4095, 0, 8192, 24688, 65535, 131071, 0, 262144, 1048575, 2097151, 4194303]
theorem commit_TagBody.tab4 : rtab .any (opsOf Tryz.f25 4) = commit_TagBody.T4 := by kernel_rfl
theorem commit_TagBody.bits4 : waitsOk commit_TagBody.T4.2 commit_TagBody.B4 = true := by kernel_rfl
set_option maxHeartbeats 8000000 in
set_option maxRecDepth 100000 in
theorem commit_TagBody.calls (k : Nat) (a0_0 : ByteArray) (a0_1 : Int) (a0_2 : ByteArray) (a0_3 : ByteArray) (a0_4 : ByteArray) (a0_5 : Int) (a0_6 : Int) (a0_7 : ByteArray) (r1 : ByteArray) (r2 : Int) (w : World) (hgv : GV w) (h : commit_TagBody.f k a0_0 a0_1 a0_2 a0_3 a0_4 a0_5 a0_6 a0_7 = some (r1, r2)) :
  Calls Tryz.prog 25 #[.agg #[.string a0_0, .int .i64 a0_1, .string a0_2, .string a0_3, .string a0_4, .int .i64 a0_5, .int .i64 a0_6, .string a0_7]] w fun e w' => e = .returned (.tuple #[.string r1, .int .i64 r2]) ∧ Below w.heap.size w w' := by
 have hu37 := Tryz.underlying37
 have hu24 := Tryz.underlying24
 have HB := Aside0.mk (Below.refl w.heap.size w)
 have H : ((commit_CheckTag.f k a0_0 a0_1 a0_2 a0_3 a0_4 a0_5 a0_6 a0_7).bind fun t120 => (if t120 = 0 then (if 7 + a0_0.size ≤ 9223372036854775807 then (if ((⟨#[111, 98, 106, 101, 99, 116, 32]⟩ : ByteArray) ++ a0_0).size + 6 ≤ 9223372036854775807 then ((object_Word.f a0_1).bind fun t121 => (if (((⟨#[111, 98, 106, 101, 99, 116, 32]⟩ : ByteArray) ++ a0_0) ++ (⟨#[10, 116, 121, 112, 101, 32]⟩ : ByteArray)).size + t121.size ≤ 9223372036854775807 then (if ((((⟨#[111, 98, 106, 101, 99, 116, 32]⟩ : ByteArray) ++ a0_0) ++ (⟨#[10, 116, 121, 112, 101, 32]⟩ : ByteArray)) ++ t121).size + 5 ≤ 9223372036854775807 then (if (((((⟨#[111, 98, 106, 101, 99, 116, 32]⟩ : ByteArray) ++ a0_0) ++ (⟨#[10, 116, 121, 112, 101, 32]⟩ : ByteArray)) ++ t121) ++ (⟨#[10, 116, 97, 103, 32]⟩ : ByteArray)).size + a0_2.size ≤ 9223372036854775807 then (if ((((((⟨#[111, 98, 106, 101, 99, 116, 32]⟩ : ByteArray) ++ a0_0) ++ (⟨#[10, 116, 121, 112, 101, 32]⟩ : ByteArray)) ++ t121) ++ (⟨#[10, 116, 97, 103, 32]⟩ : ByteArray)) ++ a0_2).size + 8 ≤ 9223372036854775807 then ((commit_Who.f a0_3 a0_4 a0_5 a0_6).bind fun t122 => (if (((((((⟨#[111, 98, 106, 101, 99, 116, 32]⟩ : ByteArray) ++ a0_0) ++ (⟨#[10, 116, 121, 112, 101, 32]⟩ : ByteArray)) ++ t121) ++ (⟨#[10, 116, 97, 103, 32]⟩ : ByteArray)) ++ a0_2) ++ (⟨#[10, 116, 97, 103, 103, 101, 114, 32]⟩ : ByteArray)).size + t122.size ≤ 9223372036854775807 then (if ((((((((⟨#[111, 98, 106, 101, 99, 116, 32]⟩ : ByteArray) ++ a0_0) ++ (⟨#[10, 116, 121, 112, 101, 32]⟩ : ByteArray)) ++ t121) ++ (⟨#[10, 116, 97, 103, 32]⟩ : ByteArray)) ++ a0_2) ++ (⟨#[10, 116, 97, 103, 103, 101, 114, 32]⟩ : ByteArray)) ++ t122).size + 2 ≤ 9223372036854775807 then (if (((((((((⟨#[111, 98, 106, 101, 99, 116, 32]⟩ : ByteArray) ++ a0_0) ++ (⟨#[10, 116, 121, 112, 101, 32]⟩ : ByteArray)) ++ t121) ++ (⟨#[10, 116, 97, 103, 32]⟩ : ByteArray)) ++ a0_2) ++ (⟨#[10, 116, 97, 103, 103, 101, 114, 32]⟩ : ByteArray)) ++ t122) ++ (⟨#[10, 10]⟩ : ByteArray)).size + a0_7.size ≤ 9223372036854775807 then (some ((((((((((⟨#[111, 98, 106, 101, 99, 116, 32]⟩ : ByteArray) ++ a0_0) ++ (⟨#[10, 116, 121, 112, 101, 32]⟩ : ByteArray)) ++ t121) ++ (⟨#[10, 116, 97, 103, 32]⟩ : ByteArray)) ++ a0_2) ++ (⟨#[10, 116, 97, 103, 103, 101, 114, 32]⟩ : ByteArray)) ++ t122) ++ (⟨#[10, 10]⟩ : ByteArray)) ++ a0_7, 0)) else (none)) else (none)) else (none))) else (none)) else (none)) else (none)) else (none))) else (none)) else (none)) else (some ((⟨#[]⟩ : ByteArray), t120)))) = some (r1, r2) := h
 clear h
 replace H := Option.bind_eq_some_iff.mp H
 obtain ⟨t120, A20, H⟩ := H
 have A2 := Aside0.mk A20
 clear A20
 by_cases c3 : t120 = 0
 ·rw [if_pos c3] at H
  have c3b0 := beq_iff_eq.mpr c3
  have c3b1 := bne_eq_false_iff_eq.mpr c3
  clear c3
  by_cases c4 : 7 + a0_0.size ≤ 9223372036854775807
  ·rw [if_pos c4] at H
   have c4b0 := eq_true c4
   have c4b1 := decide_eq_true c4
   try have c4b2 := nl_ c4
   by_cases c5 : ((⟨#[111, 98, 106, 101, 99, 116, 32]⟩ : ByteArray) ++ a0_0).size + 6 ≤ 9223372036854775807
   ·rw [if_pos c5] at H
    have c5b0 := eq_true c5
    have c5b1 := decide_eq_true c5
    try have c5b3 : (9223372036854775807 < 7 + a0_0.size + 6) = False := have h_ := c5; ns_
    try have c5b2 := nl_ c5
    replace H := Option.bind_eq_some_iff.mp H
    obtain ⟨t121, A60, H⟩ := H
    have A6 := Aside0.mk A60
    clear A60
    by_cases c7 : (((⟨#[111, 98, 106, 101, 99, 116, 32]⟩ : ByteArray) ++ a0_0) ++ (⟨#[10, 116, 121, 112, 101, 32]⟩ : ByteArray)).size + t121.size ≤ 9223372036854775807
    ·rw [if_pos c7] at H
     have c7b0 := eq_true c7
     have c7b1 := decide_eq_true c7
     try have c7b3 : (9223372036854775807 < 7 + a0_0.size + 6 + t121.size) = False := have h_ := c7; ns_
     try have c7b2 := nl_ c7
     by_cases c8 : ((((⟨#[111, 98, 106, 101, 99, 116, 32]⟩ : ByteArray) ++ a0_0) ++ (⟨#[10, 116, 121, 112, 101, 32]⟩ : ByteArray)) ++ t121).size + 5 ≤ 9223372036854775807
     ·rw [if_pos c8] at H
      have c8b0 := eq_true c8
      have c8b1 := decide_eq_true c8
      try have c8b3 : (9223372036854775807 < 7 + a0_0.size + 6 + t121.size + 5) = False := have h_ := c8; ns_
      try have c8b2 := nl_ c8
      by_cases c9 : (((((⟨#[111, 98, 106, 101, 99, 116, 32]⟩ : ByteArray) ++ a0_0) ++ (⟨#[10, 116, 121, 112, 101, 32]⟩ : ByteArray)) ++ t121) ++ (⟨#[10, 116, 97, 103, 32]⟩ : ByteArray)).size + a0_2.size ≤ 9223372036854775807
      ·rw [if_pos c9] at H
       have c9b0 := eq_true c9
       have c9b1 := decide_eq_true c9
       try have c9b3 : (9223372036854775807 < 7 + a0_0.size + 6 + t121.size + 5 + a0_2.size) = False := have h_ := c9; ns_
       try have c9b2 := nl_ c9
       by_cases c10 : ((((((⟨#[111, 98, 106, 101, 99, 116, 32]⟩ : ByteArray) ++ a0_0) ++ (⟨#[10, 116, 121, 112, 101, 32]⟩ : ByteArray)) ++ t121) ++ (⟨#[10, 116, 97, 103, 32]⟩ : ByteArray)) ++ a0_2).size + 8 ≤ 9223372036854775807
       ·rw [if_pos c10] at H
        have c10b0 := eq_true c10
        have c10b1 := decide_eq_true c10
        try have c10b3 : (9223372036854775807 < 7 + a0_0.size + 6 + t121.size + 5 + a0_2.size + 8) = False := have h_ := c10; ns_
        try have c10b2 := nl_ c10
        replace H := Option.bind_eq_some_iff.mp H
        obtain ⟨t122, A110, H⟩ := H
        have A11 := Aside0.mk A110
        clear A110
        by_cases c12 : (((((((⟨#[111, 98, 106, 101, 99, 116, 32]⟩ : ByteArray) ++ a0_0) ++ (⟨#[10, 116, 121, 112, 101, 32]⟩ : ByteArray)) ++ t121) ++ (⟨#[10, 116, 97, 103, 32]⟩ : ByteArray)) ++ a0_2) ++ (⟨#[10, 116, 97, 103, 103, 101, 114, 32]⟩ : ByteArray)).size + t122.size ≤ 9223372036854775807
        ·rw [if_pos c12] at H
         have c12b0 := eq_true c12
         have c12b1 := decide_eq_true c12
         try have c12b3 : (9223372036854775807 < 7 + a0_0.size + 6 + t121.size + 5 + a0_2.size + 8 + t122.size) = False := have h_ := c12; ns_
         try have c12b2 := nl_ c12
         by_cases c13 : ((((((((⟨#[111, 98, 106, 101, 99, 116, 32]⟩ : ByteArray) ++ a0_0) ++ (⟨#[10, 116, 121, 112, 101, 32]⟩ : ByteArray)) ++ t121) ++ (⟨#[10, 116, 97, 103, 32]⟩ : ByteArray)) ++ a0_2) ++ (⟨#[10, 116, 97, 103, 103, 101, 114, 32]⟩ : ByteArray)) ++ t122).size + 2 ≤ 9223372036854775807
         ·rw [if_pos c13] at H
          have c13b0 := eq_true c13
          have c13b1 := decide_eq_true c13
          try have c13b3 : (9223372036854775807 < 7 + a0_0.size + 6 + t121.size + 5 + a0_2.size + 8 + t122.size + 2) = False := have h_ := c13; ns_
          try have c13b2 := nl_ c13
          by_cases c14 : (((((((((⟨#[111, 98, 106, 101, 99, 116, 32]⟩ : ByteArray) ++ a0_0) ++ (⟨#[10, 116, 121, 112, 101, 32]⟩ : ByteArray)) ++ t121) ++ (⟨#[10, 116, 97, 103, 32]⟩ : ByteArray)) ++ a0_2) ++ (⟨#[10, 116, 97, 103, 103, 101, 114, 32]⟩ : ByteArray)) ++ t122) ++ (⟨#[10, 10]⟩ : ByteArray)).size + a0_7.size ≤ 9223372036854775807
          ·rw [if_pos c14] at H
           have c14b0 := eq_true c14
           have c14b1 := decide_eq_true c14
           try have c14b3 : (9223372036854775807 < 7 + a0_0.size + 6 + t121.size + 5 + a0_2.size + 8 + t122.size + 2 + a0_7.size) = False := have h_ := c14; ns_
           try have c14b2 := nl_ c14
           simp only [Option.some.injEq, Prod.mk.injEq] at H
           obtain ⟨rfl, rfl⟩ := H
           go_enter Tryz.func25, Tryz.ntmps25
           try go_wp2_with (first | ((with_reducible refine gate_dst (N := 1) rfl ?_); refine be_ (cs := #[.string a0_0, .int .i64 a0_1, .string a0_2, .string a0_3, .string a0_4, .int .i64 a0_5, .int .i64 a0_6, .string a0_7]) (t := 37) ?_; intro gb119 hg w15 hbox hb; have BK119 := Aside0.mk (hbox); have GW119 := Aside0.mk (gw_ hg HB.out); have GE119 := Aside0.mk (gw_ hg HB.out); replace HB := Aside0.mk (below_step (hb_ HB.out) hb); clear hb hbox hg; obtain ⟨hcz16_0, hcz16_1, hcz16_2, hcz16_3, hcz16_4, hcz16_5, hcz16_6, hcz16_7, hfz16_0, hfz16_1, hfz16_2, hfz16_3, hfz16_4, hfz16_5, hfz16_6, hfz16_7⟩ := bc8 BK119.out) | ((with_reducible refine gate_callee (f := 27) rfl ?_); refine goesL_ (some 6) rfl rfl Tryz.func27 (by kernel_rfl) rfl #[.agg #[.string a0_0, .int .i64 a0_1, .string a0_2, .string a0_3, .string a0_4, .int .i64 a0_5, .int .i64 a0_6, .string a0_7]] rfl z2_ ?_; (with_reducible refine (commit_CheckTag.calls k a0_0 a0_1 a0_2 a0_3 a0_4 a0_5 a0_6 a0_7 t120 _ ?side1 A2.out).mono ?_); (case side1 => exact GV.below hgv (hs_)); rintro e w17 ⟨rfl, hb⟩; refine ⟨_, rfl, ?_⟩; replace BK119 := Aside0.mk (bb_ BK119.out hb); replace HB := Aside0.mk (below_step (hs_) hb); (try clear hb); (try clear hb2); (try clear hk); (try clear hi)))
           replace BK119 := Aside0.mk (blk_drew BK119.out)
           replace HB := Aside0.mk (below_drew1 HB.out)
           refine start_ (n := 23) (S := fun w' => w'.cell? ⟨gb119, 0, none⟩ = some (.string a0_0) ∧ w'.cell? ⟨gb119, 1, none⟩ = some (.int .i64 a0_1) ∧ w'.cell? ⟨gb119, 2, none⟩ = some (.string a0_2) ∧ w'.cell? ⟨gb119, 3, none⟩ = some (.string a0_3) ∧ w'.cell? ⟨gb119, 4, none⟩ = some (.string a0_4) ∧ w'.cell? ⟨gb119, 5, none⟩ = some (.int .i64 a0_5) ∧ w'.cell? ⟨gb119, 6, none⟩ = some (.int .i64 a0_6) ∧ w'.cell? ⟨gb119, 7, none⟩ = some (.string a0_7)) (ds := []) (bs 23 0) (by kernel_rfl) rfl rfl ⟨(blk_cell BK119.out 0).trans rfl, (blk_cell BK119.out 1).trans rfl, (blk_cell BK119.out 2).trans rfl, (blk_cell BK119.out 3).trans rfl, (blk_cell BK119.out 4).trans rfl, (blk_cell BK119.out 5).trans rfl, (blk_cell BK119.out 6).trans rfl, (blk_cell BK119.out 7).trans rfl⟩ (fun hHeld => ?_); refine with_tabW commit_TagBody.tab4 commit_TagBody.bits4 (fun HT_ HW_ => ?_)
           generalize w17.drew = w18 at BK119 HB hHeld ⊢
           refine pu_ (i := 0) (N := some 10) (bs 23 1) rfl rfl ?_
           refine pu_ (i := 4) (N := some 14) (bs 23 17) rfl rfl ?_
           refine pu_ (i := 9) (N := some 19) (bs 23 529) rfl rfl ?_
           refine pu_ (i := 13) (N := some 23) (bs 23 8721) rfl rfl ?_
           refine pu_ (i := 18) (N := some 28) (bs 23 270865) rfl rfl ?_
           refine tkW8_ (i := 1) (N := some 11) (bs 23 270867) rfl rfl hHeld ?_
           refine pu_ (i := 2) (N := some 12) (bs 23 270871) rfl rfl ?_
           refine pu_ (i := 3) (N := some 13) (bs 23 270879) rfl rfl ?_
           refine tkW8_ (i := 5) (N := some 15) (bs 23 270911) rfl rfl hHeld ?_
           refine tkW8_ (i := 10) (N := some 20) (bs 23 271935) rfl rfl hHeld ?_
           refine tkW8_ (i := 14) (N := some 24) (bs 23 288319) rfl rfl hHeld ?_
           refine tkW8_ (i := 19) (N := some 29) (bs 23 812607) rfl rfl hHeld ?_
           refine one_ (i := 6) (N := some 16) (bs 23 812671) rfl rfl (one_of HT_.out (by kernel_rfl)) (by decide) (fun K hK => ?_)
           refine goes_ Tryz.func79 (by kernel_rfl) rfl #[.int .i64 a0_1] (by rfl) rfl rfl z2_ ?_
           with_reducible refine (object_Word.calls a0_1 t121 _ A6.out).mono ?_
           rintro e w19 ⟨rfl, hb⟩
           refine ⟨_, rfl, ?_⟩
           replace BK119 := Aside0.mk (bb_ BK119.out hb)
           replace HB := Aside0.mk (below_step (hs_) hb)
           (try clear hb)
           (try clear hb2)
           (try clear hk)
           (try clear hi)
           refine hK.out _ _ ⟨(blk_cell BK119.out 0).trans rfl, (blk_cell BK119.out 1).trans rfl, (blk_cell BK119.out 2).trans rfl, (blk_cell BK119.out 3).trans rfl, (blk_cell BK119.out 4).trans rfl, (blk_cell BK119.out 5).trans rfl, (blk_cell BK119.out 6).trans rfl, (blk_cell BK119.out 7).trans rfl⟩ (fun hHeld => ?_)
           clear hK K
           refine norm_ (a' := ?_) ?_ ?_
           rotate_left
           ·show Act.put _ (some 16) _ = _
            simp only [Act.put, List.setIfInBounds_toArray, List.set_cons_zero, List.set_cons_succ, i64_w, i32_w]
            rfl
           refine pu_ (i := 7) (N := some 17) (bs 23 812799) rfl rfl ?_
           refine pu_ (i := 8) (N := some 18) (bs 23 813055) rfl rfl ?_
           refine pu_ (i := 11) (N := some 21) (bs 23 815103) rfl rfl ?_
           refine pu_ (i := 12) (N := some 22) (bs 23 819199) rfl rfl ?_
           refine one_ (i := 15) (N := some 25) (bs 23 851967) rfl rfl (one_of HT_.out (by kernel_rfl)) (by decide) (fun K hK => ?_)
           refine goes_ Tryz.func31 (by kernel_rfl) rfl #[.agg #[.string a0_3, .string a0_4, .int .i64 a0_5, .int .i64 a0_6]] (by rfl) rfl rfl z2_ ?_
           with_reducible refine (commit_Who.calls a0_3 a0_4 a0_5 a0_6 t122 _ ?side1 A11.out).mono ?_
           (case side1 => exact GV.below hgv (hs_))
           rintro e w20 ⟨rfl, hb⟩
           refine ⟨_, rfl, ?_⟩
           replace BK119 := Aside0.mk (bb_ BK119.out hb)
           replace HB := Aside0.mk (below_step (hs_) hb)
           (try clear hb)
           (try clear hb2)
           (try clear hk)
           (try clear hi)
           refine hK.out _ _ ⟨(blk_cell BK119.out 0).trans rfl, (blk_cell BK119.out 1).trans rfl, (blk_cell BK119.out 2).trans rfl, (blk_cell BK119.out 3).trans rfl, (blk_cell BK119.out 4).trans rfl, (blk_cell BK119.out 5).trans rfl, (blk_cell BK119.out 6).trans rfl, (blk_cell BK119.out 7).trans rfl⟩ (fun hHeld => ?_)
           clear hK K
           refine norm_ (a' := ?_) ?_ ?_
           rotate_left
           ·show Act.put _ (some 25) _ = _
            simp only [Act.put, List.setIfInBounds_toArray, List.set_cons_zero, List.set_cons_succ, i64_w, i32_w]
            rfl
           refine pu_ (i := 16) (N := some 26) (bs 23 917503) rfl rfl ?_
           refine pu_ (i := 17) (N := some 27) (bs 23 1048575) rfl rfl ?_
           refine pu_ (i := 20) (N := some 30) (bs 23 2097151) rfl rfl ?_
           refine pu_ (i := 21) (N := some 2) (bs 23 4194303) rfl rfl ?_
           refine pu_ (i := 22) (N := some 3) (bs 23 8388607) rfl rfl ?_
           refine done_ (done_of HT_.out (by kernel_rfl)) ?_
           try go_wp2
           go_ret2
           exact ⟨z4_, hs_⟩
          ·rw [if_neg c14] at H
           exact absurd H (by simp)
         ·rw [if_neg c13] at H
          exact absurd H (by simp)
        ·rw [if_neg c12] at H
         exact absurd H (by simp)
       ·rw [if_neg c10] at H
        exact absurd H (by simp)
      ·rw [if_neg c9] at H
       exact absurd H (by simp)
     ·rw [if_neg c8] at H
      exact absurd H (by simp)
    ·rw [if_neg c7] at H
     exact absurd H (by simp)
   ·rw [if_neg c5] at H
    exact absurd H (by simp)
  ·rw [if_neg c4] at H
   exact absurd H (by simp)
 ·rw [if_neg c3] at H
  have c3b0 := beq_eq_false_iff_ne.mpr c3
  have c3b1 := bne_iff_ne.mpr c3
  simp only [Option.some.injEq, Prod.mk.injEq] at H
  obtain ⟨rfl, rfl⟩ := H
  go_enter Tryz.func25, Tryz.ntmps25
  go_wp2_with (first | ((with_reducible refine gate_dst (N := 1) rfl ?_); refine be_ (cs := #[.string a0_0, .int .i64 a0_1, .string a0_2, .string a0_3, .string a0_4, .int .i64 a0_5, .int .i64 a0_6, .string a0_7]) (t := 37) ?_; intro gb119 hg w21 hbox hb; have BK119 := Aside0.mk (hbox); have GW119 := Aside0.mk (gw_ hg HB.out); have GE119 := Aside0.mk (gw_ hg HB.out); replace HB := Aside0.mk (below_step (hb_ HB.out) hb); clear hb hbox hg; obtain ⟨hcz22_0, hcz22_1, hcz22_2, hcz22_3, hcz22_4, hcz22_5, hcz22_6, hcz22_7, hfz22_0, hfz22_1, hfz22_2, hfz22_3, hfz22_4, hfz22_5, hfz22_6, hfz22_7⟩ := bc8 BK119.out) | ((with_reducible refine gate_callee (f := 27) rfl ?_); refine goesL_ (some 6) rfl rfl Tryz.func27 (by kernel_rfl) rfl #[.agg #[.string a0_0, .int .i64 a0_1, .string a0_2, .string a0_3, .string a0_4, .int .i64 a0_5, .int .i64 a0_6, .string a0_7]] rfl z2_ ?_; (with_reducible refine (commit_CheckTag.calls k a0_0 a0_1 a0_2 a0_3 a0_4 a0_5 a0_6 a0_7 t120 _ ?side1 A2.out).mono ?_); (case side1 => exact GV.below hgv (hs_)); rintro e w23 ⟨rfl, hb⟩; refine ⟨_, rfl, ?_⟩; replace BK119 := Aside0.mk (bb_ BK119.out hb); replace HB := Aside0.mk (below_step (hs_) hb); (try clear hb); (try clear hb2); (try clear hk); (try clear hi)))
  go_ret2
  exact ⟨z4_, hs_⟩


/-- A state of type 87 at block g of W; what its slices lead to came in by w0. -/
def IsS87 (w0 W : World) (g : Nat) (f0 : ByteArray) (f1 : Int) : Prop := W.heap[g]? = some (.cells #[.string f0, .int .i64 f1] 87 (0, 0)) ∧ w0.heap.size ≤ g
theorem IsS87.grown {w0 W : World} {g : Nat} {f0 : ByteArray} {f1 : Int} {W1 : World} {row : Option Nat} (h : IsS87 w0 W g f0 f1) (hw : W.grownBy W1 row) (hne : some g ≠ row) : IsS87 w0 W1 g f0 f1 := by
 obtain ⟨hb, hg⟩ := h
 exact ⟨blk_grown hb hw hne, hg⟩
theorem IsS87.fresh {w0 W : World} {g : Nat} {f0 : ByteArray} {f1 : Int} (h : IsS87 w0 W g f0 f1) : ∀ k, W.heap.size ≤ k → k ≠ g := by
 obtain ⟨hb, hg⟩ := h
 exact Kd.freshB hb
theorem IsS87.kept {w0 W : World} {g : Nat} {f0 : ByteArray} {f1 : Int} {W1 : World} {S : Nat → Prop} (h : IsS87 w0 W g f0 f1) (hk : Kept W W1 S) (hne : ¬ S g) : IsS87 w0 W1 g f0 f1 := by
 obtain ⟨hb, hg⟩ := h
 exact ⟨blk_kept hb hk hne, hg⟩
theorem IsS87.below {w0 W : World} {g : Nat} {f0 : ByteArray} {f1 : Int} {W1 : World} (h : IsS87 w0 W g f0 f1) (hw : Below W.heap.size W W1) : IsS87 w0 W1 g f0 f1 := h.grown (grown_of_below hw none) (by simp)
theorem IsS87.alloc {w0 W : World} {g : Nat} {f0 : ByteArray} {f1 : Int} (h : IsS87 w0 W g f0 f1) (o : Obj) : IsS87 w0 (W.alloc o) g f0 f1 := h.below (below_alloc (Below.refl _ _) o)
theorem IsS87.drewN {w0 W : World} {g : Nat} {f0 : ByteArray} {f1 : Int} (h : IsS87 w0 W g f0 f1) (m : Nat) : IsS87 w0 (W.drewN m) g f0 f1 := h
theorem IsS87.drew {w0 W : World} {g : Nat} {f0 : ByteArray} {f1 : Int} (h : IsS87 w0 W g f0 f1) : IsS87 w0 W.drew g f0 f1 := h
theorem IsS87.at_ {w0 W : World} {g : Nat} {f0 : ByteArray} {f1 : Int} {w' : World} {m : Nat} (hq : W.drewN m = w') (h : IsS87 w0 W g f0 f1) : IsS87 w0 w' g f0 f1 := by subst hq; exact IsS87.drewN h m
theorem IsS87.apart {w0 W : World} {g : Nat} {f0 : ByteArray} {f1 : Int} {α : Type} {d : Kd α} {e : Nat} {base : Nat} {ok : Nat → Prop} {v : Value} {xs : List α} (h : IsS87 w0 W g f0 f1) (ho : d.R e W base ok v xs) (ht : ∀ q, q ∈ e :: d.E → q ≠ 87) : d.R e W base (fun k => ok k ∧ k ≠ g) v xs := by
 obtain ⟨hb, hg⟩ := h
 exact Kd.R_types ho hb ht
theorem IsS87.own_ne {w0 W : World} {g : Nat} {f0 : ByteArray} {f1 : Int} {α : Type} {d : Kd α} {e : Nat} {base : Nat} {ok : Nat → Prop} {v : Value} {xs : List α} (h : IsS87 w0 W g f0 f1) (ho : d.R e W base ok v xs) (ht : e ≠ 87) : some g ≠ v.ownBlock := by
 obtain ⟨hb, hg⟩ := h
 exact Kd.R_ne ho hb ht
theorem IsS87.lt {w0 W : World} {g : Nat} {f0 : ByteArray} {f1 : Int} (h : IsS87 w0 W g f0 f1) : g < W.heap.size := by
 obtain ⟨hb, hg⟩ := h
 exact blk_lt hb
theorem IsS87.ge {w0 W : World} {g : Nat} {f0 : ByteArray} {f1 : Int} (h : IsS87 w0 W g f0 f1) : w0.heap.size ≤ g := by
 obtain ⟨hb, hg⟩ := h
 exact hg
theorem IsS87.far {w0 W : World} {g : Nat} {f0 : ByteArray} {f1 : Int} {p : Addr} (h : IsS87 w0 W g f0 f1) (hne : g ≠ p.block) (u : Value) : IsS87 w0 (W.setCell p u) g f0 f1 := by
 obtain ⟨hb, hg⟩ := h
 exact ⟨blk_far hb hne u, hg⟩
theorem cellS87_0 {W : World} {g : Nat} {f0 : ByteArray} {f1 : Int} (h : W.heap[g]? = some (.cells #[.string f0, .int .i64 f1] 87 (0, 0))) : W.cell? ⟨g, 0, none⟩ = some (.string f0) := (blk_cell h 0).trans rfl
theorem IsS87.set_0 {w0 W : World} {g : Nat} {f0 : ByteArray} {f1 : Int} (h : IsS87 w0 W g f0 f1) (x : ByteArray) : IsS87 w0 (W.setCell ⟨g, 0, none⟩ (.string x)) g x f1 := by
 obtain ⟨hb, hg⟩ := h
 exact ⟨by simpa using blk_set hb 0 (.string x), hg⟩
theorem cellS87_1 {W : World} {g : Nat} {f0 : ByteArray} {f1 : Int} (h : W.heap[g]? = some (.cells #[.string f0, .int .i64 f1] 87 (0, 0))) : W.cell? ⟨g, 1, none⟩ = some (.int .i64 f1) := (blk_cell h 1).trans rfl
theorem IsS87.set_1 {w0 W : World} {g : Nat} {f0 : ByteArray} {f1 : Int} (h : IsS87 w0 W g f0 f1) (x : Int) : IsS87 w0 (W.setCell ⟨g, 1, none⟩ (.int .i64 x)) g f0 x := by
 obtain ⟨hb, hg⟩ := h
 exact ⟨by simpa using blk_set hb 1 (.int .i64 x), hg⟩
theorem IsS87.new (w0 W : World) (f0 : ByteArray) (f1 : Int) (hB : Below w0.heap.size w0 W) : IsS87 w0 (W.alloc (.cells #[.string f0, .int .i64 f1] 87)) W.heap.size f0 f1 := ⟨by simpa using heap_alloc_new W _, hB.size⟩

def commit_reader_fail.f (s0_0 : ByteArray) (s0_1 : Int) (a1 : Int) : Option (ByteArray × Int) := if s0_1 = 0 then (some (s0_0, a1)) else (if a1 = 2 then (some (s0_0, a1)) else (some (s0_0, s0_1)))
set_option maxHeartbeats 8000000 in
set_option maxRecDepth 100000 in
theorem commit_reader_fail.calls (g : Nat) (s0_0 : ByteArray) (s0_1 : Int) (a1 : Int) (r1 : ByteArray) (r2 : Int) (w0 w : World) (hI : IsS87 w0 w g s0_0 s0_1) (hB : Below w0.heap.size w0 w) (h : commit_reader_fail.f s0_0 s0_1 a1 = some (r1, r2)) :
  Calls Tryz.prog 74 #[.pointer (some ⟨g, 0, none⟩), .int .i64 a1] w fun e w' => e = .returned (.tuple #[]) ∧ IsS87 w0 w' g r1 r2 ∧ Below w0.heap.size w0 w' ∧ KeepBut w w' g none := by
 have HI0 := Aside0.mk hI
 have HK := Aside0.mk (KeepBut.refl w g none)
 have HL := Aside0.mk hB.size
 clear hI
 have HW0 := Aside0.mk hB.size
 have HB := Aside0.mk hB
 clear hB
 have H : (if s0_1 = 0 then (some (s0_0, a1)) else (if a1 = 2 then (some (s0_0, a1)) else (some (s0_0, s0_1)))) = some (r1, r2) := h
 clear h
 by_cases c3 : s0_1 = 0
 ·rw [if_pos c3] at H
  have c3b0 := beq_iff_eq.mpr c3
  have c3b1 := bne_eq_false_iff_eq.mpr c3
  clear c3
  simp only [Option.some.injEq, Prod.mk.injEq] at H
  obtain ⟨rfl, rfl⟩ := H
  obtain ⟨HGz4, hgz4⟩ := HI0.out
  have hcz4_0 := cellS87_0 HGz4
  have hcz4_1 := cellS87_1 HGz4
  have hfz4_0 := blk_frozen HGz4 0
  have hfz4_1 := blk_frozen HGz4 1
  clear HGz4 hgz4
  go_enter Tryz.func74, Tryz.ntmps74
  go_wp2
  first | go_end0 | ((try simp only [Exit.inBlock, Exit.then]); refine bodyPost_ret (results_none rfl _ _ _) rfl ?_)
  exact ⟨z4_, z11_, z12_, z7_⟩
 ·rw [if_neg c3] at H
  have c3b0 := beq_eq_false_iff_ne.mpr c3
  have c3b1 := bne_iff_ne.mpr c3
  by_cases c5 : a1 = 2
  ·rw [if_pos c5] at H
   have c5b0 := beq_iff_eq.mpr c5
   have c5b1 := bne_eq_false_iff_eq.mpr c5
   clear c5
   simp only [Option.some.injEq, Prod.mk.injEq] at H
   obtain ⟨rfl, rfl⟩ := H
   obtain ⟨HGz6, hgz6⟩ := HI0.out
   have hcz6_0 := cellS87_0 HGz6
   have hcz6_1 := cellS87_1 HGz6
   have hfz6_0 := blk_frozen HGz6 0
   have hfz6_1 := blk_frozen HGz6 1
   clear HGz6 hgz6
   go_enter Tryz.func74, Tryz.ntmps74
   go_wp2
   first | go_end0 | ((try simp only [Exit.inBlock, Exit.then]); refine bodyPost_ret (results_none rfl _ _ _) rfl ?_)
   exact ⟨z4_, z11_, z12_, z7_⟩
  ·rw [if_neg c5] at H
   have c5b0 := beq_eq_false_iff_ne.mpr c5
   have c5b1 := bne_iff_ne.mpr c5
   simp only [Option.some.injEq, Prod.mk.injEq] at H
   obtain ⟨rfl, rfl⟩ := H
   obtain ⟨HGz7, hgz7⟩ := HI0.out
   have hcz7_0 := cellS87_0 HGz7
   have hcz7_1 := cellS87_1 HGz7
   have hfz7_0 := blk_frozen HGz7 0
   have hfz7_1 := blk_frozen HGz7 1
   clear HGz7 hgz7
   go_enter Tryz.func74, Tryz.ntmps74
   go_wp2
   first | go_end0 | ((try simp only [Exit.inBlock, Exit.then]); refine bodyPost_ret (results_none rfl _ _ _) rfl ?_)
   exact ⟨z4_, z11_, z12_, z7_⟩


def stringslite_HasPrefix.f (a0 : ByteArray) (a1 : ByteArray) : Option (Bool) := if (a0.size : Int) ≥ (a1.size : Int) then (if 0 ≤ (a1.size : Int) then (if (a1.size : Int) ≤ (a0.size : Int) then (some ((a0.extract 0 a1.size).toList == a1.toList)) else (none)) else (none)) else (some false)
set_option maxHeartbeats 8000000 in
set_option maxRecDepth 100000 in
theorem stringslite_HasPrefix.calls (a0 : ByteArray) (a1 : ByteArray) (r : Bool) (w : World) (h : stringslite_HasPrefix.f a0 a1 = some r) :
  Calls Tryz.prog 141 #[.string a0, .string a1] w fun e w' => e = .returned (.bool r) ∧ Drawn0 w w' := by
 have H : (if (a0.size : Int) ≥ (a1.size : Int) then (if 0 ≤ (a1.size : Int) then (if (a1.size : Int) ≤ (a0.size : Int) then (some ((a0.extract 0 a1.size).toList == a1.toList)) else (none)) else (none)) else (some false)) = some r := h
 clear h
 by_cases c3 : (a0.size : Int) ≥ (a1.size : Int)
 ·rw [if_pos c3] at H
  have c3b0 := decide_eq_true c3
  have c3b1 : decide (a1.size ≤ a0.size) = true := decide_eq_true (Int.ofNat_le.mp c3)
  clear c3
  by_cases c4 : 0 ≤ (a1.size : Int)
  ·rw [if_pos c4] at H
   have c4b0 := eq_true c4
   have c4b1 := decide_eq_true c4
   clear c4
   by_cases c5 : (a1.size : Int) ≤ (a0.size : Int)
   ·rw [if_pos c5] at H
    have c5b0 := eq_true c5
    have c5b1 := decide_eq_true c5
    clear c5
    obtain rfl := Option.some.inj H
    go_enter Tryz.func141, Tryz.ntmps141
    go_wp2
    go_ret
    exact ⟨z1_, z3_⟩
   ·rw [if_neg c5] at H
    exact absurd H (by simp)
  ·rw [if_neg c4] at H
   exact absurd H (by simp)
 ·rw [if_neg c3] at H
  have c3b0 := decide_eq_false c3
  have c3b1 : decide (a1.size ≤ a0.size) = false := decide_eq_false (fun h => c3 (Int.ofNat_le.mpr h))
  clear c3
  obtain rfl := Option.some.inj H
  go_enter Tryz.func141, Tryz.ntmps141
  go_wp2
  go_ret
  exact ⟨z1_, z3_⟩


def stringslite_CutPrefix.f (a0 : ByteArray) (a1 : ByteArray) : Option (ByteArray × Bool) := (stringslite_HasPrefix.f a0 a1).bind fun t193 => (if t193 = true then (if 0 ≤ (a1.size : Int) then (if (a1.size : Int) ≤ (a0.size : Int) then (some (a0.extract a1.size a0.size, true)) else (none)) else (none)) else (some (a0, false)))
set_option maxHeartbeats 8000000 in
set_option maxRecDepth 100000 in
theorem stringslite_CutPrefix.calls (a0 : ByteArray) (a1 : ByteArray) (r1 : ByteArray) (r2 : Bool) (w : World) (h : stringslite_CutPrefix.f a0 a1 = some (r1, r2)) :
  Calls Tryz.prog 183 #[.string a0, .string a1] w fun e w' => e = .returned (.tuple #[.string r1, .bool r2]) ∧ Drawn0 w w' := by
 have H : ((stringslite_HasPrefix.f a0 a1).bind fun t193 => (if t193 = true then (if 0 ≤ (a1.size : Int) then (if (a1.size : Int) ≤ (a0.size : Int) then (some (a0.extract a1.size a0.size, true)) else (none)) else (none)) else (some (a0, false)))) = some (r1, r2) := h
 clear h
 replace H := Option.bind_eq_some_iff.mp H
 obtain ⟨t193, A30, H⟩ := H
 have A3 := Aside0.mk A30
 clear A30
 by_cases c4 : t193 = true
 ·subst c4
  have H1 : (if 0 ≤ (a1.size : Int) then (if (a1.size : Int) ≤ (a0.size : Int) then (some (a0.extract a1.size a0.size, true)) else (none)) else (none)) = some (r1, r2) := by rw [if_pos rfl] at H; exact H
  clear H
  have H := H1
  clear H1
  by_cases c5 : 0 ≤ (a1.size : Int)
  ·rw [if_pos c5] at H
   have c5b0 := eq_true c5
   have c5b1 := decide_eq_true c5
   clear c5
   by_cases c6 : (a1.size : Int) ≤ (a0.size : Int)
   ·rw [if_pos c6] at H
    have c6b0 := eq_true c6
    have c6b1 := decide_eq_true c6
    clear c6
    simp only [Option.some.injEq, Prod.mk.injEq] at H
    obtain ⟨rfl, rfl⟩ := H
    go_enter Tryz.func183, Tryz.ntmps183
    go_wp2_with (first | ((with_reducible refine gate_callee (f := 141) rfl ?_); refine goesL_ (some 8) rfl rfl Tryz.func141 (by kernel_rfl) rfl #[.string a0, .string a1] rfl z2_ ?_; (with_reducible refine (stringslite_HasPrefix.calls a0 a1 true _ A3.out).mono ?_); rintro e w' ⟨rfl, ⟨nd, rfl⟩⟩; refine ⟨_, rfl, ?_⟩))
    go_ret2
    exact ⟨z1_, z3_⟩
   ·rw [if_neg c6] at H
    exact absurd H (by simp)
  ·rw [if_neg c5] at H
   exact absurd H (by simp)
 ·replace c4 := Bool.eq_false_iff.mpr c4
  subst c4
  have H1 : (some (a0, false)) = some (r1, r2) := by rw [if_neg (show ¬ (false = true) by decide)] at H; exact H
  clear H
  have H := H1
  clear H1
  simp only [Option.some.injEq, Prod.mk.injEq] at H
  obtain ⟨rfl, rfl⟩ := H
  go_enter Tryz.func183, Tryz.ntmps183
  go_wp2_with (first | ((with_reducible refine gate_callee (f := 141) rfl ?_); refine goesL_ (some 8) rfl rfl Tryz.func141 (by kernel_rfl) rfl #[.string a0, .string a1] rfl z2_ ?_; (with_reducible refine (stringslite_HasPrefix.calls a0 a1 false _ A3.out).mono ?_); rintro e w' ⟨rfl, ⟨nd, rfl⟩⟩; refine ⟨_, rfl, ?_⟩))
  go_ret2
  exact ⟨z1_, z3_⟩


def strings_CutPrefix.f (a0 : ByteArray) (a1 : ByteArray) : Option (ByteArray × Bool) := (stringslite_CutPrefix.f a0 a1).bind fun bt194 => (some (bt194.1, bt194.2))
set_option maxHeartbeats 8000000 in
set_option maxRecDepth 100000 in
theorem strings_CutPrefix.calls (a0 : ByteArray) (a1 : ByteArray) (r1 : ByteArray) (r2 : Bool) (w : World) (h : strings_CutPrefix.f a0 a1 = some (r1, r2)) :
  Calls Tryz.prog 142 #[.string a0, .string a1] w fun e w' => e = .returned (.tuple #[.string r1, .bool r2]) ∧ Drawn0 w w' := by
 have H : ((stringslite_CutPrefix.f a0 a1).bind fun bt194 => (some (bt194.1, bt194.2))) = some (r1, r2) := h
 clear h
 replace H := Option.bind_eq_some_iff.mp H
 obtain ⟨⟨t194, t195⟩, A30, H⟩ := H
 replace H : (some (t194, t195)) = some (r1, r2) := H
 have A3 := Aside0.mk A30
 clear A30
 simp only [Option.some.injEq, Prod.mk.injEq] at H
 obtain ⟨rfl, rfl⟩ := H
 go_enter Tryz.func142, Tryz.ntmps142
 go_wp2_with (first | ((with_reducible refine gate_callee (f := 183) rfl ?_); refine goesL_ (some 8) rfl rfl Tryz.func183 (by kernel_rfl) rfl #[.string a0, .string a1] rfl z2_ ?_; (with_reducible refine (stringslite_CutPrefix.calls a0 a1 t194 t195 _ A3.out).mono ?_); rintro e w' ⟨rfl, ⟨nd, rfl⟩⟩; refine ⟨_, rfl, ?_⟩))
 go_ret2
 exact ⟨z1_, z3_⟩


def commit_reader_line.f (s0_0 : ByteArray) (s0_1 : Int) (a1 : ByteArray) : Option (ByteArray × ByteArray × Int) := (strings_Cut.f s0_0 (⟨#[10]⟩ : ByteArray)).bind fun bt106 => ((strings_CutPrefix.f bt106.1 a1).bind fun bt109 => (if bt106.2.2 = true then (if bt109.2 = true then (some (bt109.1, bt106.2.1, s0_1)) else ((commit_reader_fail.f s0_0 s0_1 2).bind fun bt111 => (some ((⟨#[]⟩ : ByteArray), bt111.1, bt111.2)))) else ((commit_reader_fail.f s0_0 s0_1 2).bind fun bt113 => (some ((⟨#[]⟩ : ByteArray), bt113.1, bt113.2)))))
set_option maxHeartbeats 8000000 in
set_option maxRecDepth 100000 in
theorem commit_reader_line.calls (g : Nat) (s0_0 : ByteArray) (s0_1 : Int) (a1 : ByteArray) (r1 : ByteArray) (r2 : ByteArray) (r3 : Int) (w0 w : World) (hI : IsS87 w0 w g s0_0 s0_1) (hB : Below w0.heap.size w0 w) (hgv : GV w0) (h : commit_reader_line.f s0_0 s0_1 a1 = some (r1, r2, r3)) :
  Calls Tryz.prog 73 #[.pointer (some ⟨g, 0, none⟩), .string a1] w fun e w' => e = .returned (.string r1) ∧ IsS87 w0 w' g r2 r3 ∧ Below w0.heap.size w0 w' ∧ KeepBut w w' g none := by
 have HI0 := Aside0.mk hI
 have HK := Aside0.mk (KeepBut.refl w g none)
 have HL := Aside0.mk hB.size
 clear hI
 have HW0 := Aside0.mk hB.size
 have HB := Aside0.mk hB
 clear hB
 have H : ((strings_Cut.f s0_0 (⟨#[10]⟩ : ByteArray)).bind fun bt106 => ((strings_CutPrefix.f bt106.1 a1).bind fun bt109 => (if bt106.2.2 = true then (if bt109.2 = true then (some (bt109.1, bt106.2.1, s0_1)) else ((commit_reader_fail.f s0_0 s0_1 2).bind fun bt111 => (some ((⟨#[]⟩ : ByteArray), bt111.1, bt111.2)))) else ((commit_reader_fail.f s0_0 s0_1 2).bind fun bt113 => (some ((⟨#[]⟩ : ByteArray), bt113.1, bt113.2)))))) = some (r1, r2, r3) := h
 clear h
 replace H := Option.bind_eq_some_iff.mp H
 obtain ⟨⟨t106, t107, t108⟩, A30, H⟩ := H
 replace H : ((strings_CutPrefix.f t106 a1).bind fun bt109 => (if t108 = true then (if bt109.2 = true then (some (bt109.1, t107, s0_1)) else ((commit_reader_fail.f s0_0 s0_1 2).bind fun bt111 => (some ((⟨#[]⟩ : ByteArray), bt111.1, bt111.2)))) else ((commit_reader_fail.f s0_0 s0_1 2).bind fun bt113 => (some ((⟨#[]⟩ : ByteArray), bt113.1, bt113.2))))) = some (r1, r2, r3) := H
 have A3 := Aside0.mk A30
 clear A30
 replace H := Option.bind_eq_some_iff.mp H
 obtain ⟨⟨t109, t110⟩, A40, H⟩ := H
 replace H : (if t108 = true then (if t110 = true then (some (t109, t107, s0_1)) else ((commit_reader_fail.f s0_0 s0_1 2).bind fun bt111 => (some ((⟨#[]⟩ : ByteArray), bt111.1, bt111.2)))) else ((commit_reader_fail.f s0_0 s0_1 2).bind fun bt113 => (some ((⟨#[]⟩ : ByteArray), bt113.1, bt113.2)))) = some (r1, r2, r3) := H
 have A4 := Aside0.mk A40
 clear A40
 by_cases c5 : t108 = true
 ·subst c5
  have H1 : (if t110 = true then (some (t109, t107, s0_1)) else ((commit_reader_fail.f s0_0 s0_1 2).bind fun bt111 => (some ((⟨#[]⟩ : ByteArray), bt111.1, bt111.2)))) = some (r1, r2, r3) := by rw [if_pos rfl] at H; exact H
  clear H
  have H := H1
  clear H1
  by_cases c6 : t110 = true
  ·subst c6
   have H1 : (some (t109, t107, s0_1)) = some (r1, r2, r3) := by rw [if_pos rfl] at H; exact H
   clear H
   have H := H1
   clear H1
   simp only [Option.some.injEq, Prod.mk.injEq] at H
   obtain ⟨rfl, rfl, rfl⟩ := H
   obtain ⟨HGz7, hgz7⟩ := HI0.out
   have hcz7_0 := cellS87_0 HGz7
   have hcz7_1 := cellS87_1 HGz7
   have hfz7_0 := blk_frozen HGz7 0
   have hfz7_1 := blk_frozen HGz7 1
   clear HGz7 hgz7
   go_enter Tryz.func73, Tryz.ntmps73
   go_wp2_with (first | ((with_reducible refine gate_callee (f := 82) rfl ?_); refine goesL_ (some 15) rfl rfl Tryz.func82 (by kernel_rfl) rfl #[.string s0_0, .string (⟨#[10]⟩ : ByteArray)] rfl z2_ ?_; (with_reducible refine (strings_Cut.calls s0_0 (⟨#[10]⟩ : ByteArray) t106 t107 true _ ?side1 A3.out).mono ?_); (case side1 => exact GV.below hgv z12_); rintro e w' ⟨rfl, ⟨nd, rfl⟩⟩; refine ⟨_, rfl, ?_⟩) | ((with_reducible refine gate_callee (f := 142) rfl ?_); refine goesL_ (some 22) rfl rfl Tryz.func142 (by kernel_rfl) rfl #[.string t106, .string a1] rfl z2_ ?_; (with_reducible refine (strings_CutPrefix.calls t106 a1 t109 true _ A4.out).mono ?_); rintro e w' ⟨rfl, ⟨nd, rfl⟩⟩; refine ⟨_, rfl, ?_⟩))
   go_ret
   exact ⟨z4_, z11_, z12_, z7_⟩
  ·replace c6 := Bool.eq_false_iff.mpr c6
   subst c6
   have H1 : ((commit_reader_fail.f s0_0 s0_1 2).bind fun bt111 => (some ((⟨#[]⟩ : ByteArray), bt111.1, bt111.2))) = some (r1, r2, r3) := by rw [if_neg (show ¬ (false = true) by decide)] at H; exact H
   clear H
   have H := H1
   clear H1
   replace H := Option.bind_eq_some_iff.mp H
   obtain ⟨⟨t111, t112⟩, A80, H⟩ := H
   replace H : (some ((⟨#[]⟩ : ByteArray), t111, t112)) = some (r1, r2, r3) := H
   have A8 := Aside0.mk A80
   clear A80
   simp only [Option.some.injEq, Prod.mk.injEq] at H
   obtain ⟨rfl, rfl, rfl⟩ := H
   obtain ⟨HGz9, hgz9⟩ := HI0.out
   have hcz9_0 := cellS87_0 HGz9
   have hcz9_1 := cellS87_1 HGz9
   have hfz9_0 := blk_frozen HGz9 0
   have hfz9_1 := blk_frozen HGz9 1
   clear HGz9 hgz9
   go_enter Tryz.func73, Tryz.ntmps73
   go_wp2_with (first | ((with_reducible refine gate_callee (f := 82) rfl ?_); refine goesL_ (some 15) rfl rfl Tryz.func82 (by kernel_rfl) rfl #[.string s0_0, .string (⟨#[10]⟩ : ByteArray)] rfl z2_ ?_; (with_reducible refine (strings_Cut.calls s0_0 (⟨#[10]⟩ : ByteArray) t106 t107 true _ ?side1 A3.out).mono ?_); (case side1 => exact GV.below hgv z12_); rintro e w' ⟨rfl, ⟨nd, rfl⟩⟩; refine ⟨_, rfl, ?_⟩) | ((with_reducible refine gate_callee (f := 142) rfl ?_); refine goesL_ (some 22) rfl rfl Tryz.func142 (by kernel_rfl) rfl #[.string t106, .string a1] rfl z2_ ?_; (with_reducible refine (strings_CutPrefix.calls t106 a1 t109 false _ A4.out).mono ?_); rintro e w' ⟨rfl, ⟨nd, rfl⟩⟩; refine ⟨_, rfl, ?_⟩) | ((with_reducible refine gate_callee (f := 74) rfl ?_); refine goesL_ (some 32) rfl rfl Tryz.func74 (by kernel_rfl) rfl #[.pointer (some ⟨g, 0, none⟩), .int .i64 2] rfl z2_ ?_; (with_reducible refine (commit_reader_fail.calls g s0_0 s0_1 2 t111 t112 w0 _ ?side1 ?side2 A8.out).mono ?_); (case side1 => repeat (first | (with_reducible first | exact HI0.out | apply IsS87.alloc | apply IsS87.drewN | apply IsS87.drew | apply IsS87.set_0 | apply IsS87.set_1) | exact HI0.out)); (case side2 => repeat (first | (with_reducible first | exact HB.out | apply below_alloc | apply pw_below_drewN | apply below_drew1 | refine below_set ?_ (IsS87.ge HI0.out)) | exact HB.out)); rintro e w10 ⟨rfl, hi, hb, hk⟩; refine ⟨_, rfl, ?_⟩; replace HK := Aside0.mk (KeepBut.trans z7_ hk (.inl rfl)); replace HB := Aside0.mk (hb); replace HI0 := Aside0.mk (hi); (try clear hb); (try clear hb2); (try clear hk); (try clear hi)))
   go_ret
   exact ⟨z4_, z11_, z12_, z7_⟩
 ·replace c5 := Bool.eq_false_iff.mpr c5
  subst c5
  have H1 : ((commit_reader_fail.f s0_0 s0_1 2).bind fun bt113 => (some ((⟨#[]⟩ : ByteArray), bt113.1, bt113.2))) = some (r1, r2, r3) := by rw [if_neg (show ¬ (false = true) by decide)] at H; exact H
  clear H
  have H := H1
  clear H1
  replace H := Option.bind_eq_some_iff.mp H
  obtain ⟨⟨t113, t114⟩, A110, H⟩ := H
  replace H : (some ((⟨#[]⟩ : ByteArray), t113, t114)) = some (r1, r2, r3) := H
  have A11 := Aside0.mk A110
  clear A110
  simp only [Option.some.injEq, Prod.mk.injEq] at H
  obtain ⟨rfl, rfl, rfl⟩ := H
  obtain ⟨HGz12, hgz12⟩ := HI0.out
  have hcz12_0 := cellS87_0 HGz12
  have hcz12_1 := cellS87_1 HGz12
  have hfz12_0 := blk_frozen HGz12 0
  have hfz12_1 := blk_frozen HGz12 1
  clear HGz12 hgz12
  go_enter Tryz.func73, Tryz.ntmps73
  go_wp2_with (first | ((with_reducible refine gate_callee (f := 82) rfl ?_); refine goesL_ (some 15) rfl rfl Tryz.func82 (by kernel_rfl) rfl #[.string s0_0, .string (⟨#[10]⟩ : ByteArray)] rfl z2_ ?_; (with_reducible refine (strings_Cut.calls s0_0 (⟨#[10]⟩ : ByteArray) t106 t107 false _ ?side1 A3.out).mono ?_); (case side1 => exact GV.below hgv z12_); rintro e w' ⟨rfl, ⟨nd, rfl⟩⟩; refine ⟨_, rfl, ?_⟩) | ((with_reducible refine gate_callee (f := 142) rfl ?_); refine goesL_ (some 22) rfl rfl Tryz.func142 (by kernel_rfl) rfl #[.string t106, .string a1] rfl z2_ ?_; (with_reducible refine (strings_CutPrefix.calls t106 a1 t109 t110 _ A4.out).mono ?_); rintro e w' ⟨rfl, ⟨nd, rfl⟩⟩; refine ⟨_, rfl, ?_⟩) | ((with_reducible refine gate_callee (f := 74) rfl ?_); refine goesL_ (some 32) rfl rfl Tryz.func74 (by kernel_rfl) rfl #[.pointer (some ⟨g, 0, none⟩), .int .i64 2] rfl z2_ ?_; (with_reducible refine (commit_reader_fail.calls g s0_0 s0_1 2 t113 t114 w0 _ ?side1 ?side2 A11.out).mono ?_); (case side1 => repeat (first | (with_reducible first | exact HI0.out | apply IsS87.alloc | apply IsS87.drewN | apply IsS87.drew | apply IsS87.set_0 | apply IsS87.set_1) | exact HI0.out)); (case side2 => repeat (first | (with_reducible first | exact HB.out | apply below_alloc | apply pw_below_drewN | apply below_drew1 | refine below_set ?_ (IsS87.ge HI0.out)) | exact HB.out)); rintro e w13 ⟨rfl, hi, hb, hk⟩; refine ⟨_, rfl, ?_⟩; replace HK := Aside0.mk (KeepBut.trans z7_ hk (.inl rfl)); replace HB := Aside0.mk (hb); replace HI0 := Aside0.mk (hi); (try clear hb); (try clear hb2); (try clear hk); (try clear hi)))
  go_ret
  exact ⟨z4_, z11_, z12_, z7_⟩


def commit_reader_id.f (k : Nat) (s0_0 : ByteArray) (s0_1 : Int) (a1 : ByteArray) : Option (ByteArray × ByteArray × Int) := (commit_reader_line.f s0_0 s0_1 a1).bind fun bt101 => ((ident_Is.f k bt101.1).bind fun t104 => (if t104 = true then (some (bt101.1, bt101.2.1, bt101.2.2)) else ((commit_reader_fail.f bt101.2.1 bt101.2.2 2).bind fun bt105 => (some (bt101.1, bt105.1, bt105.2)))))
theorem commit_reader_id.mono : ∀ a0 a1 a2 k, LeO (commit_reader_id.f k a0 a1 a2) (commit_reader_id.f (k + 1) a0 a1 a2) := by
 intro a0 a1 a2 k
 unfold commit_reader_id.f
 have m0_ := @ident_Is.mono
 exact mz_
set_option maxHeartbeats 8000000 in
set_option maxRecDepth 100000 in
theorem commit_reader_id.calls (k : Nat) (g : Nat) (s0_0 : ByteArray) (s0_1 : Int) (a1 : ByteArray) (r1 : ByteArray) (r2 : ByteArray) (r3 : Int) (w0 w : World) (hI : IsS87 w0 w g s0_0 s0_1) (hB : Below w0.heap.size w0 w) (hgv : GV w0) (h : commit_reader_id.f k s0_0 s0_1 a1 = some (r1, r2, r3)) :
  Calls Tryz.prog 70 #[.pointer (some ⟨g, 0, none⟩), .string a1] w fun e w' => e = .returned (.string r1) ∧ IsS87 w0 w' g r2 r3 ∧ Below w0.heap.size w0 w' ∧ KeepBut w w' g none := by
 have HI0 := Aside0.mk hI
 have HK := Aside0.mk (KeepBut.refl w g none)
 have HL := Aside0.mk hB.size
 clear hI
 have HW0 := Aside0.mk hB.size
 have HB := Aside0.mk hB
 clear hB
 have H : ((commit_reader_line.f s0_0 s0_1 a1).bind fun bt101 => ((ident_Is.f k bt101.1).bind fun t104 => (if t104 = true then (some (bt101.1, bt101.2.1, bt101.2.2)) else ((commit_reader_fail.f bt101.2.1 bt101.2.2 2).bind fun bt105 => (some (bt101.1, bt105.1, bt105.2)))))) = some (r1, r2, r3) := h
 clear h
 replace H := Option.bind_eq_some_iff.mp H
 obtain ⟨⟨t101, t102, t103⟩, A30, H⟩ := H
 replace H : ((ident_Is.f k t101).bind fun t104 => (if t104 = true then (some (t101, t102, t103)) else ((commit_reader_fail.f t102 t103 2).bind fun bt105 => (some (t101, bt105.1, bt105.2))))) = some (r1, r2, r3) := H
 have A3 := Aside0.mk A30
 clear A30
 replace H := Option.bind_eq_some_iff.mp H
 obtain ⟨t104, A40, H⟩ := H
 have A4 := Aside0.mk A40
 clear A40
 by_cases c5 : t104 = true
 ·subst c5
  have H1 : (some (t101, t102, t103)) = some (r1, r2, r3) := by rw [if_pos rfl] at H; exact H
  clear H
  have H := H1
  clear H1
  simp only [Option.some.injEq, Prod.mk.injEq] at H
  obtain ⟨rfl, rfl, rfl⟩ := H
  go_enter Tryz.func70, Tryz.ntmps70
  go_wp2_with (first | ((with_reducible refine gate_callee (f := 73) rfl ?_); refine goesL_ (some 8) rfl rfl Tryz.func73 (by kernel_rfl) rfl #[.pointer (some ⟨g, 0, none⟩), .string a1] rfl z2_ ?_; (with_reducible refine (commit_reader_line.calls g s0_0 s0_1 a1 t101 t102 t103 w0 _ ?side1 ?side2 ?side3 A3.out).mono ?_); (case side1 => repeat (first | (with_reducible first | exact HI0.out | apply IsS87.alloc | apply IsS87.drewN | apply IsS87.drew | apply IsS87.set_0 | apply IsS87.set_1) | exact HI0.out)); (case side2 => repeat (first | (with_reducible first | exact HB.out | apply below_alloc | apply pw_below_drewN | apply below_drew1 | refine below_set ?_ (IsS87.ge HI0.out)) | exact HB.out)); (case side3 => exact hgv); rintro e w6 ⟨rfl, hi, hb, hk⟩; refine ⟨_, rfl, ?_⟩; replace HK := Aside0.mk (KeepBut.trans z7_ hk (.inl rfl)); replace HB := Aside0.mk (hb); replace HI0 := Aside0.mk (hi); (try clear hb); (try clear hb2); (try clear hk); (try clear hi)) | ((with_reducible refine gate_callee (f := 65) rfl ?_); refine goesL_ (some 10) rfl rfl Tryz.func65 (by kernel_rfl) rfl #[.string t101] rfl z2_ ?_; (with_reducible refine (ident_Is.calls k t101 true _ A4.out).mono ?_); rintro e w' ⟨rfl, ⟨nd, rfl⟩⟩; refine ⟨_, rfl, ?_⟩))
  go_ret
  exact ⟨z4_, z11_, z12_, z7_⟩
 ·replace c5 := Bool.eq_false_iff.mpr c5
  subst c5
  have H1 : ((commit_reader_fail.f t102 t103 2).bind fun bt105 => (some (t101, bt105.1, bt105.2))) = some (r1, r2, r3) := by rw [if_neg (show ¬ (false = true) by decide)] at H; exact H
  clear H
  have H := H1
  clear H1
  replace H := Option.bind_eq_some_iff.mp H
  obtain ⟨⟨t105, t106⟩, A70, H⟩ := H
  replace H : (some (t101, t105, t106)) = some (r1, r2, r3) := H
  have A7 := Aside0.mk A70
  clear A70
  simp only [Option.some.injEq, Prod.mk.injEq] at H
  obtain ⟨rfl, rfl, rfl⟩ := H
  go_enter Tryz.func70, Tryz.ntmps70
  go_wp2_with (first | ((with_reducible refine gate_callee (f := 73) rfl ?_); refine goesL_ (some 8) rfl rfl Tryz.func73 (by kernel_rfl) rfl #[.pointer (some ⟨g, 0, none⟩), .string a1] rfl z2_ ?_; (with_reducible refine (commit_reader_line.calls g s0_0 s0_1 a1 t101 t102 t103 w0 _ ?side1 ?side2 ?side3 A3.out).mono ?_); (case side1 => repeat (first | (with_reducible first | exact HI0.out | apply IsS87.alloc | apply IsS87.drewN | apply IsS87.drew | apply IsS87.set_0 | apply IsS87.set_1) | exact HI0.out)); (case side2 => repeat (first | (with_reducible first | exact HB.out | apply below_alloc | apply pw_below_drewN | apply below_drew1 | refine below_set ?_ (IsS87.ge HI0.out)) | exact HB.out)); (case side3 => exact hgv); rintro e w8 ⟨rfl, hi, hb, hk⟩; refine ⟨_, rfl, ?_⟩; replace HK := Aside0.mk (KeepBut.trans z7_ hk (.inl rfl)); replace HB := Aside0.mk (hb); replace HI0 := Aside0.mk (hi); (try clear hb); (try clear hb2); (try clear hk); (try clear hi)) | ((with_reducible refine gate_callee (f := 65) rfl ?_); refine goesL_ (some 10) rfl rfl Tryz.func65 (by kernel_rfl) rfl #[.string t101] rfl z2_ ?_; (with_reducible refine (ident_Is.calls k t101 false _ A4.out).mono ?_); rintro e w' ⟨rfl, ⟨nd, rfl⟩⟩; refine ⟨_, rfl, ?_⟩) | ((with_reducible refine gate_callee (f := 74) rfl ?_); refine goesL_ (some 13) rfl rfl Tryz.func74 (by kernel_rfl) rfl #[.pointer (some ⟨g, 0, none⟩), .int .i64 2] rfl z2_ ?_; (with_reducible refine (commit_reader_fail.calls g t102 t103 2 t105 t106 w0 _ ?side1 ?side2 A7.out).mono ?_); (case side1 => repeat (first | (with_reducible first | exact HI0.out | apply IsS87.alloc | apply IsS87.drewN | apply IsS87.drew | apply IsS87.set_0 | apply IsS87.set_1) | exact HI0.out)); (case side2 => repeat (first | (with_reducible first | exact HB.out | apply below_alloc | apply pw_below_drewN | apply below_drew1 | refine below_set ?_ (IsS87.ge HI0.out)) | exact HB.out)); rintro e w9 ⟨rfl, hi, hb, hk⟩; refine ⟨_, rfl, ?_⟩; replace HK := Aside0.mk (KeepBut.trans z7_ hk (.inl rfl)); replace HB := Aside0.mk (hb); replace HI0 := Aside0.mk (hi); (try clear hb); (try clear hb2); (try clear hk); (try clear hi)))
  go_ret
  exact ⟨z4_, z11_, z12_, z7_⟩


mutual
def commit_digits.j0 : Nat → ByteArray → Bool → Option (Int × Bool)
 | 0, _, _ => none
 | k + 1, x0, x27 => if x27 = true then (some (0, false)) else (commit_digits.l0 k x0 (x0.size : Int) 0)
def commit_digits.l0 : Nat → ByteArray → Int → Int → Option (Int × Bool)
 | 0, _, _, _ => none
 | k + 1, x0, x29, x30 => if x30 < x29 then (if 0 ≤ x30 then (if x30 < (x0.size : Int) then (if (bt x0 x30) < 48 then (some (0, false)) else (if (bt x0 x30) > 57 then (some (0, false)) else (commit_digits.l0 k x0 x29 (wrap64 (x30 + 1))))) else (none)) else (none)) else ((strconv_Atoi.f x0).bind fun bt101 => (if bt101.2.isNone = true then (some (bt101.1, true)) else (some (bt101.1, false))))
end
def commit_digits.f (k : Nat) (a0 : ByteArray) (a1 : Int) : Option (Int × Bool) := if (a0.size : Int) < 1 then (commit_digits.j0 k a0 true) else (if (a0.size : Int) > a1 then (commit_digits.j0 k a0 true) else (if (a0.size : Int) > 1 then (if 0 < (a0.size : Int) then (commit_digits.j0 k a0 ((bt a0 0) == 48)) else (none)) else (commit_digits.j0 k a0 false)))
theorem commit_digits.mono_l : ∀ k, (∀ y0 y1, LeO (commit_digits.j0 k y0 y1) (commit_digits.j0 (k + 1) y0 y1)) ∧ (∀ y0 y1 y2, LeO (commit_digits.l0 k y0 y1 y2) (commit_digits.l0 (k + 1) y0 y1 y2))
 | 0 => ⟨fun _ _ r h => by simp [commit_digits.j0] at h, fun _ _ _ r h => by simp [commit_digits.l0] at h⟩
 | k + 1 => by
  obtain ⟨ih0, ih1⟩ := commit_digits.mono_l k
  refine ⟨?_, ?_⟩
  ·intro y0 y1
   unfold commit_digits.j0
   have m0_ := @ih0
   have m1_ := @ih1
   exact mz_
  ·intro y0 y1 y2
   unfold commit_digits.l0
   have m0_ := @ih0
   have m1_ := @ih1
   exact mz_
theorem commit_digits.mono : ∀ a0 a1 k, LeO (commit_digits.f k a0 a1) (commit_digits.f (k + 1) a0 a1) := by
 intro a0 a1 k
 obtain ⟨ih0, ih1⟩ := commit_digits.mono_l k
 unfold commit_digits.f
 have m0_ := @ih0
 have m1_ := @ih1
 exact mz_
set_option maxHeartbeats 8000000 in
set_option maxRecDepth 100000 in
theorem commit_digits.calls (k : Nat) (a0 : ByteArray) (a1 : Int) (r1 : Int) (r2 : Bool) (w : World) (h : commit_digits.f k a0 a1 = some (r1, r2)) :
  Calls Tryz.prog 83 #[.string a0, .int .i64 a1] w fun e w' => e = .returned (.tuple #[.int .i64 r1, .bool r2]) ∧ Below w.heap.size w w' := by
 have hu117 := Tryz.underlying117
 have HB := Aside0.mk (Below.refl w.heap.size w)
 have H : (if (a0.size : Int) < 1 then (commit_digits.j0 k a0 true) else (if (a0.size : Int) > a1 then (commit_digits.j0 k a0 true) else (if (a0.size : Int) > 1 then (if 0 < (a0.size : Int) then (commit_digits.j0 k a0 ((bt a0 0) == 48)) else (none)) else (commit_digits.j0 k a0 false)))) = some (r1, r2) := h
 clear h
 have HC3 := Aside0.mk H
 clear H
 go_enter Tryz.func83, Tryz.ntmps83
 go_upto_region 1 with (fail)
 repeat (go_quiet (fail); go_upto_region 1 with (fail))
 go_cut [27] (fun v27 wc => ∃ (kq : Nat) (x27_2 : Bool), v27 = .bool x27_2 ∧ Aside0 (commit_digits.j0 kq a0 x27_2 = some (r1, r2)) ∧ Aside0 (kq ≤ k) ∧ Aside0 (Below w.heap.size w wc))
 case first =>
  have H := HC3.out
  clear HC3
  by_cases c4 : (a0.size : Int) < 1
  ·rw [if_pos c4] at H
   have c4b0 := decide_eq_true c4
   have c4b1 : decide (a0.size < 1) = true := decide_eq_true (by omega)
   clear c4
   (first | rw [c4b0] | (simp only [i64_w, i32_w]; rw [c4b0]) | skip)
   have H' := Aside0.mk H
   clear H
   go_wp2
   repeat (go_quiet (fail); try go_wp2)
   go_meet
   case rel => exact ⟨_, (true), z1_, H', ⟨z5_⟩, ⟨hb_ HB.out⟩⟩
  ·rw [if_neg c4] at H
   have c4b0 := decide_eq_false c4
   have c4b1 : decide (a0.size < 1) = false := decide_eq_false (by omega)
   clear c4
   (first | rw [c4b0] | (simp only [i64_w, i32_w]; rw [c4b0]) | skip)
   by_cases c5 : (a0.size : Int) > a1
   ·rw [if_pos c5] at H
    have c5b0 := decide_eq_true c5
    clear c5
    have H' := Aside0.mk H
    clear H
    go_wp2
    repeat (go_quiet (fail); try go_wp2)
    go_meet
    case rel => exact ⟨_, (true), z1_, H', ⟨z5_⟩, ⟨hb_ HB.out⟩⟩
   ·rw [if_neg c5] at H
    have c5b0 := decide_eq_false c5
    clear c5
    by_cases c6 : (a0.size : Int) > 1
    ·rw [if_pos c6] at H
     have c6b0 := decide_eq_true c6
     have c6b1 : decide (1 < a0.size) = true := decide_eq_true (by omega)
     clear c6
     by_cases c7 : 0 < (a0.size : Int)
     ·rw [if_pos c7] at H
      have c7b0 := decide_eq_true c7
      have c7b1 : decide (0 < a0.size) = true := decide_eq_true (by omega)
      clear c7
      have H' := Aside0.mk H
      clear H
      have p8 : 0 ≤ (0 : Int) := (by omega)
      have q8 : 0 < a0.size := (by have : (0 : Int) < (a0.size : Int) := of_decide_eq_true z0_; omega)
      have hx8 : ∀ h : 0 < a0.size, ((a0[0]'h).toNat : Int) = bt a0 0 := bt_at a0 0
      clear p8
      have qi8 : (0 < (a0.size : Int)) = True := eq_true (of_decide_eq_true z0_)
      replace q8 := eq_true q8
      go_wp2
      repeat (go_quiet (fail); try go_wp2)
      go_meet
      case rel => exact ⟨_, (((bt a0 0) == 48)), z1_, H', ⟨z5_⟩, ⟨hb_ HB.out⟩⟩
     ·rw [if_neg c7] at H
      exact absurd H (by simp)
    ·rw [if_neg c6] at H
     have c6b0 := decide_eq_false c6
     have c6b1 : decide (1 < a0.size) = false := decide_eq_false (by omega)
     clear c6
     have H' := Aside0.mk H
     clear H
     go_wp2
     repeat (go_quiet (fail); try go_wp2)
     go_meet
     case rel => exact ⟨_, (false), z1_, H', ⟨z5_⟩, ⟨hb_ HB.out⟩⟩
 case rest =>
  clear HC3
  try clear p2
  try clear c4
  try clear c4b0
  try clear c4b1
  try clear c5
  try clear c5b0
  try clear c6
  try clear c6b0
  try clear c6b1
  try clear c7
  try clear c7b0
  try clear c7b1
  try clear c8
  try clear p8
  try clear q8
  try clear hx8
  try clear qi8
  try clear p8
  try clear q8
  obtain ⟨kq, x27_2, rfl, HA, HJ2, HB⟩ := hcut
  cases kq with
  | zero => exact absurd HA.out (by simp [commit_digits.j0])
  | succ kj2 =>
   have H := HA.out
   clear HA
   simp only [commit_digits.j0] at H
   by_cases c9 : x27_2 = true
   ·subst c9
    have H1 : (some (0, false)) = some (r1, r2) := by rw [if_pos rfl] at H; exact H
    clear H
    have H := H1
    clear H1
    simp only [Option.some.injEq, Prod.mk.injEq] at H
    obtain ⟨rfl, rfl⟩ := H
    go_wp2
    repeat (go_quiet (fail); try go_wp2)
    go_ret2
    exact ⟨z4_, hb_ HB.out⟩
   ·replace c9 := Bool.eq_false_iff.mpr c9
    subst c9
    have H1 : (commit_digits.l0 kj2 a0 (a0.size : Int) 0) = some (r1, r2) := by rw [if_neg (show ¬ (false = true) by decide)] at H; exact H
    clear H
    have H := H1
    clear H1
    have H' := Aside0.mk H
    clear H
    go_wp2
    repeat (go_quiet (fail); try go_wp2)
    go_loopg [30] kj2 (fun kq v30 w' => ∃ (x30_2 : Int), v30 = .int .i64 x30_2 ∧ Aside0 (commit_digits.l0 kq a0 (a0.size : Int) x30_2 = some (r1, r2)) ∧ Aside0 (kq ≤ kj2) ∧ Aside0 (Below w.heap.size w w'))
    case atStart => exact ⟨(0), z1_, H', ⟨Nat.le_refl _⟩, ⟨hb_ HB.out⟩⟩
    case round =>
     clear H'
     try clear p2
     try clear c4
     try clear c4b0
     try clear c4b1
     try clear c5
     try clear c5b0
     try clear c6
     try clear c6b0
     try clear c6b1
     try clear c7
     try clear c7b0
     try clear c7b1
     try clear c8
     try clear p8
     try clear q8
     try clear hx8
     try clear qi8
     try clear c9
     try clear p2
     try clear p8
     try clear q8
     obtain ⟨x30_2, rfl, HA, HK2, HB⟩ := hrel
     cases gk with
     | zero => exact absurd HA.out (by simp [commit_digits.l0])
     | succ k2 =>
      have H := HA.out
      clear HA
      simp only [commit_digits.l0] at H
      by_cases c10 : x30_2 < (a0.size : Int)
      ·rw [if_pos c10] at H
       have c10b0 := decide_eq_true c10
       clear c10
       by_cases c11 : 0 ≤ x30_2
       ·rw [if_pos c11] at H
        have c11b0 := decide_eq_true c11
        clear c11
        by_cases c12 : x30_2 < (a0.size : Int)
        ·rw [if_pos c12] at H
         have c12b0 := decide_eq_true c12
         clear c12
         by_cases c14 : (bt a0 x30_2) < 48
         ·rw [if_pos c14] at H
          have c14b0 := decide_eq_true c14
          clear c14
          simp only [Option.some.injEq, Prod.mk.injEq] at H
          obtain ⟨rfl, rfl⟩ := H
          have p13 : 0 ≤ (x30_2 : Int) := of_decide_eq_true z0_
          have q13 : x30_2 < (a0.size : Int) := of_decide_eq_true z0_
          have hx13 := bt_at a0 x30_2
          replace p13 := eq_true p13
          replace q13 := eq_true q13
          go_wp2
          repeat (go_quiet (fail); try go_wp2)
          go_ret2
          exact ⟨z4_, hb_ HB.out⟩
         ·rw [if_neg c14] at H
          have c14b0 := decide_eq_false c14
          clear c14
          by_cases c16 : (bt a0 x30_2) > 57
          ·rw [if_pos c16] at H
           have c16b0 := decide_eq_true c16
           clear c16
           simp only [Option.some.injEq, Prod.mk.injEq] at H
           obtain ⟨rfl, rfl⟩ := H
           have p13 : 0 ≤ (x30_2 : Int) := of_decide_eq_true z0_
           have q13 : x30_2 < (a0.size : Int) := of_decide_eq_true z0_
           have hx13 := bt_at a0 x30_2
           replace p13 := eq_true p13
           replace q13 := eq_true q13
           have p15 : 0 ≤ (x30_2 : Int) := of_decide_eq_true z0_
           have q15 : x30_2 < (a0.size : Int) := of_decide_eq_true z0_
           have hx15 := bt_at a0 x30_2
           replace p15 := eq_true p15
           replace q15 := eq_true q15
           go_wp2
           repeat (go_quiet (fail); try go_wp2)
           go_ret2
           exact ⟨z4_, hb_ HB.out⟩
          ·rw [if_neg c16] at H
           have c16b0 := decide_eq_false c16
           clear c16
           have H' := Aside0.mk H
           clear H
           have p13 : 0 ≤ (x30_2 : Int) := of_decide_eq_true z0_
           have q13 : x30_2 < (a0.size : Int) := of_decide_eq_true z0_
           have hx13 := bt_at a0 x30_2
           replace p13 := eq_true p13
           replace q13 := eq_true q13
           have p15 : 0 ≤ (x30_2 : Int) := of_decide_eq_true z0_
           have q15 : x30_2 < (a0.size : Int) := of_decide_eq_true z0_
           have hx15 := bt_at a0 x30_2
           replace p15 := eq_true p15
           replace q15 := eq_true q15
           go_wp2
           repeat (go_quiet (fail); try go_wp2)
           go_roundg k2
           case measure => have := HJ2.out; have := HK2.out; omega
           case rel => exact ⟨(wrap64 (x30_2 + 1)), z1_, H', ⟨by have := HJ2.out; have := HK2.out; omega⟩, ⟨hb_ HB.out⟩⟩
        ·rw [if_neg c12] at H
         exact absurd H (by simp)
       ·rw [if_neg c11] at H
        exact absurd H (by simp)
      ·rw [if_neg c10] at H
       have c10b0 := decide_eq_false c10
       clear c10
       replace H := Option.bind_eq_some_iff.mp H
       obtain ⟨⟨t101, t102⟩, A170, H⟩ := H
       replace H : (if t102.isNone = true then (some (t101, true)) else (some (t101, false))) = some (r1, r2) := H
       have A17 := Aside0.mk A170
       clear A170
       rcases t102 with _ | q103
       ·have H1 : (some (t101, true)) = some (r1, r2) := by rw [if_pos (show (none : Option Int).isNone = true by rfl)] at H; exact H
        clear H
        have H := H1
        clear H1
        try simp only [errW_none, errW_some]
        simp only [Option.some.injEq, Prod.mk.injEq] at H
        obtain ⟨rfl, rfl⟩ := H
        go_wp2_with (first | (go_at_call 145; (with_reducible refine (strconv_Atoi.calls a0 t101 none _ A17.out).mono ?_); rintro e w18 ⟨rfl, hb⟩; replace HB := Aside0.mk (below_step (hb_ HB.out) hb); (try clear hb); (try clear hb2); (try clear hk); (try clear hi); (try simp only [errW_none, errW_some])))
        repeat (go_quiet (first | (go_at_call 145; (with_reducible refine (strconv_Atoi.calls a0 t101 none _ A17.out).mono ?_); rintro e w18 ⟨rfl, hb⟩; replace HB := Aside0.mk (below_step (hb_ HB.out) hb); (try clear hb); (try clear hb2); (try clear hk); (try clear hi); (try simp only [errW_none, errW_some]))); try go_wp2_with (first | (go_at_call 145; (with_reducible refine (strconv_Atoi.calls a0 t101 none _ A17.out).mono ?_); rintro e w18 ⟨rfl, hb⟩; replace HB := Aside0.mk (below_step (hb_ HB.out) hb); (try clear hb); (try clear hb2); (try clear hk); (try clear hi); (try simp only [errW_none, errW_some]))))
        go_ret2
        exact ⟨z4_, hb_ HB.out⟩
       ·have H1 : (some (t101, false)) = some (r1, r2) := by rw [if_neg (show ¬ (some q103).isNone = true by simp)] at H; exact H
        clear H
        have H := H1
        clear H1
        try simp only [errW_none, errW_some]
        simp only [Option.some.injEq, Prod.mk.injEq] at H
        obtain ⟨rfl, rfl⟩ := H
        go_wp2_with (first | (go_at_call 145; (with_reducible refine (strconv_Atoi.calls a0 t101 (some q103) _ A17.out).mono ?_); rintro e w19 ⟨rfl, hb⟩; replace HB := Aside0.mk (below_step (hb_ HB.out) hb); (try clear hb); (try clear hb2); (try clear hk); (try clear hi); (try simp only [errW_none, errW_some])))
        repeat (go_quiet (first | (go_at_call 145; (with_reducible refine (strconv_Atoi.calls a0 t101 (some q103) _ A17.out).mono ?_); rintro e w19 ⟨rfl, hb⟩; replace HB := Aside0.mk (below_step (hb_ HB.out) hb); (try clear hb); (try clear hb2); (try clear hk); (try clear hi); (try simp only [errW_none, errW_some]))); try go_wp2_with (first | (go_at_call 145; (with_reducible refine (strconv_Atoi.calls a0 t101 (some q103) _ A17.out).mono ?_); rintro e w19 ⟨rfl, hb⟩; replace HB := Aside0.mk (below_step (hb_ HB.out) hb); (try clear hb); (try clear hb2); (try clear hk); (try clear hi); (try simp only [errW_none, errW_some]))))
        go_ret2
        exact ⟨z4_, hb_ HB.out⟩


mutual
def commit_zone.j0 : Nat → ByteArray → Bool → Option (Int × Bool)
 | 0, _, _ => none
 | k + 1, x0, x25 => if x25 = true then (some (0, false)) else (commit_zone.l0 k x0 1)
def commit_zone.l0 : Nat → ByteArray → Int → Option (Int × Bool)
 | 0, _, _ => none
 | k + 1, x0, x4 => if x4 < 5 then (if 0 ≤ x4 then (if x4 < (x0.size : Int) then (if (bt x0 x4) < 48 then (some (0, false)) else (if (bt x0 x4) > 57 then (some (0, false)) else (commit_zone.l0 k x0 (wrap64 (x4 + 1))))) else (none)) else (none)) else (if 1 ≤ 3 then (if 3 ≤ (x0.size : Int) then ((strconv_Atoi.f (x0.extract 1 3)).bind fun bt104 => ((strconv_Atoi.f (x0.extract 3 x0.size)).bind fun bt106 => (if bt106.1 ≥ 60 then (some (0, false)) else (if 0 < (x0.size : Int) then (if (bt x0 0) = 45 then (some (wrap64 ((wrap64 ((-60) * bt104.1)) - bt106.1), true)) else (some (wrap64 ((wrap64 (60 * bt104.1)) + bt106.1), true))) else (none))))) else (none)) else (none))
end
def commit_zone.f (k : Nat) (a0 : ByteArray) : Option (Int × Bool) := if (a0.size : Int) = 5 then (if 0 < (a0.size : Int) then (if (bt a0 0) = 43 then (commit_zone.j0 k a0 (a0.toList == ([45, 48, 48, 48, 48] : List UInt8))) else (if (bt a0 0) = 45 then (commit_zone.j0 k a0 (a0.toList == ([45, 48, 48, 48, 48] : List UInt8))) else (commit_zone.j0 k a0 true))) else (none)) else (commit_zone.j0 k a0 true)
theorem commit_zone.mono_l : ∀ k, (∀ y0 y1, LeO (commit_zone.j0 k y0 y1) (commit_zone.j0 (k + 1) y0 y1)) ∧ (∀ y0 y1, LeO (commit_zone.l0 k y0 y1) (commit_zone.l0 (k + 1) y0 y1))
 | 0 => ⟨fun _ _ r h => by simp [commit_zone.j0] at h, fun _ _ r h => by simp [commit_zone.l0] at h⟩
 | k + 1 => by
  obtain ⟨ih0, ih1⟩ := commit_zone.mono_l k
  refine ⟨?_, ?_⟩
  ·intro y0 y1
   unfold commit_zone.j0
   have m0_ := @ih0
   have m1_ := @ih1
   exact mz_
  ·intro y0 y1
   unfold commit_zone.l0
   have m0_ := @ih0
   have m1_ := @ih1
   exact mz_
theorem commit_zone.mono : ∀ a0 k, LeO (commit_zone.f k a0) (commit_zone.f (k + 1) a0) := by
 intro a0 k
 obtain ⟨ih0, ih1⟩ := commit_zone.mono_l k
 unfold commit_zone.f
 have m0_ := @ih0
 have m1_ := @ih1
 exact mz_
set_option maxHeartbeats 8000000 in
set_option maxRecDepth 100000 in
theorem commit_zone.calls (k : Nat) (a0 : ByteArray) (r1 : Int) (r2 : Bool) (w : World) (h : commit_zone.f k a0 = some (r1, r2)) :
  Calls Tryz.prog 84 #[.string a0] w fun e w' => e = .returned (.tuple #[.int .i64 r1, .bool r2]) ∧ Below w.heap.size w w' := by
 have HB := Aside0.mk (Below.refl w.heap.size w)
 have H : (if (a0.size : Int) = 5 then (if 0 < (a0.size : Int) then (if (bt a0 0) = 43 then (commit_zone.j0 k a0 (a0.toList == ([45, 48, 48, 48, 48] : List UInt8))) else (if (bt a0 0) = 45 then (commit_zone.j0 k a0 (a0.toList == ([45, 48, 48, 48, 48] : List UInt8))) else (commit_zone.j0 k a0 true))) else (none)) else (commit_zone.j0 k a0 true)) = some (r1, r2) := h
 clear h
 have HC2 := Aside0.mk H
 clear H
 go_enter Tryz.func84, Tryz.ntmps84
 go_upto_region 1 with (fail)
 go_cut [25] (fun v25 wc => ∃ (kq : Nat) (x25_1 : Bool), v25 = .bool x25_1 ∧ Aside0 (commit_zone.j0 kq a0 x25_1 = some (r1, r2)) ∧ Aside0 (kq ≤ k) ∧ Aside0 (Below w.heap.size w wc))
 case first =>
  have H := HC2.out
  clear HC2
  by_cases c3 : (a0.size : Int) = 5
  ·rw [if_pos c3] at H
   have c3b0 := beq_iff_eq.mpr c3
   have c3b1 := bne_eq_false_iff_eq.mpr c3
   clear c3
   (first | rw [c3b0] | (simp only [i64_w, i32_w]; rw [c3b0]) | skip)
   by_cases c4 : 0 < (a0.size : Int)
   ·rw [if_pos c4] at H
    have c4b0 := decide_eq_true c4
    have c4b1 : decide (0 < a0.size) = true := decide_eq_true (by omega)
    clear c4
    by_cases c6 : (bt a0 0) = 43
    ·rw [if_pos c6] at H
     have c6b0 := beq_iff_eq.mpr c6
     have c6b1 := bne_eq_false_iff_eq.mpr c6
     clear c6
     have H' := Aside0.mk H
     clear H
     have p5 : 0 ≤ (0 : Int) := (by omega)
     have q5 : 0 < a0.size := (by have : (0 : Int) < (a0.size : Int) := of_decide_eq_true z0_; omega)
     have hx5 : ∀ h : 0 < a0.size, ((a0[0]'h).toNat : Int) = bt a0 0 := bt_at a0 0
     clear p5
     have qi5 : (0 < (a0.size : Int)) = True := eq_true (of_decide_eq_true z0_)
     replace q5 := eq_true q5
     go_wp2
     go_meet
     case rel => exact ⟨_, ((a0.toList == ([45, 48, 48, 48, 48] : List UInt8))), z1_, H', ⟨z5_⟩, ⟨hb_ HB.out⟩⟩
    ·rw [if_neg c6] at H
     have c6b0 := beq_eq_false_iff_ne.mpr c6
     have c6b1 := bne_iff_ne.mpr c6
     by_cases c8 : (bt a0 0) = 45
     ·rw [if_pos c8] at H
      have c8b0 := beq_iff_eq.mpr c8
      have c8b1 := bne_eq_false_iff_eq.mpr c8
      clear c8
      have H' := Aside0.mk H
      clear H
      have p5 : 0 ≤ (0 : Int) := (by omega)
      have q5 : 0 < a0.size := (by have : (0 : Int) < (a0.size : Int) := of_decide_eq_true z0_; omega)
      have hx5 : ∀ h : 0 < a0.size, ((a0[0]'h).toNat : Int) = bt a0 0 := bt_at a0 0
      clear p5
      have qi5 : (0 < (a0.size : Int)) = True := eq_true (of_decide_eq_true z0_)
      replace q5 := eq_true q5
      have p7 : 0 ≤ (0 : Int) := (by omega)
      have q7 : 0 < a0.size := (by have : (0 : Int) < (a0.size : Int) := of_decide_eq_true z0_; omega)
      have hx7 : ∀ h : 0 < a0.size, ((a0[0]'h).toNat : Int) = bt a0 0 := bt_at a0 0
      clear p7
      have qi7 : (0 < (a0.size : Int)) = True := eq_true (of_decide_eq_true z0_)
      replace q7 := eq_true q7
      go_wp2
      go_meet
      case rel => exact ⟨_, ((a0.toList == ([45, 48, 48, 48, 48] : List UInt8))), z1_, H', ⟨z5_⟩, ⟨hb_ HB.out⟩⟩
     ·rw [if_neg c8] at H
      have c8b0 := beq_eq_false_iff_ne.mpr c8
      have c8b1 := bne_iff_ne.mpr c8
      have H' := Aside0.mk H
      clear H
      have p5 : 0 ≤ (0 : Int) := (by omega)
      have q5 : 0 < a0.size := (by have : (0 : Int) < (a0.size : Int) := of_decide_eq_true z0_; omega)
      have hx5 : ∀ h : 0 < a0.size, ((a0[0]'h).toNat : Int) = bt a0 0 := bt_at a0 0
      clear p5
      have qi5 : (0 < (a0.size : Int)) = True := eq_true (of_decide_eq_true z0_)
      replace q5 := eq_true q5
      have p7 : 0 ≤ (0 : Int) := (by omega)
      have q7 : 0 < a0.size := (by have : (0 : Int) < (a0.size : Int) := of_decide_eq_true z0_; omega)
      have hx7 : ∀ h : 0 < a0.size, ((a0[0]'h).toNat : Int) = bt a0 0 := bt_at a0 0
      clear p7
      have qi7 : (0 < (a0.size : Int)) = True := eq_true (of_decide_eq_true z0_)
      replace q7 := eq_true q7
      go_wp2
      go_meet
      case rel => exact ⟨_, (true), z1_, H', ⟨z5_⟩, ⟨hb_ HB.out⟩⟩
   ·rw [if_neg c4] at H
    exact absurd H (by simp)
  ·rw [if_neg c3] at H
   have c3b0 := beq_eq_false_iff_ne.mpr c3
   have c3b1 := bne_iff_ne.mpr c3
   (first | rw [c3b0] | (simp only [i64_w, i32_w]; rw [c3b0]) | skip)
   have H' := Aside0.mk H
   clear H
   go_wp2
   go_meet
   case rel => exact ⟨_, (true), z1_, H', ⟨z5_⟩, ⟨hb_ HB.out⟩⟩
 case rest =>
  clear HC2
  try clear p2
  try clear c3
  try clear c3b0
  try clear c3b1
  try clear c4
  try clear c4b0
  try clear c4b1
  try clear p5
  try clear q5
  try clear hx5
  try clear qi5
  try clear c6
  try clear c6b0
  try clear c6b1
  try clear p7
  try clear q7
  try clear hx7
  try clear qi7
  try clear c8
  try clear c8b0
  try clear c8b1
  try clear p5
  try clear p7
  try clear q5
  try clear q7
  obtain ⟨kq, x25_1, rfl, HA, HJ1, HB⟩ := hcut
  cases kq with
  | zero => exact absurd HA.out (by simp [commit_zone.j0])
  | succ kj1 =>
   have H := HA.out
   clear HA
   simp only [commit_zone.j0] at H
   by_cases c9 : x25_1 = true
   ·subst c9
    have H1 : (some (0, false)) = some (r1, r2) := by rw [if_pos rfl] at H; exact H
    clear H
    have H := H1
    clear H1
    simp only [Option.some.injEq, Prod.mk.injEq] at H
    obtain ⟨rfl, rfl⟩ := H
    go_wp2
    go_ret2
    exact ⟨z4_, hb_ HB.out⟩
   ·replace c9 := Bool.eq_false_iff.mpr c9
    subst c9
    have H1 : (commit_zone.l0 kj1 a0 1) = some (r1, r2) := by rw [if_neg (show ¬ (false = true) by decide)] at H; exact H
    clear H
    have H := H1
    clear H1
    have H' := Aside0.mk H
    clear H
    go_wp2
    go_loopg [4] kj1 (fun kq v4 w' => ∃ (x4_2 : Int), v4 = .int .i64 x4_2 ∧ Aside0 (commit_zone.l0 kq a0 x4_2 = some (r1, r2)) ∧ Aside0 (kq ≤ kj1) ∧ Aside0 (Below w.heap.size w w'))
    case atStart => exact ⟨(1), z1_, H', ⟨Nat.le_refl _⟩, ⟨hb_ HB.out⟩⟩
    case round =>
     clear H'
     try clear p2
     try clear c3
     try clear c3b0
     try clear c3b1
     try clear c4
     try clear c4b0
     try clear c4b1
     try clear p5
     try clear q5
     try clear hx5
     try clear qi5
     try clear c6
     try clear c6b0
     try clear c6b1
     try clear p7
     try clear q7
     try clear hx7
     try clear qi7
     try clear c8
     try clear c8b0
     try clear c8b1
     try clear c9
     try clear p2
     try clear p5
     try clear p7
     try clear q5
     try clear q7
     obtain ⟨x4_2, rfl, HA, HK2, HB⟩ := hrel
     cases gk with
     | zero => exact absurd HA.out (by simp [commit_zone.l0])
     | succ k2 =>
      have H := HA.out
      clear HA
      simp only [commit_zone.l0] at H
      by_cases c10 : x4_2 < 5
      ·rw [if_pos c10] at H
       have c10b0 := decide_eq_true c10
       clear c10
       by_cases c11 : 0 ≤ x4_2
       ·rw [if_pos c11] at H
        have c11b0 := decide_eq_true c11
        clear c11
        by_cases c12 : x4_2 < (a0.size : Int)
        ·rw [if_pos c12] at H
         have c12b0 := decide_eq_true c12
         clear c12
         by_cases c14 : (bt a0 x4_2) < 48
         ·rw [if_pos c14] at H
          have c14b0 := decide_eq_true c14
          clear c14
          simp only [Option.some.injEq, Prod.mk.injEq] at H
          obtain ⟨rfl, rfl⟩ := H
          have p13 : 0 ≤ (x4_2 : Int) := of_decide_eq_true z0_
          have q13 : x4_2 < (a0.size : Int) := of_decide_eq_true z0_
          have hx13 := bt_at a0 x4_2
          replace p13 := eq_true p13
          replace q13 := eq_true q13
          go_wp2
          go_ret2
          exact ⟨z4_, hb_ HB.out⟩
         ·rw [if_neg c14] at H
          have c14b0 := decide_eq_false c14
          clear c14
          by_cases c16 : (bt a0 x4_2) > 57
          ·rw [if_pos c16] at H
           have c16b0 := decide_eq_true c16
           clear c16
           simp only [Option.some.injEq, Prod.mk.injEq] at H
           obtain ⟨rfl, rfl⟩ := H
           have p13 : 0 ≤ (x4_2 : Int) := of_decide_eq_true z0_
           have q13 : x4_2 < (a0.size : Int) := of_decide_eq_true z0_
           have hx13 := bt_at a0 x4_2
           replace p13 := eq_true p13
           replace q13 := eq_true q13
           have p15 : 0 ≤ (x4_2 : Int) := of_decide_eq_true z0_
           have q15 : x4_2 < (a0.size : Int) := of_decide_eq_true z0_
           have hx15 := bt_at a0 x4_2
           replace p15 := eq_true p15
           replace q15 := eq_true q15
           go_wp2
           go_ret2
           exact ⟨z4_, hb_ HB.out⟩
          ·rw [if_neg c16] at H
           have c16b0 := decide_eq_false c16
           clear c16
           have H' := Aside0.mk H
           clear H
           have p13 : 0 ≤ (x4_2 : Int) := of_decide_eq_true z0_
           have q13 : x4_2 < (a0.size : Int) := of_decide_eq_true z0_
           have hx13 := bt_at a0 x4_2
           replace p13 := eq_true p13
           replace q13 := eq_true q13
           have p15 : 0 ≤ (x4_2 : Int) := of_decide_eq_true z0_
           have q15 : x4_2 < (a0.size : Int) := of_decide_eq_true z0_
           have hx15 := bt_at a0 x4_2
           replace p15 := eq_true p15
           replace q15 := eq_true q15
           go_wp2
           go_roundg k2
           case measure => have := HJ1.out; have := HK2.out; omega
           case rel => exact ⟨(wrap64 (x4_2 + 1)), z1_, H', ⟨by have := HJ1.out; have := HK2.out; omega⟩, ⟨hb_ HB.out⟩⟩
        ·rw [if_neg c12] at H
         exact absurd H (by simp)
       ·rw [if_neg c11] at H
        exact absurd H (by simp)
      ·rw [if_neg c10] at H
       have c10b0 := decide_eq_false c10
       clear c10
       by_cases c17 : 1 ≤ 3
       ·rw [if_pos c17] at H
        have c17b0 := eq_true c17
        have c17b1 := decide_eq_true c17
        clear c17
        by_cases c18 : 3 ≤ (a0.size : Int)
        ·rw [if_pos c18] at H
         have c18b0 := eq_true c18
         have c18b1 := decide_eq_true c18
         clear c18
         replace H := Option.bind_eq_some_iff.mp H
         obtain ⟨⟨t104, t105⟩, A190, H⟩ := H
         replace H : ((strconv_Atoi.f (a0.extract 3 a0.size)).bind fun bt106 => (if bt106.1 ≥ 60 then (some (0, false)) else (if 0 < (a0.size : Int) then (if (bt a0 0) = 45 then (some (wrap64 ((wrap64 ((-60) * t104)) - bt106.1), true)) else (some (wrap64 ((wrap64 (60 * t104)) + bt106.1), true))) else (none)))) = some (r1, r2) := H
         have A19 := Aside0.mk A190
         clear A190
         have c20b0 := eq_true (of_decide_eq_true z0_ : 3 ≤ (a0.size : Int))
         replace H := Option.bind_eq_some_iff.mp H
         obtain ⟨⟨t106, t107⟩, A210, H⟩ := H
         replace H : (if t106 ≥ 60 then (some (0, false)) else (if 0 < (a0.size : Int) then (if (bt a0 0) = 45 then (some (wrap64 ((wrap64 ((-60) * t104)) - t106), true)) else (some (wrap64 ((wrap64 (60 * t104)) + t106), true))) else (none))) = some (r1, r2) := H
         have A21 := Aside0.mk A210
         clear A210
         by_cases c22 : t106 ≥ 60
         ·rw [if_pos c22] at H
          have c22b0 := decide_eq_true c22
          clear c22
          simp only [Option.some.injEq, Prod.mk.injEq] at H
          obtain ⟨rfl, rfl⟩ := H
          have tk1_ : True := trivial
          have tk2_ : True := trivial
          go_wp2_with (first | (have _t := tk1_; (with_reducible refine gate_callee (f := 145) rfl ?_); refine goesL_ (some 43) rfl rfl Tryz.func145 (by kernel_rfl) rfl #[.string (a0.extract 1 3)] rfl z2_ ?_; (with_reducible refine (strconv_Atoi.calls (a0.extract 1 3) t104 t105 _ A19.out).mono ?_); rintro e w23 ⟨rfl, hb⟩; refine ⟨_, rfl, ?_⟩; replace HB := Aside0.mk (below_step (hb_ HB.out) hb); (try clear hb); (try clear hb2); (try clear hk); (try clear hi); (try simp only [errW_none, errW_some]); clear tk1_) | (have _t := tk2_; (with_reducible refine gate_callee (f := 145) rfl ?_); refine goesL_ (some 49) rfl rfl Tryz.func145 (by kernel_rfl) rfl #[.string (a0.extract 3 a0.size)] rfl z2_ ?_; (with_reducible refine (strconv_Atoi.calls (a0.extract 3 a0.size) t106 t107 _ A21.out).mono ?_); rintro e w24 ⟨rfl, hb⟩; refine ⟨_, rfl, ?_⟩; replace HB := Aside0.mk (below_step (hb_ HB.out) hb); (try clear hb); (try clear hb2); (try clear hk); (try clear hi); (try simp only [errW_none, errW_some]); clear tk2_))
          go_ret2
          exact ⟨z4_, hb_ HB.out⟩
         ·rw [if_neg c22] at H
          have c22b0 := decide_eq_false c22
          clear c22
          by_cases c25 : 0 < (a0.size : Int)
          ·rw [if_pos c25] at H
           have c25b0 := decide_eq_true c25
           have c25b1 : decide (0 < a0.size) = true := decide_eq_true (by omega)
           clear c25
           by_cases c27 : (bt a0 0) = 45
           ·rw [if_pos c27] at H
            have c27b0 := beq_iff_eq.mpr c27
            have c27b1 := bne_eq_false_iff_eq.mpr c27
            clear c27
            simp only [Option.some.injEq, Prod.mk.injEq] at H
            obtain ⟨rfl, rfl⟩ := H
            have tk3_ : True := trivial
            have tk4_ : True := trivial
            go_wp2_with (first | (have _t := tk3_; (with_reducible refine gate_callee (f := 145) rfl ?_); refine goesL_ (some 43) rfl rfl Tryz.func145 (by kernel_rfl) rfl #[.string (a0.extract 1 3)] rfl z2_ ?_; (with_reducible refine (strconv_Atoi.calls (a0.extract 1 3) t104 t105 _ A19.out).mono ?_); rintro e w28 ⟨rfl, hb⟩; refine ⟨_, rfl, ?_⟩; replace HB := Aside0.mk (below_step (hb_ HB.out) hb); (try clear hb); (try clear hb2); (try clear hk); (try clear hi); (try simp only [errW_none, errW_some]); clear tk3_) | (have _t := tk4_; (with_reducible refine gate_callee (f := 145) rfl ?_); refine goesL_ (some 49) rfl rfl Tryz.func145 (by kernel_rfl) rfl #[.string (a0.extract 3 a0.size)] rfl z2_ ?_; (with_reducible refine (strconv_Atoi.calls (a0.extract 3 a0.size) t106 t107 _ A21.out).mono ?_); rintro e w29 ⟨rfl, hb⟩; refine ⟨_, rfl, ?_⟩; replace HB := Aside0.mk (below_step (hb_ HB.out) hb); (try clear hb); (try clear hb2); (try clear hk); (try clear hi); (try simp only [errW_none, errW_some]); have p26 : 0 ≤ (0 : Int) := (by omega); have q26 : 0 < a0.size := (by have : (0 : Int) < (a0.size : Int) := of_decide_eq_true z0_; omega); have hx26 : ∀ h : 0 < a0.size, ((a0[0]'h).toNat : Int) = bt a0 0 := bt_at a0 0; clear p26; have qi26 : (0 < (a0.size : Int)) = True := eq_true (of_decide_eq_true z0_); replace q26 := eq_true q26; clear tk4_))
            go_ret2
            exact ⟨z4_, hb_ HB.out⟩
           ·rw [if_neg c27] at H
            have c27b0 := beq_eq_false_iff_ne.mpr c27
            have c27b1 := bne_iff_ne.mpr c27
            simp only [Option.some.injEq, Prod.mk.injEq] at H
            obtain ⟨rfl, rfl⟩ := H
            have tk5_ : True := trivial
            have tk6_ : True := trivial
            go_wp2_with (first | (have _t := tk5_; (with_reducible refine gate_callee (f := 145) rfl ?_); refine goesL_ (some 43) rfl rfl Tryz.func145 (by kernel_rfl) rfl #[.string (a0.extract 1 3)] rfl z2_ ?_; (with_reducible refine (strconv_Atoi.calls (a0.extract 1 3) t104 t105 _ A19.out).mono ?_); rintro e w30 ⟨rfl, hb⟩; refine ⟨_, rfl, ?_⟩; replace HB := Aside0.mk (below_step (hb_ HB.out) hb); (try clear hb); (try clear hb2); (try clear hk); (try clear hi); (try simp only [errW_none, errW_some]); clear tk5_) | (have _t := tk6_; (with_reducible refine gate_callee (f := 145) rfl ?_); refine goesL_ (some 49) rfl rfl Tryz.func145 (by kernel_rfl) rfl #[.string (a0.extract 3 a0.size)] rfl z2_ ?_; (with_reducible refine (strconv_Atoi.calls (a0.extract 3 a0.size) t106 t107 _ A21.out).mono ?_); rintro e w31 ⟨rfl, hb⟩; refine ⟨_, rfl, ?_⟩; replace HB := Aside0.mk (below_step (hb_ HB.out) hb); (try clear hb); (try clear hb2); (try clear hk); (try clear hi); (try simp only [errW_none, errW_some]); have p26 : 0 ≤ (0 : Int) := (by omega); have q26 : 0 < a0.size := (by have : (0 : Int) < (a0.size : Int) := of_decide_eq_true z0_; omega); have hx26 : ∀ h : 0 < a0.size, ((a0[0]'h).toNat : Int) = bt a0 0 := bt_at a0 0; clear p26; have qi26 : (0 < (a0.size : Int)) = True := eq_true (of_decide_eq_true z0_); replace q26 := eq_true q26; clear tk6_))
            go_ret2
            exact ⟨z4_, hb_ HB.out⟩
          ·rw [if_neg c25] at H
           exact absurd H (by simp)
        ·rw [if_neg c18] at H
         exact absurd H (by simp)
       ·rw [if_neg c17] at H
        exact absurd H (by simp)


def commit_ParseWho.j0 : Nat → ByteArray → ByteArray → Int → Int → Bool → Option (ByteArray × ByteArray × Int × Int × Int)
 | 0, _, _, _, _, _ => none
 | k + 1, x4, x7, x12, x14, x68 => if x68 = true then (some ((⟨#[]⟩ : ByteArray), (⟨#[]⟩ : ByteArray), 0, 0, 2)) else ((commit_somebody.f k x4 x7 x12 x14).bind fun t124 => (if t124 = true then (some (x4, x7, x12, x14, 0)) else (some ((⟨#[]⟩ : ByteArray), (⟨#[]⟩ : ByteArray), 0, 0, 1))))
def commit_ParseWho.f (k : Nat) (a0 : ByteArray) : Option (ByteArray × ByteArray × Int × Int × Int) := (strings_Cut.f a0 (⟨#[32, 60]⟩ : ByteArray)).bind fun bt109 => ((strings_Cut.f bt109.2.1 (⟨#[62, 32]⟩ : ByteArray)).bind fun bt112 => ((strings_Cut.f bt112.2.1 (⟨#[32]⟩ : ByteArray)).bind fun bt115 => ((commit_digits.f k bt115.1 18).bind fun bt118 => ((commit_zone.f k bt115.2.1).bind fun bt120 => (if bt109.2.2 = true then (if bt112.2.2 = true then (if bt115.2.2 = true then (if bt118.2 = true then (if bt120.2 = true then (if bt109.1.size + bt112.1.size ≤ 9223372036854775807 then ((strings_ContainsAny.f (bt109.1 ++ bt112.1) (⟨#[60, 62]⟩ : ByteArray)).bind fun t122 => (commit_ParseWho.j0 k bt109.1 bt112.1 bt118.1 bt120.1 t122)) else (none)) else (commit_ParseWho.j0 k bt109.1 bt112.1 bt118.1 bt120.1 true)) else (commit_ParseWho.j0 k bt109.1 bt112.1 bt118.1 bt120.1 true)) else (commit_ParseWho.j0 k bt109.1 bt112.1 bt118.1 bt120.1 true)) else (commit_ParseWho.j0 k bt109.1 bt112.1 bt118.1 bt120.1 true)) else (commit_ParseWho.j0 k bt109.1 bt112.1 bt118.1 bt120.1 true))))))
theorem commit_ParseWho.mono_l : ∀ k, (∀ y0 y1 y2 y3 y4, LeO (commit_ParseWho.j0 k y0 y1 y2 y3 y4) (commit_ParseWho.j0 (k + 1) y0 y1 y2 y3 y4))
 | 0 => fun _ _ _ _ _ r h => by simp [commit_ParseWho.j0] at h
 | k + 1 => by
  have ih0 := commit_ParseWho.mono_l k
  ·intro y0 y1 y2 y3 y4
   unfold commit_ParseWho.j0
   have m0_ := @ih0
   have m1_ := @commit_digits.mono
   have m2_ := @commit_somebody.mono
   have m3_ := @commit_zone.mono
   exact mz_
theorem commit_ParseWho.mono : ∀ a0 k, LeO (commit_ParseWho.f k a0) (commit_ParseWho.f (k + 1) a0) := by
 intro a0 k
 have ih0 := commit_ParseWho.mono_l k
 unfold commit_ParseWho.f
 have m0_ := @ih0
 have m1_ := @commit_digits.mono
 have m2_ := @commit_somebody.mono
 have m3_ := @commit_zone.mono
 exact mz_
set_option maxHeartbeats 8000000 in
set_option maxRecDepth 100000 in
theorem commit_ParseWho.calls (k : Nat) (a0 : ByteArray) (r1 : ByteArray) (r2 : ByteArray) (r3 : Int) (r4 : Int) (r5 : Int) (w : World) (hgv : GV w) (h : commit_ParseWho.f k a0 = some (r1, r2, r3, r4, r5)) :
  Calls Tryz.prog 29 #[.string a0] w fun e w' => e = .returned (.tuple #[.agg #[.string r1, .string r2, .int .i64 r3, .int .i64 r4], .int .i64 r5]) ∧ Below w.heap.size w w' := by
 have hu24 := Tryz.underlying24
 have HB := Aside0.mk (Below.refl w.heap.size w)
 have H : ((strings_Cut.f a0 (⟨#[32, 60]⟩ : ByteArray)).bind fun bt109 => ((strings_Cut.f bt109.2.1 (⟨#[62, 32]⟩ : ByteArray)).bind fun bt112 => ((strings_Cut.f bt112.2.1 (⟨#[32]⟩ : ByteArray)).bind fun bt115 => ((commit_digits.f k bt115.1 18).bind fun bt118 => ((commit_zone.f k bt115.2.1).bind fun bt120 => (if bt109.2.2 = true then (if bt112.2.2 = true then (if bt115.2.2 = true then (if bt118.2 = true then (if bt120.2 = true then (if bt109.1.size + bt112.1.size ≤ 9223372036854775807 then ((strings_ContainsAny.f (bt109.1 ++ bt112.1) (⟨#[60, 62]⟩ : ByteArray)).bind fun t122 => (commit_ParseWho.j0 k bt109.1 bt112.1 bt118.1 bt120.1 t122)) else (none)) else (commit_ParseWho.j0 k bt109.1 bt112.1 bt118.1 bt120.1 true)) else (commit_ParseWho.j0 k bt109.1 bt112.1 bt118.1 bt120.1 true)) else (commit_ParseWho.j0 k bt109.1 bt112.1 bt118.1 bt120.1 true)) else (commit_ParseWho.j0 k bt109.1 bt112.1 bt118.1 bt120.1 true)) else (commit_ParseWho.j0 k bt109.1 bt112.1 bt118.1 bt120.1 true))))))) = some (r1, r2, r3, r4, r5) := h
 clear h
 replace H := Option.bind_eq_some_iff.mp H
 obtain ⟨⟨t109, t110, t111⟩, A20, H⟩ := H
 replace H : ((strings_Cut.f t110 (⟨#[62, 32]⟩ : ByteArray)).bind fun bt112 => ((strings_Cut.f bt112.2.1 (⟨#[32]⟩ : ByteArray)).bind fun bt115 => ((commit_digits.f k bt115.1 18).bind fun bt118 => ((commit_zone.f k bt115.2.1).bind fun bt120 => (if t111 = true then (if bt112.2.2 = true then (if bt115.2.2 = true then (if bt118.2 = true then (if bt120.2 = true then (if t109.size + bt112.1.size ≤ 9223372036854775807 then ((strings_ContainsAny.f (t109 ++ bt112.1) (⟨#[60, 62]⟩ : ByteArray)).bind fun t122 => (commit_ParseWho.j0 k t109 bt112.1 bt118.1 bt120.1 t122)) else (none)) else (commit_ParseWho.j0 k t109 bt112.1 bt118.1 bt120.1 true)) else (commit_ParseWho.j0 k t109 bt112.1 bt118.1 bt120.1 true)) else (commit_ParseWho.j0 k t109 bt112.1 bt118.1 bt120.1 true)) else (commit_ParseWho.j0 k t109 bt112.1 bt118.1 bt120.1 true)) else (commit_ParseWho.j0 k t109 bt112.1 bt118.1 bt120.1 true)))))) = some (r1, r2, r3, r4, r5) := H
 have A2 := Aside0.mk A20
 clear A20
 replace H := Option.bind_eq_some_iff.mp H
 obtain ⟨⟨t112, t113, t114⟩, A30, H⟩ := H
 replace H : ((strings_Cut.f t113 (⟨#[32]⟩ : ByteArray)).bind fun bt115 => ((commit_digits.f k bt115.1 18).bind fun bt118 => ((commit_zone.f k bt115.2.1).bind fun bt120 => (if t111 = true then (if t114 = true then (if bt115.2.2 = true then (if bt118.2 = true then (if bt120.2 = true then (if t109.size + t112.size ≤ 9223372036854775807 then ((strings_ContainsAny.f (t109 ++ t112) (⟨#[60, 62]⟩ : ByteArray)).bind fun t122 => (commit_ParseWho.j0 k t109 t112 bt118.1 bt120.1 t122)) else (none)) else (commit_ParseWho.j0 k t109 t112 bt118.1 bt120.1 true)) else (commit_ParseWho.j0 k t109 t112 bt118.1 bt120.1 true)) else (commit_ParseWho.j0 k t109 t112 bt118.1 bt120.1 true)) else (commit_ParseWho.j0 k t109 t112 bt118.1 bt120.1 true)) else (commit_ParseWho.j0 k t109 t112 bt118.1 bt120.1 true))))) = some (r1, r2, r3, r4, r5) := H
 have A3 := Aside0.mk A30
 clear A30
 replace H := Option.bind_eq_some_iff.mp H
 obtain ⟨⟨t115, t116, t117⟩, A40, H⟩ := H
 replace H : ((commit_digits.f k t115 18).bind fun bt118 => ((commit_zone.f k t116).bind fun bt120 => (if t111 = true then (if t114 = true then (if t117 = true then (if bt118.2 = true then (if bt120.2 = true then (if t109.size + t112.size ≤ 9223372036854775807 then ((strings_ContainsAny.f (t109 ++ t112) (⟨#[60, 62]⟩ : ByteArray)).bind fun t122 => (commit_ParseWho.j0 k t109 t112 bt118.1 bt120.1 t122)) else (none)) else (commit_ParseWho.j0 k t109 t112 bt118.1 bt120.1 true)) else (commit_ParseWho.j0 k t109 t112 bt118.1 bt120.1 true)) else (commit_ParseWho.j0 k t109 t112 bt118.1 bt120.1 true)) else (commit_ParseWho.j0 k t109 t112 bt118.1 bt120.1 true)) else (commit_ParseWho.j0 k t109 t112 bt118.1 bt120.1 true)))) = some (r1, r2, r3, r4, r5) := H
 have A4 := Aside0.mk A40
 clear A40
 replace H := Option.bind_eq_some_iff.mp H
 obtain ⟨⟨t118, t119⟩, A50, H⟩ := H
 replace H : ((commit_zone.f k t116).bind fun bt120 => (if t111 = true then (if t114 = true then (if t117 = true then (if t119 = true then (if bt120.2 = true then (if t109.size + t112.size ≤ 9223372036854775807 then ((strings_ContainsAny.f (t109 ++ t112) (⟨#[60, 62]⟩ : ByteArray)).bind fun t122 => (commit_ParseWho.j0 k t109 t112 t118 bt120.1 t122)) else (none)) else (commit_ParseWho.j0 k t109 t112 t118 bt120.1 true)) else (commit_ParseWho.j0 k t109 t112 t118 bt120.1 true)) else (commit_ParseWho.j0 k t109 t112 t118 bt120.1 true)) else (commit_ParseWho.j0 k t109 t112 t118 bt120.1 true)) else (commit_ParseWho.j0 k t109 t112 t118 bt120.1 true))) = some (r1, r2, r3, r4, r5) := H
 have A5 := Aside0.mk A50
 clear A50
 replace H := Option.bind_eq_some_iff.mp H
 obtain ⟨⟨t120, t121⟩, A60, H⟩ := H
 replace H : (if t111 = true then (if t114 = true then (if t117 = true then (if t119 = true then (if t121 = true then (if t109.size + t112.size ≤ 9223372036854775807 then ((strings_ContainsAny.f (t109 ++ t112) (⟨#[60, 62]⟩ : ByteArray)).bind fun t122 => (commit_ParseWho.j0 k t109 t112 t118 t120 t122)) else (none)) else (commit_ParseWho.j0 k t109 t112 t118 t120 true)) else (commit_ParseWho.j0 k t109 t112 t118 t120 true)) else (commit_ParseWho.j0 k t109 t112 t118 t120 true)) else (commit_ParseWho.j0 k t109 t112 t118 t120 true)) else (commit_ParseWho.j0 k t109 t112 t118 t120 true)) = some (r1, r2, r3, r4, r5) := H
 have A6 := Aside0.mk A60
 clear A60
 have HC7 := Aside0.mk H
 clear H
 go_enter Tryz.func29, Tryz.ntmps29
 go_upto_region 6 with (first | ((with_reducible refine gate_dst (N := 2) rfl ?_); refine be_ (cs := #[.string (⟨#[]⟩ : ByteArray), .string (⟨#[]⟩ : ByteArray), .int .i64 0, .int .i64 0]) (t := 24) ?_; intro gb108 hg w8 hbox hb; have BK108 := Aside0.mk (hbox); have GW108 := Aside0.mk (gw_ hg HB.out); have GE108 := Aside0.mk (gw_ hg HB.out); replace HB := Aside0.mk (below_step (hb_ HB.out) hb); clear hb hbox hg) | ((with_reducible refine gate_callee (f := 82) rfl ?_); refine goesL_ (some 19) rfl rfl Tryz.func82 (by kernel_rfl) rfl #[.string a0, .string (⟨#[32, 60]⟩ : ByteArray)] rfl z2_ ?_; (with_reducible refine (strings_Cut.calls a0 (⟨#[32, 60]⟩ : ByteArray) t109 t110 t111 _ ?side1 A2.out).mono ?_); (case side1 => exact GV.below hgv (hs_)); rintro e w' ⟨rfl, ⟨nd, rfl⟩⟩; refine ⟨_, rfl, ?_⟩) | ((with_reducible refine gate_callee (f := 82) rfl ?_); refine goesL_ (some 25) rfl rfl Tryz.func82 (by kernel_rfl) rfl #[.string t110, .string (⟨#[62, 32]⟩ : ByteArray)] rfl z2_ ?_; (with_reducible refine (strings_Cut.calls t110 (⟨#[62, 32]⟩ : ByteArray) t112 t113 t114 _ ?side1 A3.out).mono ?_); (case side1 => exact GV.below hgv (hs_)); rintro e w' ⟨rfl, ⟨nd, rfl⟩⟩; refine ⟨_, rfl, ?_⟩) | ((with_reducible refine gate_callee (f := 82) rfl ?_); refine goesL_ (some 31) rfl rfl Tryz.func82 (by kernel_rfl) rfl #[.string t113, .string (⟨#[32]⟩ : ByteArray)] rfl z2_ ?_; (with_reducible refine (strings_Cut.calls t113 (⟨#[32]⟩ : ByteArray) t115 t116 t117 _ ?side1 A4.out).mono ?_); (case side1 => exact GV.below hgv (hs_)); rintro e w' ⟨rfl, ⟨nd, rfl⟩⟩; refine ⟨_, rfl, ?_⟩) | ((with_reducible refine gate_callee (f := 83) rfl ?_); refine goesL_ (some 37) rfl rfl Tryz.func83 (by kernel_rfl) rfl #[.string t115, .int .i64 18] rfl z2_ ?_; (with_reducible refine (commit_digits.calls k t115 18 t118 t119 _ A5.out).mono ?_); rintro e w9 ⟨rfl, hb⟩; refine ⟨_, rfl, ?_⟩; replace BK108 := Aside0.mk (bb_ BK108.out hb); replace HB := Aside0.mk (below_step (hs_) hb); (try clear hb); (try clear hb2); (try clear hk); (try clear hi)) | ((with_reducible refine gate_callee (f := 84) rfl ?_); refine goesL_ (some 42) rfl rfl Tryz.func84 (by kernel_rfl) rfl #[.string t116] rfl z2_ ?_; (with_reducible refine (commit_zone.calls k t116 t120 t121 _ A6.out).mono ?_); rintro e w10 ⟨rfl, hb⟩; refine ⟨_, rfl, ?_⟩; replace BK108 := Aside0.mk (bb_ BK108.out hb); replace HB := Aside0.mk (below_step (hs_) hb); (try clear hb); (try clear hb2); (try clear hk); (try clear hi)))
 (try simp only [Act.put, List.setIfInBounds_toArray, List.set_cons_zero, List.set_cons_succ])
 go_cut [68] (fun v68 wc => ∃ (kq : Nat) (x68_6 : Bool), v68 = .bool x68_6 ∧ Aside0 (commit_ParseWho.j0 kq t109 t112 t118 t120 x68_6 = some (r1, r2, r3, r4, r5)) ∧ Aside0 (kq ≤ k) ∧ Aside0 (wc.heap[gb108]? = some (.cells #[.string (⟨#[]⟩ : ByteArray), .string (⟨#[]⟩ : ByteArray), .int .i64 0, .int .i64 0] 24 (0, 0))) ∧ Aside0 (Below w.heap.size w wc))
 case first =>
  have H := HC7.out
  clear HC7
  by_cases c11 : t111 = true
  ·subst c11
   have H1 : (if t114 = true then (if t117 = true then (if t119 = true then (if t121 = true then (if t109.size + t112.size ≤ 9223372036854775807 then ((strings_ContainsAny.f (t109 ++ t112) (⟨#[60, 62]⟩ : ByteArray)).bind fun t122 => (commit_ParseWho.j0 k t109 t112 t118 t120 t122)) else (none)) else (commit_ParseWho.j0 k t109 t112 t118 t120 true)) else (commit_ParseWho.j0 k t109 t112 t118 t120 true)) else (commit_ParseWho.j0 k t109 t112 t118 t120 true)) else (commit_ParseWho.j0 k t109 t112 t118 t120 true)) = some (r1, r2, r3, r4, r5) := by rw [if_pos rfl] at H; exact H
   clear H
   have H := H1
   clear H1
   by_cases c12 : t114 = true
   ·subst c12
    have H1 : (if t117 = true then (if t119 = true then (if t121 = true then (if t109.size + t112.size ≤ 9223372036854775807 then ((strings_ContainsAny.f (t109 ++ t112) (⟨#[60, 62]⟩ : ByteArray)).bind fun t122 => (commit_ParseWho.j0 k t109 t112 t118 t120 t122)) else (none)) else (commit_ParseWho.j0 k t109 t112 t118 t120 true)) else (commit_ParseWho.j0 k t109 t112 t118 t120 true)) else (commit_ParseWho.j0 k t109 t112 t118 t120 true)) = some (r1, r2, r3, r4, r5) := by rw [if_pos rfl] at H; exact H
    clear H
    have H := H1
    clear H1
    by_cases c13 : t117 = true
    ·subst c13
     have H1 : (if t119 = true then (if t121 = true then (if t109.size + t112.size ≤ 9223372036854775807 then ((strings_ContainsAny.f (t109 ++ t112) (⟨#[60, 62]⟩ : ByteArray)).bind fun t122 => (commit_ParseWho.j0 k t109 t112 t118 t120 t122)) else (none)) else (commit_ParseWho.j0 k t109 t112 t118 t120 true)) else (commit_ParseWho.j0 k t109 t112 t118 t120 true)) = some (r1, r2, r3, r4, r5) := by rw [if_pos rfl] at H; exact H
     clear H
     have H := H1
     clear H1
     by_cases c14 : t119 = true
     ·subst c14
      have H1 : (if t121 = true then (if t109.size + t112.size ≤ 9223372036854775807 then ((strings_ContainsAny.f (t109 ++ t112) (⟨#[60, 62]⟩ : ByteArray)).bind fun t122 => (commit_ParseWho.j0 k t109 t112 t118 t120 t122)) else (none)) else (commit_ParseWho.j0 k t109 t112 t118 t120 true)) = some (r1, r2, r3, r4, r5) := by rw [if_pos rfl] at H; exact H
      clear H
      have H := H1
      clear H1
      by_cases c15 : t121 = true
      ·subst c15
       have H1 : (if t109.size + t112.size ≤ 9223372036854775807 then ((strings_ContainsAny.f (t109 ++ t112) (⟨#[60, 62]⟩ : ByteArray)).bind fun t122 => (commit_ParseWho.j0 k t109 t112 t118 t120 t122)) else (none)) = some (r1, r2, r3, r4, r5) := by rw [if_pos rfl] at H; exact H
       clear H
       have H := H1
       clear H1
       by_cases c16 : t109.size + t112.size ≤ 9223372036854775807
       ·rw [if_pos c16] at H
        have c16b0 := eq_true c16
        have c16b1 := decide_eq_true c16
        try have c16b2 := nl_ c16
        replace H := Option.bind_eq_some_iff.mp H
        obtain ⟨t122, A170, H⟩ := H
        have A17 := Aside0.mk A170
        clear A170
        have H' := Aside0.mk H
        clear H
        go_wp2_with (first | (go_at_call 85; (with_reducible refine (strings_ContainsAny.calls (t109 ++ t112) (⟨#[60, 62]⟩ : ByteArray) t122 _ A17.out).mono ?_); rintro e w18 ⟨rfl, hb⟩; replace BK108 := Aside0.mk (bb_ BK108.out hb); replace HB := Aside0.mk (below_step (hs_) hb); (try clear hb); (try clear hb2); (try clear hk); (try clear hi)))
        go_meet
        case rel => exact ⟨_, (t122), z1_, H', ⟨z5_⟩, ⟨bk_ BK108.out⟩, ⟨hs_⟩⟩
       ·rw [if_neg c16] at H
        exact absurd H (by simp)
      ·replace c15 := Bool.eq_false_iff.mpr c15
       subst c15
       have H1 : (commit_ParseWho.j0 k t109 t112 t118 t120 true) = some (r1, r2, r3, r4, r5) := by rw [if_neg (show ¬ (false = true) by decide)] at H; exact H
       clear H
       have H := H1
       clear H1
       have H' := Aside0.mk H
       clear H
       go_wp2
       go_meet
       case rel => exact ⟨_, (true), z1_, H', ⟨z5_⟩, ⟨bk_ BK108.out⟩, ⟨hs_⟩⟩
     ·replace c14 := Bool.eq_false_iff.mpr c14
      subst c14
      have H1 : (commit_ParseWho.j0 k t109 t112 t118 t120 true) = some (r1, r2, r3, r4, r5) := by rw [if_neg (show ¬ (false = true) by decide)] at H; exact H
      clear H
      have H := H1
      clear H1
      have H' := Aside0.mk H
      clear H
      go_wp2
      go_meet
      case rel => exact ⟨_, (true), z1_, H', ⟨z5_⟩, ⟨bk_ BK108.out⟩, ⟨hs_⟩⟩
    ·replace c13 := Bool.eq_false_iff.mpr c13
     subst c13
     have H1 : (commit_ParseWho.j0 k t109 t112 t118 t120 true) = some (r1, r2, r3, r4, r5) := by rw [if_neg (show ¬ (false = true) by decide)] at H; exact H
     clear H
     have H := H1
     clear H1
     have H' := Aside0.mk H
     clear H
     go_wp2
     go_meet
     case rel => exact ⟨_, (true), z1_, H', ⟨z5_⟩, ⟨bk_ BK108.out⟩, ⟨hs_⟩⟩
   ·replace c12 := Bool.eq_false_iff.mpr c12
    subst c12
    have H1 : (commit_ParseWho.j0 k t109 t112 t118 t120 true) = some (r1, r2, r3, r4, r5) := by rw [if_neg (show ¬ (false = true) by decide)] at H; exact H
    clear H
    have H := H1
    clear H1
    have H' := Aside0.mk H
    clear H
    go_wp2
    go_meet
    case rel => exact ⟨_, (true), z1_, H', ⟨z5_⟩, ⟨bk_ BK108.out⟩, ⟨hs_⟩⟩
  ·replace c11 := Bool.eq_false_iff.mpr c11
   subst c11
   have H1 : (commit_ParseWho.j0 k t109 t112 t118 t120 true) = some (r1, r2, r3, r4, r5) := by rw [if_neg (show ¬ (false = true) by decide)] at H; exact H
   clear H
   have H := H1
   clear H1
   have H' := Aside0.mk H
   clear H
   go_wp2
   go_meet
   case rel => exact ⟨_, (true), z1_, H', ⟨z5_⟩, ⟨bk_ BK108.out⟩, ⟨hs_⟩⟩
 case rest =>
  clear HC7
  try clear c1
  try clear c2
  try clear p2
  try clear c8
  try clear c11
  try clear c12
  try clear c13
  try clear c14
  try clear c15
  try clear c16
  try clear c16b0
  try clear c16b1
  try clear c16b2
  obtain ⟨kq, x68_6, rfl, HA, HJ6, BK108, HB⟩ := hcut
  cases kq with
  | zero => exact absurd HA.out (by simp [commit_ParseWho.j0])
  | succ kj6 =>
   have H := HA.out
   clear HA
   simp only [commit_ParseWho.j0] at H
   by_cases c19 : x68_6 = true
   ·subst c19
    have H1 : (some ((⟨#[]⟩ : ByteArray), (⟨#[]⟩ : ByteArray), 0, 0, 2)) = some (r1, r2, r3, r4, r5) := by rw [if_pos rfl] at H; exact H
    clear H
    have H := H1
    clear H1
    simp only [Option.some.injEq, Prod.mk.injEq] at H
    obtain ⟨rfl, rfl, rfl, rfl, rfl⟩ := H
    obtain ⟨hcz20_0, hcz20_1, hcz20_2, hcz20_3, hfz20_0, hfz20_1, hfz20_2, hfz20_3⟩ := bc4 BK108.out
    go_wp2
    refine bodyPost_ret (results_ct rfl _ _ gb108 24 #[.string (⟨#[]⟩ : ByteArray), .string (⟨#[]⟩ : ByteArray), .int .i64 0, .int .i64 0] (0, 0) _ rfl (by have b_ := BK108; exact zb_) Tryz.underlying24 rfl (by kernel_rfl)) rfl ?_
    exact ⟨z4_, hs_⟩
   ·replace c19 := Bool.eq_false_iff.mpr c19
    subst c19
    have H1 : ((commit_somebody.f kj6 t109 t112 t118 t120).bind fun t124 => (if t124 = true then (some (t109, t112, t118, t120, 0)) else (some ((⟨#[]⟩ : ByteArray), (⟨#[]⟩ : ByteArray), 0, 0, 1)))) = some (r1, r2, r3, r4, r5) := by rw [if_neg (show ¬ (false = true) by decide)] at H; exact H
    clear H
    have H := H1
    clear H1
    replace H := Option.bind_eq_some_iff.mp H
    obtain ⟨t124, A210, H⟩ := H
    have A21 := Aside0.mk A210
    clear A210
    by_cases c22 : t124 = true
    ·subst c22
     have H1 : (some (t109, t112, t118, t120, 0)) = some (r1, r2, r3, r4, r5) := by rw [if_pos rfl] at H; exact H
     clear H
     have H := H1
     clear H1
     simp only [Option.some.injEq, Prod.mk.injEq] at H
     obtain ⟨rfl, rfl, rfl, rfl, rfl⟩ := H
     go_wp2_with (first | ((with_reducible refine gate_dst (N := 16) rfl ?_); refine be_ (cs := #[.string (⟨#[]⟩ : ByteArray), .string (⟨#[]⟩ : ByteArray), .int .i64 0, .int .i64 0]) (t := 24) ?_; intro gb123 hg w23 hbox hb; have BK123 := Aside0.mk (hbox); have GW123 := Aside0.mk ((by rw [hg]; exact (below_size (hs_)) : w.heap.size ≤ gb123)); have GE123 := Aside0.mk ((by rw [hg]; exact (below_size (hs_)) : w.heap.size ≤ gb123)); replace HB := Aside0.mk (below_step (hs_) hb); have NB108_123 := Aside0.mk (nl2_ hg BK108.out); have NB123_108 := Aside0.mk (ng2_ hg BK108.out); replace BK108 := Aside0.mk (bb_ BK108.out hb); clear hb hbox hg; have hnb24 := NB123_108.out; have hnc24 := NB108_123.out; obtain ⟨hcz25_0, hcz25_1, hcz25_2, hcz25_3, hfz25_0, hfz25_1, hfz25_2, hfz25_3⟩ := bc4 BK123.out) | ((with_reducible refine gate_callee (f := 67) rfl ?_); refine goesL_ (some 76) rfl rfl Tryz.func67 (by kernel_rfl) rfl #[.agg #[.string t109, .string t112, .int .i64 t118, .int .i64 t120]] rfl z2_ ?_; (with_reducible refine (commit_somebody.calls kj6 t109 t112 t118 t120 true _ A21.out).mono ?_); rintro e w26 ⟨rfl, hb⟩; refine ⟨_, rfl, ?_⟩; replace BK108 := Aside0.mk (blk_below (g := gb108) (o := .cells #[.string (⟨#[]⟩ : ByteArray), .string (⟨#[]⟩ : ByteArray), .int .i64 0, .int .i64 0] 24 (0, 0)) (by have b_ := BK108; have f_ := NB108_123; exact zb_) hb); replace BK123 := Aside0.mk (blk_below (g := gb123) (o := .cells #[.string t109, .string t112, .int .i64 t118, .int .i64 t120] 24 (0, 0)) (by have b_ := BK123; exact zb_) hb); replace HB := Aside0.mk (below_step (hs_) hb); (try clear hb); (try clear hb2); (try clear hk); (try clear hi); obtain ⟨hcz27_0, hcz27_1, hcz27_2, hcz27_3, hfz27_0, hfz27_1, hfz27_2, hfz27_3⟩ := bc4 BK123.out; obtain ⟨hcz28_0, hcz28_1, hcz28_2, hcz28_3, hfz28_0, hfz28_1, hfz28_2, hfz28_3⟩ := bc4 BK108.out))
     refine bodyPost_ret (results_ct rfl _ _ gb108 24 #[.string t109, .string t112, .int .i64 t118, .int .i64 t120] (0, 0) _ rfl (by have b_ := BK108; exact zb_) Tryz.underlying24 rfl (by kernel_rfl)) rfl ?_
     exact ⟨z4_, hs_⟩
    ·replace c22 := Bool.eq_false_iff.mpr c22
     subst c22
     have H1 : (some ((⟨#[]⟩ : ByteArray), (⟨#[]⟩ : ByteArray), 0, 0, 1)) = some (r1, r2, r3, r4, r5) := by rw [if_neg (show ¬ (false = true) by decide)] at H; exact H
     clear H
     have H := H1
     clear H1
     simp only [Option.some.injEq, Prod.mk.injEq] at H
     obtain ⟨rfl, rfl, rfl, rfl, rfl⟩ := H
     go_wp2_with (first | ((with_reducible refine gate_dst (N := 16) rfl ?_); refine be_ (cs := #[.string (⟨#[]⟩ : ByteArray), .string (⟨#[]⟩ : ByteArray), .int .i64 0, .int .i64 0]) (t := 24) ?_; intro gb123 hg w29 hbox hb; have BK123 := Aside0.mk (hbox); have GW123 := Aside0.mk ((by rw [hg]; exact (below_size (hs_)) : w.heap.size ≤ gb123)); have GE123 := Aside0.mk ((by rw [hg]; exact (below_size (hs_)) : w.heap.size ≤ gb123)); replace HB := Aside0.mk (below_step (hs_) hb); have NB108_123 := Aside0.mk (nl2_ hg BK108.out); have NB123_108 := Aside0.mk (ng2_ hg BK108.out); replace BK108 := Aside0.mk (bb_ BK108.out hb); clear hb hbox hg; have hnb30 := NB123_108.out; have hnc30 := NB108_123.out; obtain ⟨hcz31_0, hcz31_1, hcz31_2, hcz31_3, hfz31_0, hfz31_1, hfz31_2, hfz31_3⟩ := bc4 BK123.out) | ((with_reducible refine gate_callee (f := 67) rfl ?_); refine goesL_ (some 76) rfl rfl Tryz.func67 (by kernel_rfl) rfl #[.agg #[.string t109, .string t112, .int .i64 t118, .int .i64 t120]] rfl z2_ ?_; (with_reducible refine (commit_somebody.calls kj6 t109 t112 t118 t120 false _ A21.out).mono ?_); rintro e w32 ⟨rfl, hb⟩; refine ⟨_, rfl, ?_⟩; replace BK108 := Aside0.mk (blk_below (g := gb108) (o := .cells #[.string (⟨#[]⟩ : ByteArray), .string (⟨#[]⟩ : ByteArray), .int .i64 0, .int .i64 0] 24 (0, 0)) (by have b_ := BK108; have f_ := NB108_123; exact zb_) hb); replace BK123 := Aside0.mk (blk_below (g := gb123) (o := .cells #[.string t109, .string t112, .int .i64 t118, .int .i64 t120] 24 (0, 0)) (by have b_ := BK123; exact zb_) hb); replace HB := Aside0.mk (below_step (hs_) hb); (try clear hb); (try clear hb2); (try clear hk); (try clear hi); obtain ⟨hcz33_0, hcz33_1, hcz33_2, hcz33_3, hfz33_0, hfz33_1, hfz33_2, hfz33_3⟩ := bc4 BK108.out))
     refine bodyPost_ret (results_ct rfl _ _ gb108 24 #[.string (⟨#[]⟩ : ByteArray), .string (⟨#[]⟩ : ByteArray), .int .i64 0, .int .i64 0] (0, 0) _ rfl (by have b_ := BK108; exact zb_) Tryz.underlying24 rfl (by kernel_rfl)) rfl ?_
     exact ⟨z4_, hs_⟩


def commit_reader_who.f (k : Nat) (s0_0 : ByteArray) (s0_1 : Int) (a1 : ByteArray) : Option (ByteArray × ByteArray × Int × Int × ByteArray × Int) := (commit_reader_line.f s0_0 s0_1 a1).bind fun bt108 => ((commit_ParseWho.f k bt108.1).bind fun bt111 => (if bt111.2.2.2.2 = 0 then (some (bt111.1, bt111.2.1, bt111.2.2.1, bt111.2.2.2.1, bt108.2.1, bt108.2.2)) else ((commit_reader_fail.f bt108.2.1 bt108.2.2 bt111.2.2.2.2).bind fun bt117 => (some (bt111.1, bt111.2.1, bt111.2.2.1, bt111.2.2.2.1, bt117.1, bt117.2)))))
theorem commit_reader_who.mono : ∀ a0 a1 a2 k, LeO (commit_reader_who.f k a0 a1 a2) (commit_reader_who.f (k + 1) a0 a1 a2) := by
 intro a0 a1 a2 k
 unfold commit_reader_who.f
 have m0_ := @commit_ParseWho.mono
 exact mz_
set_option maxHeartbeats 8000000 in
set_option maxRecDepth 100000 in
theorem commit_reader_who.calls (k : Nat) (g : Nat) (s0_0 : ByteArray) (s0_1 : Int) (a1 : ByteArray) (r1 : ByteArray) (r2 : ByteArray) (r3 : Int) (r4 : Int) (r5 : ByteArray) (r6 : Int) (w0 w : World) (hI : IsS87 w0 w g s0_0 s0_1) (hB : Below w0.heap.size w0 w) (hgv : GV w0) (h : commit_reader_who.f k s0_0 s0_1 a1 = some (r1, r2, r3, r4, r5, r6)) :
  Calls Tryz.prog 72 #[.pointer (some ⟨g, 0, none⟩), .string a1] w fun e w' => e = .returned (.agg #[.string r1, .string r2, .int .i64 r3, .int .i64 r4]) ∧ IsS87 w0 w' g r5 r6 ∧ Below w0.heap.size w0 w' ∧ KeepBut w w' g none := by
 have hu24 := Tryz.underlying24
 have HI0 := Aside0.mk hI
 have HK := Aside0.mk (KeepBut.refl w g none)
 have HL := Aside0.mk hB.size
 clear hI
 have HW0 := Aside0.mk hB.size
 have HB := Aside0.mk hB
 clear hB
 have H : ((commit_reader_line.f s0_0 s0_1 a1).bind fun bt108 => ((commit_ParseWho.f k bt108.1).bind fun bt111 => (if bt111.2.2.2.2 = 0 then (some (bt111.1, bt111.2.1, bt111.2.2.1, bt111.2.2.2.1, bt108.2.1, bt108.2.2)) else ((commit_reader_fail.f bt108.2.1 bt108.2.2 bt111.2.2.2.2).bind fun bt117 => (some (bt111.1, bt111.2.1, bt111.2.2.1, bt111.2.2.2.1, bt117.1, bt117.2)))))) = some (r1, r2, r3, r4, r5, r6) := h
 clear h
 replace H := Option.bind_eq_some_iff.mp H
 obtain ⟨⟨t108, t109, t110⟩, A30, H⟩ := H
 replace H : ((commit_ParseWho.f k t108).bind fun bt111 => (if bt111.2.2.2.2 = 0 then (some (bt111.1, bt111.2.1, bt111.2.2.1, bt111.2.2.2.1, t109, t110)) else ((commit_reader_fail.f t109 t110 bt111.2.2.2.2).bind fun bt117 => (some (bt111.1, bt111.2.1, bt111.2.2.1, bt111.2.2.2.1, bt117.1, bt117.2))))) = some (r1, r2, r3, r4, r5, r6) := H
 have A3 := Aside0.mk A30
 clear A30
 replace H := Option.bind_eq_some_iff.mp H
 obtain ⟨⟨t111, t112, t113, t114, t115⟩, A40, H⟩ := H
 replace H : (if t115 = 0 then (some (t111, t112, t113, t114, t109, t110)) else ((commit_reader_fail.f t109 t110 t115).bind fun bt117 => (some (t111, t112, t113, t114, bt117.1, bt117.2)))) = some (r1, r2, r3, r4, r5, r6) := H
 have A4 := Aside0.mk A40
 clear A40
 by_cases c5 : t115 = 0
 ·rw [if_pos c5] at H
  have c5b0 := beq_iff_eq.mpr c5
  have c5b1 := bne_eq_false_iff_eq.mpr c5
  clear c5
  simp only [Option.some.injEq, Prod.mk.injEq] at H
  obtain ⟨rfl, rfl, rfl, rfl, rfl, rfl⟩ := H
  go_enter Tryz.func72, Tryz.ntmps72
  go_wp2_with (first | ((with_reducible refine gate_dst (N := 4) rfl ?_); refine be_ (cs := #[.string (⟨#[]⟩ : ByteArray), .string (⟨#[]⟩ : ByteArray), .int .i64 0, .int .i64 0]) (t := 24) ?_; intro gb107 hg w6 hbox hb; replace HB := Aside0.mk (below_step z12_ hb); have BK107 := Aside0.mk (hbox); have GW107 := Aside0.mk ((by rw [hg]; exact (keep_size (w := w) (g := g) (row := none) z7_) : w.heap.size ≤ gb107)); have GE107 := Aside0.mk ((Nat.le_trans HW0.out (by rw [hg]; exact (keep_size (w := w) (g := g) (row := none) z7_) : w.heap.size ≤ gb107) : w0.heap.size ≤ gb107)); replace HK := Aside0.mk (KeepBut.trans z7_ (KeepBut.of_below hb g none) (.inl rfl)); have NB0_107 := Aside0.mk ((by rw [hg]; exact Nat.ne_of_lt (IsS87.lt (show IsS87 w0 _ g s0_0 s0_1 from z11_)) : g ≠ gb107)); have NB107_0 := Aside0.mk ((by rw [hg]; exact Nat.ne_of_gt (IsS87.lt (show IsS87 w0 _ g s0_0 s0_1 from z11_)) : gb107 ≠ g)); replace HI0 := Aside0.mk (IsS87.below z11_ hb); clear hb hbox hg) | ((with_reducible refine gate_callee (f := 73) rfl ?_); refine goesL_ (some 10) rfl rfl Tryz.func73 (by kernel_rfl) rfl #[.pointer (some ⟨g, 0, none⟩), .string a1] rfl z2_ ?_; (with_reducible refine (commit_reader_line.calls g s0_0 s0_1 a1 t108 t109 t110 w0 _ ?side1 ?side2 ?side3 A3.out).mono ?_); (case side1 => repeat (first | (with_reducible first | exact HI0.out | apply IsS87.alloc | apply IsS87.drewN | apply IsS87.drew | apply IsS87.set_0 | apply IsS87.set_1 | refine IsS87.far ?_ NB0_107.out _) | exact HI0.out)); (case side2 => repeat (first | (with_reducible first | exact HB.out | apply below_alloc | apply pw_below_drewN | apply below_drew1 | refine below_set ?_ (IsS87.ge HI0.out) | refine below_set ?_ GE107.out) | exact HB.out)); (case side3 => exact hgv); rintro e w7 ⟨rfl, hi, hb, hk⟩; refine ⟨_, rfl, ?_⟩; replace BK107 := Aside0.mk (KeepBut.blk hk (g' := gb107) (o := .cells #[.string (⟨#[]⟩ : ByteArray), .string (⟨#[]⟩ : ByteArray), .int .i64 0, .int .i64 0] 24 (0, 0)) (bk_ BK107.out) NB107_0.out (by simp)); replace HK := Aside0.mk (KeepBut.trans z15_ hk (.inl rfl)); replace HB := Aside0.mk (hb); replace HI0 := Aside0.mk (hi); (try clear hb); (try clear hb2); (try clear hk); (try clear hi)) | ((with_reducible refine gate_callee (f := 29) rfl ?_); refine goesL_ (some 11) rfl rfl Tryz.func29 (by kernel_rfl) rfl #[.string t108] rfl z2_ ?_; (with_reducible refine (commit_ParseWho.calls k t108 t111 t112 t113 t114 t115 _ ?side1 A4.out).mono ?_); (case side1 => exact GV.below hgv z26_); rintro e w8 ⟨rfl, hb⟩; refine ⟨_, rfl, ?_⟩; replace BK107 := Aside0.mk (bb_ BK107.out hb); replace HK := Aside0.mk (KeepBut.trans z15_ (KeepBut.of_below hb g none) (.inl rfl)); replace HB := Aside0.mk (below_step z26_ hb); replace HI0 := Aside0.mk (IsS87.below z21_ hb); (try clear hb); (try clear hb2); (try clear hk); (try clear hi)) | ((with_reducible refine gate_dst (N := 5) rfl ?_); refine be_ (cs := #[.string (⟨#[]⟩ : ByteArray), .string (⟨#[]⟩ : ByteArray), .int .i64 0, .int .i64 0]) (t := 24) ?_; intro gb116 hg w9 hbox hb; replace HB := Aside0.mk (below_step z26_ hb); have BK116 := Aside0.mk (hbox); have GW116 := Aside0.mk ((by rw [hg]; exact (keep_size (w := w) (g := g) (row := none) z15_) : w.heap.size ≤ gb116)); have GE116 := Aside0.mk ((Nat.le_trans HW0.out (by rw [hg]; exact (keep_size (w := w) (g := g) (row := none) z15_) : w.heap.size ≤ gb116) : w0.heap.size ≤ gb116)); replace HK := Aside0.mk (KeepBut.trans z15_ (KeepBut.of_below hb g none) (.inl rfl)); have NB107_116 := Aside0.mk (nl2_ hg BK107.out); have NB116_107 := Aside0.mk (ng2_ hg BK107.out); replace BK107 := Aside0.mk (bb_ BK107.out hb); have NB0_116 := Aside0.mk ((by rw [hg]; exact Nat.ne_of_lt (IsS87.lt (show IsS87 w0 _ g t109 t110 from z21_)) : g ≠ gb116)); have NB116_0 := Aside0.mk ((by rw [hg]; exact Nat.ne_of_gt (IsS87.lt (show IsS87 w0 _ g t109 t110 from z21_)) : gb116 ≠ g)); replace HI0 := Aside0.mk (IsS87.below z21_ hb); clear hb hbox hg; have hnb10 := NB116_107.out; have hnc10 := NB107_116.out; have hnb11 := NB116_0.out; have hnc11 := NB0_116.out; obtain ⟨hcz12_0, hcz12_1, hcz12_2, hcz12_3, hfz12_0, hfz12_1, hfz12_2, hfz12_3⟩ := bc4 BK116.out; have hnb13 := NB107_0.out; have hnc13 := NB0_107.out; obtain ⟨hcz14_0, hcz14_1, hcz14_2, hcz14_3, hfz14_0, hfz14_1, hfz14_2, hfz14_3⟩ := bc4 BK107.out))
  refine bodyPost_ret (results_cell_row rfl _ _ gb107 24 #[.string t111, .string t112, .int .i64 t113, .int .i64 t114] (0, 0) _ rfl (by have b_ := BK107; have f_ := NB107_116; exact zb_) Tryz.underlying24 rfl (by kernel_rfl)) rfl ?_
  exact ⟨z4_, by repeat (first | (with_reducible first | exact HI0.out | apply IsS87.alloc | apply IsS87.drewN | apply IsS87.drew | apply IsS87.set_0 | apply IsS87.set_1 | refine IsS87.far ?_ NB0_107.out _ | refine IsS87.far ?_ NB0_116.out _) | exact HI0.out), by repeat (first | (with_reducible first | exact HB.out | apply below_alloc | apply pw_below_drewN | apply below_drew1 | refine below_set ?_ (IsS87.ge HI0.out) | refine below_set ?_ GE107.out | refine below_set ?_ GE116.out) | exact HB.out), z37_⟩
 ·rw [if_neg c5] at H
  have c5b0 := beq_eq_false_iff_ne.mpr c5
  have c5b1 := bne_iff_ne.mpr c5
  replace H := Option.bind_eq_some_iff.mp H
  obtain ⟨⟨t117, t118⟩, A150, H⟩ := H
  replace H : (some (t111, t112, t113, t114, t117, t118)) = some (r1, r2, r3, r4, r5, r6) := H
  have A15 := Aside0.mk A150
  clear A150
  simp only [Option.some.injEq, Prod.mk.injEq] at H
  obtain ⟨rfl, rfl, rfl, rfl, rfl, rfl⟩ := H
  go_enter Tryz.func72, Tryz.ntmps72
  go_wp2_with (first | ((with_reducible refine gate_dst (N := 4) rfl ?_); refine be_ (cs := #[.string (⟨#[]⟩ : ByteArray), .string (⟨#[]⟩ : ByteArray), .int .i64 0, .int .i64 0]) (t := 24) ?_; intro gb107 hg w16 hbox hb; replace HB := Aside0.mk (below_step z12_ hb); have BK107 := Aside0.mk (hbox); have GW107 := Aside0.mk ((by rw [hg]; exact (keep_size (w := w) (g := g) (row := none) z7_) : w.heap.size ≤ gb107)); have GE107 := Aside0.mk ((Nat.le_trans HW0.out (by rw [hg]; exact (keep_size (w := w) (g := g) (row := none) z7_) : w.heap.size ≤ gb107) : w0.heap.size ≤ gb107)); replace HK := Aside0.mk (KeepBut.trans z7_ (KeepBut.of_below hb g none) (.inl rfl)); have NB0_107 := Aside0.mk ((by rw [hg]; exact Nat.ne_of_lt (IsS87.lt (show IsS87 w0 _ g s0_0 s0_1 from z11_)) : g ≠ gb107)); have NB107_0 := Aside0.mk ((by rw [hg]; exact Nat.ne_of_gt (IsS87.lt (show IsS87 w0 _ g s0_0 s0_1 from z11_)) : gb107 ≠ g)); replace HI0 := Aside0.mk (IsS87.below z11_ hb); clear hb hbox hg) | ((with_reducible refine gate_callee (f := 73) rfl ?_); refine goesL_ (some 10) rfl rfl Tryz.func73 (by kernel_rfl) rfl #[.pointer (some ⟨g, 0, none⟩), .string a1] rfl z2_ ?_; (with_reducible refine (commit_reader_line.calls g s0_0 s0_1 a1 t108 t109 t110 w0 _ ?side1 ?side2 ?side3 A3.out).mono ?_); (case side1 => repeat (first | (with_reducible first | exact HI0.out | apply IsS87.alloc | apply IsS87.drewN | apply IsS87.drew | apply IsS87.set_0 | apply IsS87.set_1 | refine IsS87.far ?_ NB0_107.out _) | exact HI0.out)); (case side2 => repeat (first | (with_reducible first | exact HB.out | apply below_alloc | apply pw_below_drewN | apply below_drew1 | refine below_set ?_ (IsS87.ge HI0.out) | refine below_set ?_ GE107.out) | exact HB.out)); (case side3 => exact hgv); rintro e w17 ⟨rfl, hi, hb, hk⟩; refine ⟨_, rfl, ?_⟩; replace BK107 := Aside0.mk (KeepBut.blk hk (g' := gb107) (o := .cells #[.string (⟨#[]⟩ : ByteArray), .string (⟨#[]⟩ : ByteArray), .int .i64 0, .int .i64 0] 24 (0, 0)) (bk_ BK107.out) NB107_0.out (by simp)); replace HK := Aside0.mk (KeepBut.trans z15_ hk (.inl rfl)); replace HB := Aside0.mk (hb); replace HI0 := Aside0.mk (hi); (try clear hb); (try clear hb2); (try clear hk); (try clear hi)) | ((with_reducible refine gate_callee (f := 29) rfl ?_); refine goesL_ (some 11) rfl rfl Tryz.func29 (by kernel_rfl) rfl #[.string t108] rfl z2_ ?_; (with_reducible refine (commit_ParseWho.calls k t108 t111 t112 t113 t114 t115 _ ?side1 A4.out).mono ?_); (case side1 => exact GV.below hgv z26_); rintro e w18 ⟨rfl, hb⟩; refine ⟨_, rfl, ?_⟩; replace BK107 := Aside0.mk (bb_ BK107.out hb); replace HK := Aside0.mk (KeepBut.trans z15_ (KeepBut.of_below hb g none) (.inl rfl)); replace HB := Aside0.mk (below_step z26_ hb); replace HI0 := Aside0.mk (IsS87.below z21_ hb); (try clear hb); (try clear hb2); (try clear hk); (try clear hi)) | ((with_reducible refine gate_dst (N := 5) rfl ?_); refine be_ (cs := #[.string (⟨#[]⟩ : ByteArray), .string (⟨#[]⟩ : ByteArray), .int .i64 0, .int .i64 0]) (t := 24) ?_; intro gb116 hg w19 hbox hb; replace HB := Aside0.mk (below_step z26_ hb); have BK116 := Aside0.mk (hbox); have GW116 := Aside0.mk ((by rw [hg]; exact (keep_size (w := w) (g := g) (row := none) z15_) : w.heap.size ≤ gb116)); have GE116 := Aside0.mk ((Nat.le_trans HW0.out (by rw [hg]; exact (keep_size (w := w) (g := g) (row := none) z15_) : w.heap.size ≤ gb116) : w0.heap.size ≤ gb116)); replace HK := Aside0.mk (KeepBut.trans z15_ (KeepBut.of_below hb g none) (.inl rfl)); have NB107_116 := Aside0.mk (nl2_ hg BK107.out); have NB116_107 := Aside0.mk (ng2_ hg BK107.out); replace BK107 := Aside0.mk (bb_ BK107.out hb); have NB0_116 := Aside0.mk ((by rw [hg]; exact Nat.ne_of_lt (IsS87.lt (show IsS87 w0 _ g t109 t110 from z21_)) : g ≠ gb116)); have NB116_0 := Aside0.mk ((by rw [hg]; exact Nat.ne_of_gt (IsS87.lt (show IsS87 w0 _ g t109 t110 from z21_)) : gb116 ≠ g)); replace HI0 := Aside0.mk (IsS87.below z21_ hb); clear hb hbox hg; have hnb20 := NB116_107.out; have hnc20 := NB107_116.out; have hnb21 := NB116_0.out; have hnc21 := NB0_116.out; obtain ⟨hcz22_0, hcz22_1, hcz22_2, hcz22_3, hfz22_0, hfz22_1, hfz22_2, hfz22_3⟩ := bc4 BK116.out) | ((with_reducible refine gate_callee (f := 74) rfl ?_); refine goesL_ (some 18) rfl rfl Tryz.func74 (by kernel_rfl) rfl #[.pointer (some ⟨g, 0, none⟩), .int .i64 t115] rfl z2_ ?_; (with_reducible refine (commit_reader_fail.calls g t109 t110 t115 t117 t118 w0 _ ?side1 ?side2 A15.out).mono ?_); (case side1 => repeat (first | (with_reducible first | exact HI0.out | apply IsS87.alloc | apply IsS87.drewN | apply IsS87.drew | apply IsS87.set_0 | apply IsS87.set_1 | refine IsS87.far ?_ NB0_107.out _ | refine IsS87.far ?_ NB0_116.out _) | exact HI0.out)); (case side2 => repeat (first | (with_reducible first | exact HB.out | apply below_alloc | apply pw_below_drewN | apply below_drew1 | refine below_set ?_ (IsS87.ge HI0.out) | refine below_set ?_ GE107.out | refine below_set ?_ GE116.out) | exact HB.out)); rintro e w23 ⟨rfl, hi, hb, hk⟩; refine ⟨_, rfl, ?_⟩; replace BK107 := Aside0.mk (KeepBut.blk hk (g' := gb107) (o := .cells #[.string (⟨#[]⟩ : ByteArray), .string (⟨#[]⟩ : ByteArray), .int .i64 0, .int .i64 0] 24 (0, 0)) (by have b_ := BK107; have f_ := NB107_116; exact zb_) NB107_0.out (by simp)); replace BK116 := Aside0.mk (KeepBut.blk hk (g' := gb116) (o := .cells #[.string t111, .string t112, .int .i64 t113, .int .i64 t114] 24 (0, 0)) (by have b_ := BK116; exact zb_) NB116_0.out (by simp)); replace HK := Aside0.mk (KeepBut.trans z37_ hk (.inl rfl)); replace HB := Aside0.mk (hb); replace HI0 := Aside0.mk (hi); (try clear hb); (try clear hb2); (try clear hk); (try clear hi); obtain ⟨hcz24_0, hcz24_1, hcz24_2, hcz24_3, hfz24_0, hfz24_1, hfz24_2, hfz24_3⟩ := bc4 BK116.out; have hnb25 := NB107_0.out; have hnc25 := NB0_107.out; obtain ⟨hcz26_0, hcz26_1, hcz26_2, hcz26_3, hfz26_0, hfz26_1, hfz26_2, hfz26_3⟩ := bc4 BK107.out))
  refine bodyPost_ret (results_cell_row rfl _ _ gb107 24 #[.string t111, .string t112, .int .i64 t113, .int .i64 t114] (0, 0) _ rfl (by have b_ := BK107; exact zb_) Tryz.underlying24 rfl (by kernel_rfl)) rfl ?_
  exact ⟨z4_, by repeat (first | (with_reducible first | exact HI0.out | apply IsS87.alloc | apply IsS87.drewN | apply IsS87.drew | apply IsS87.set_0 | apply IsS87.set_1 | refine IsS87.far ?_ NB0_107.out _ | refine IsS87.far ?_ NB0_116.out _) | exact HI0.out), by repeat (first | (with_reducible first | exact HB.out | apply below_alloc | apply pw_below_drewN | apply below_drew1 | refine below_set ?_ (IsS87.ge HI0.out) | refine below_set ?_ GE107.out | refine below_set ?_ GE116.out) | exact HB.out), z37_⟩


mutual
def commit_ParseTag.j0 : Nat → ByteArray → Int → ByteArray → Int → ByteArray → ByteArray → ByteArray → Int → Int → ByteArray → Option (ByteArray × Int × ByteArray × ByteArray × ByteArray × Int × Int × ByteArray × Int)
 | 0, _, _, _, _, _, _, _, _, _, _ => none
 | k + 1, x103000, x103001, x107000, x107001, x107002, x107003, x107004, x107005, x107006, x107007 => (commit_reader_line.f x103000 x103001 (⟨#[116, 97, 103, 32]⟩ : ByteArray)).bind fun bt113 => ((commit_reader_who.f k bt113.2.1 bt113.2.2 (⟨#[116, 97, 103, 103, 101, 114, 32]⟩ : ByteArray)).bind fun bt116 => ((commit_reader_line.f bt116.2.2.2.2.1 bt116.2.2.2.2.2 (⟨#[]⟩ : ByteArray)).bind fun bt122 => (if bt122.1.toList = ([] : List UInt8) then (commit_ParseTag.j1 k bt122.2.1 bt122.2.2 x107000 x107001 bt113.1 bt116.1 bt116.2.1 bt116.2.2.1 bt116.2.2.2.1 x107007) else ((commit_reader_fail.f bt122.2.1 bt122.2.2 2).bind fun bt125 => (commit_ParseTag.j1 k bt125.1 bt125.2 x107000 x107001 bt113.1 bt116.1 bt116.2.1 bt116.2.2.1 bt116.2.2.2.1 x107007)))))
def commit_ParseTag.j1 : Nat → ByteArray → Int → ByteArray → Int → ByteArray → ByteArray → ByteArray → Int → Int → ByteArray → Option (ByteArray × Int × ByteArray × ByteArray × ByteArray × Int × Int × ByteArray × Int)
 | 0, _, _, _, _, _, _, _, _, _, _ => none
 | k + 1, x103000, x103001, x107000, x107001, x107002, x107003, x107004, x107005, x107006, x107007 => if x103001 = 0 then ((commit_CheckTag.f k x107000 x107001 x107002 x107003 x107004 x107005 x107006 x103000).bind fun t127 => (if t127 = 0 then (some (x107000, x107001, x107002, x107003, x107004, x107005, x107006, x103000, 0)) else (some ((⟨#[]⟩ : ByteArray), 0, (⟨#[]⟩ : ByteArray), (⟨#[]⟩ : ByteArray), (⟨#[]⟩ : ByteArray), 0, 0, (⟨#[]⟩ : ByteArray), t127)))) else (some ((⟨#[]⟩ : ByteArray), 0, (⟨#[]⟩ : ByteArray), (⟨#[]⟩ : ByteArray), (⟨#[]⟩ : ByteArray), 0, 0, (⟨#[]⟩ : ByteArray), x103001))
end
def commit_ParseTag.f (k : Nat) (a0 : ByteArray) : Option (ByteArray × Int × ByteArray × ByteArray × ByteArray × Int × Int × ByteArray × Int) := (commit_reader_id.f k a0 0 (⟨#[111, 98, 106, 101, 99, 116, 32]⟩ : ByteArray)).bind fun bt103 => ((commit_reader_line.f bt103.2.1 bt103.2.2 (⟨#[116, 121, 112, 101, 32]⟩ : ByteArray)).bind fun bt107 => ((object_Kind.f bt107.1).bind fun t110 => (if t110 = 0 then ((commit_reader_fail.f bt107.2.1 bt107.2.2 2).bind fun bt111 => (commit_ParseTag.j0 k bt111.1 bt111.2 bt103.1 t110 (⟨#[]⟩ : ByteArray) (⟨#[]⟩ : ByteArray) (⟨#[]⟩ : ByteArray) 0 0 (⟨#[]⟩ : ByteArray))) else (commit_ParseTag.j0 k bt107.2.1 bt107.2.2 bt103.1 t110 (⟨#[]⟩ : ByteArray) (⟨#[]⟩ : ByteArray) (⟨#[]⟩ : ByteArray) 0 0 (⟨#[]⟩ : ByteArray)))))
theorem commit_ParseTag.mono_l : ∀ k, (∀ y0 y1 y2 y3 y4 y5 y6 y7 y8 y9, LeO (commit_ParseTag.j0 k y0 y1 y2 y3 y4 y5 y6 y7 y8 y9) (commit_ParseTag.j0 (k + 1) y0 y1 y2 y3 y4 y5 y6 y7 y8 y9)) ∧ (∀ y0 y1 y2 y3 y4 y5 y6 y7 y8 y9, LeO (commit_ParseTag.j1 k y0 y1 y2 y3 y4 y5 y6 y7 y8 y9) (commit_ParseTag.j1 (k + 1) y0 y1 y2 y3 y4 y5 y6 y7 y8 y9))
 | 0 => ⟨fun _ _ _ _ _ _ _ _ _ _ r h => by simp [commit_ParseTag.j0] at h, fun _ _ _ _ _ _ _ _ _ _ r h => by simp [commit_ParseTag.j1] at h⟩
 | k + 1 => by
  obtain ⟨ih0, ih1⟩ := commit_ParseTag.mono_l k
  refine ⟨?_, ?_⟩
  ·intro y0 y1 y2 y3 y4 y5 y6 y7 y8 y9
   unfold commit_ParseTag.j0
   have m0_ := @ih0
   have m1_ := @ih1
   have m2_ := @commit_CheckTag.mono
   have m3_ := @commit_reader_id.mono
   have m4_ := @commit_reader_who.mono
   exact mz_
  ·intro y0 y1 y2 y3 y4 y5 y6 y7 y8 y9
   unfold commit_ParseTag.j1
   have m0_ := @ih0
   have m1_ := @ih1
   have m2_ := @commit_CheckTag.mono
   have m3_ := @commit_reader_id.mono
   have m4_ := @commit_reader_who.mono
   exact mz_
theorem commit_ParseTag.mono : ∀ a0 k, LeO (commit_ParseTag.f k a0) (commit_ParseTag.f (k + 1) a0) := by
 intro a0 k
 obtain ⟨ih0, ih1⟩ := commit_ParseTag.mono_l k
 unfold commit_ParseTag.f
 have m0_ := @ih0
 have m1_ := @ih1
 have m2_ := @commit_CheckTag.mono
 have m3_ := @commit_reader_id.mono
 have m4_ := @commit_reader_who.mono
 exact mz_
set_option maxHeartbeats 8000000 in
set_option maxRecDepth 100000 in
theorem commit_ParseTag.calls (k : Nat) (a0 : ByteArray) (r1 : ByteArray) (r2 : Int) (r3 : ByteArray) (r4 : ByteArray) (r5 : ByteArray) (r6 : Int) (r7 : Int) (r8 : ByteArray) (r9 : Int) (w : World) (hgv : GV w) (h : commit_ParseTag.f k a0 = some (r1, r2, r3, r4, r5, r6, r7, r8, r9)) :
  Calls Tryz.prog 23 #[.string a0] w fun e w' => e = .returned (.tuple #[.agg #[.string r1, .int .i64 r2, .string r3, .string r4, .string r5, .int .i64 r6, .int .i64 r7, .string r8], .int .i64 r9]) ∧ Below w.heap.size w w' := by
 have hu37 := Tryz.underlying37
 have hu87 := Tryz.underlying87
 have hu24 := Tryz.underlying24
 have HB := Aside0.mk (Below.refl w.heap.size w)
 have H : ((commit_reader_id.f k a0 0 (⟨#[111, 98, 106, 101, 99, 116, 32]⟩ : ByteArray)).bind fun bt103 => ((commit_reader_line.f bt103.2.1 bt103.2.2 (⟨#[116, 121, 112, 101, 32]⟩ : ByteArray)).bind fun bt107 => ((object_Kind.f bt107.1).bind fun t110 => (if t110 = 0 then ((commit_reader_fail.f bt107.2.1 bt107.2.2 2).bind fun bt111 => (commit_ParseTag.j0 k bt111.1 bt111.2 bt103.1 t110 (⟨#[]⟩ : ByteArray) (⟨#[]⟩ : ByteArray) (⟨#[]⟩ : ByteArray) 0 0 (⟨#[]⟩ : ByteArray))) else (commit_ParseTag.j0 k bt107.2.1 bt107.2.2 bt103.1 t110 (⟨#[]⟩ : ByteArray) (⟨#[]⟩ : ByteArray) (⟨#[]⟩ : ByteArray) 0 0 (⟨#[]⟩ : ByteArray)))))) = some (r1, r2, r3, r4, r5, r6, r7, r8, r9) := h
 clear h
 replace H := Option.bind_eq_some_iff.mp H
 obtain ⟨⟨t103, t104, t105⟩, A20, H⟩ := H
 replace H : ((commit_reader_line.f t104 t105 (⟨#[116, 121, 112, 101, 32]⟩ : ByteArray)).bind fun bt107 => ((object_Kind.f bt107.1).bind fun t110 => (if t110 = 0 then ((commit_reader_fail.f bt107.2.1 bt107.2.2 2).bind fun bt111 => (commit_ParseTag.j0 k bt111.1 bt111.2 t103 t110 (⟨#[]⟩ : ByteArray) (⟨#[]⟩ : ByteArray) (⟨#[]⟩ : ByteArray) 0 0 (⟨#[]⟩ : ByteArray))) else (commit_ParseTag.j0 k bt107.2.1 bt107.2.2 t103 t110 (⟨#[]⟩ : ByteArray) (⟨#[]⟩ : ByteArray) (⟨#[]⟩ : ByteArray) 0 0 (⟨#[]⟩ : ByteArray))))) = some (r1, r2, r3, r4, r5, r6, r7, r8, r9) := H
 have A2 := Aside0.mk A20
 clear A20
 replace H := Option.bind_eq_some_iff.mp H
 obtain ⟨⟨t107, t108, t109⟩, A30, H⟩ := H
 replace H : ((object_Kind.f t107).bind fun t110 => (if t110 = 0 then ((commit_reader_fail.f t108 t109 2).bind fun bt111 => (commit_ParseTag.j0 k bt111.1 bt111.2 t103 t110 (⟨#[]⟩ : ByteArray) (⟨#[]⟩ : ByteArray) (⟨#[]⟩ : ByteArray) 0 0 (⟨#[]⟩ : ByteArray))) else (commit_ParseTag.j0 k t108 t109 t103 t110 (⟨#[]⟩ : ByteArray) (⟨#[]⟩ : ByteArray) (⟨#[]⟩ : ByteArray) 0 0 (⟨#[]⟩ : ByteArray)))) = some (r1, r2, r3, r4, r5, r6, r7, r8, r9) := H
 have A3 := Aside0.mk A30
 clear A30
 replace H := Option.bind_eq_some_iff.mp H
 obtain ⟨t110, A40, H⟩ := H
 have A4 := Aside0.mk A40
 clear A40
 have HC5 := Aside0.mk H
 clear H
 go_enter Tryz.func23, Tryz.ntmps23
 go_upto_if 18 with (first | ((with_reducible refine gate_dst (N := 2) rfl ?_); refine be_ (cs := #[.string (⟨#[]⟩ : ByteArray), .int .i64 0, .string (⟨#[]⟩ : ByteArray), .string (⟨#[]⟩ : ByteArray), .string (⟨#[]⟩ : ByteArray), .int .i64 0, .int .i64 0, .string (⟨#[]⟩ : ByteArray)]) (t := 37) ?_; intro gb101 hg w6 hbox hb; have BK101 := Aside0.mk (hbox); have GW101 := Aside0.mk (gw_ hg HB.out); have GE101 := Aside0.mk (gw_ hg HB.out); replace HB := Aside0.mk (below_step (hb_ HB.out) hb); clear hb hbox hg) | ((with_reducible refine gate_dst (N := 8) rfl ?_); refine be_ (cs := #[.string a0, .int .i64 0]) (t := 87) ?_; intro gb102 hg w7 hbox hb; have BK102 := Aside0.mk (hbox); have GW102 := Aside0.mk ((by rw [hg]; exact (below_size (hs_)) : w.heap.size ≤ gb102)); have GE102 := Aside0.mk ((by rw [hg]; exact (below_size (hs_)) : w.heap.size ≤ gb102)); replace HB := Aside0.mk (below_step (hs_) hb); have NB101_102 := Aside0.mk (nl2_ hg BK101.out); have NB102_101 := Aside0.mk (ng2_ hg BK101.out); replace BK101 := Aside0.mk (bb_ BK101.out hb); clear hb hbox hg) | ((with_reducible refine gate_callee (f := 70) rfl ?_); refine goesL_ (some 10) rfl rfl Tryz.func70 (by kernel_rfl) rfl #[.pointer (some ⟨gb102, 0, none⟩), .string (⟨#[111, 98, 106, 101, 99, 116, 32]⟩ : ByteArray)] rfl z2_ ?_; (with_reducible refine (commit_reader_id.calls k gb102 a0 0 (⟨#[111, 98, 106, 101, 99, 116, 32]⟩ : ByteArray) t103 t104 t105 w _ ?side1 ?side2 ?side3 A2.out).mono ?_); (case side1 => exact (show IsS87 w _ gb102 a0 0 from ⟨(bk_ BK102.out), GE102.out⟩)); (case side2 => repeat (first | (with_reducible first | exact HB.out | apply below_alloc | apply pw_below_drewN | apply below_drew1 | refine below_set ?_ (IsS87.ge HI102.out) | refine below_set ?_ GE101.out) | exact HB.out)); (case side3 => exact hgv); rintro e w8 ⟨rfl, hi, hb, hk⟩; refine ⟨_, rfl, ?_⟩; replace BK101 := Aside0.mk (KeepBut.blk hk (g' := gb101) (o := .cells #[.string (⟨#[]⟩ : ByteArray), .int .i64 0, .string (⟨#[]⟩ : ByteArray), .string (⟨#[]⟩ : ByteArray), .string (⟨#[]⟩ : ByteArray), .int .i64 0, .int .i64 0, .string (⟨#[]⟩ : ByteArray)] 37 (0, 0)) (bk_ BK101.out) NB101_102.out (by simp)); replace HB := Aside0.mk (hb); replace BK102 := Aside0.mk (hi.1); (try clear hb); (try clear hb2); (try clear hk); (try clear hi)) | ((with_reducible refine gate_dst (N := 5) rfl ?_); refine be_ (cs := #[.string (⟨#[]⟩ : ByteArray), .int .i64 0, .string (⟨#[]⟩ : ByteArray), .string (⟨#[]⟩ : ByteArray), .string (⟨#[]⟩ : ByteArray), .int .i64 0, .int .i64 0, .string (⟨#[]⟩ : ByteArray)]) (t := 37) ?_; intro gb106 hg w9 hbox hb; have BK106 := Aside0.mk (hbox); have GW106 := Aside0.mk ((by rw [hg]; exact (below_size (hs_)) : w.heap.size ≤ gb106)); have GE106 := Aside0.mk ((by rw [hg]; exact (below_size (hs_)) : w.heap.size ≤ gb106)); replace HB := Aside0.mk (below_step (hs_) hb); have NB101_106 := Aside0.mk (nl2_ hg BK101.out); have NB106_101 := Aside0.mk (ng2_ hg BK101.out); replace BK101 := Aside0.mk (bb_ BK101.out hb); have NB102_106 := Aside0.mk (nl2_ hg BK102.out); have NB106_102 := Aside0.mk (ng2_ hg BK102.out); replace BK102 := Aside0.mk (bb_ BK102.out hb); clear hb hbox hg; have hnb10 := NB106_101.out; have hnc10 := NB101_106.out; have hnb11 := NB106_102.out; have hnc11 := NB102_106.out; obtain ⟨hcz12_0, hcz12_1, hcz12_2, hcz12_3, hcz12_4, hcz12_5, hcz12_6, hcz12_7, hfz12_0, hfz12_1, hfz12_2, hfz12_3, hfz12_4, hfz12_5, hfz12_6, hfz12_7⟩ := bc8 BK106.out) | ((with_reducible refine gate_callee (f := 73) rfl ?_); refine goesL_ (some 13) rfl rfl Tryz.func73 (by kernel_rfl) rfl #[.pointer (some ⟨gb102, 0, none⟩), .string (⟨#[116, 121, 112, 101, 32]⟩ : ByteArray)] rfl z2_ ?_; (with_reducible refine (commit_reader_line.calls gb102 t104 t105 (⟨#[116, 121, 112, 101, 32]⟩ : ByteArray) t107 t108 t109 w _ ?side1 ?side2 ?side3 A3.out).mono ?_); (case side1 => exact (show IsS87 w _ gb102 t104 t105 from ⟨(by have b_ := BK102; have f_ := NB102_106; exact zb_), GE102.out⟩)); (case side2 => repeat (first | (with_reducible first | exact HB.out | apply below_alloc | apply pw_below_drewN | apply below_drew1 | refine below_set ?_ (IsS87.ge HI102.out) | refine below_set ?_ GE101.out | refine below_set ?_ GE106.out) | exact HB.out)); (case side3 => exact hgv); rintro e w13 ⟨rfl, hi, hb, hk⟩; refine ⟨_, rfl, ?_⟩; replace BK101 := Aside0.mk (KeepBut.blk hk (g' := gb101) (o := .cells #[.string (⟨#[]⟩ : ByteArray), .int .i64 0, .string (⟨#[]⟩ : ByteArray), .string (⟨#[]⟩ : ByteArray), .string (⟨#[]⟩ : ByteArray), .int .i64 0, .int .i64 0, .string (⟨#[]⟩ : ByteArray)] 37 (0, 0)) (by have b_ := BK101; have f_ := NB101_106; exact zb_) NB101_102.out (by simp)); replace BK106 := Aside0.mk (KeepBut.blk hk (g' := gb106) (o := .cells #[.string t103, .int .i64 0, .string (⟨#[]⟩ : ByteArray), .string (⟨#[]⟩ : ByteArray), .string (⟨#[]⟩ : ByteArray), .int .i64 0, .int .i64 0, .string (⟨#[]⟩ : ByteArray)] 37 (0, 0)) (by have b_ := BK106; exact zb_) NB106_102.out (by simp)); replace HB := Aside0.mk (hb); replace BK102 := Aside0.mk (hi.1); (try clear hb); (try clear hb2); (try clear hk); (try clear hi)) | ((with_reducible refine gate_callee (f := 77) rfl ?_); refine goesL_ (some 14) rfl rfl Tryz.func77 (by kernel_rfl) rfl #[.string t107] rfl z2_ ?_; (with_reducible refine (object_Kind.calls t107 t110 _ A4.out).mono ?_); rintro e w14 ⟨rfl, hb⟩; refine ⟨_, rfl, ?_⟩; replace BK101 := Aside0.mk (bb_ BK101.out hb); replace BK102 := Aside0.mk (bb_ BK102.out hb); replace BK106 := Aside0.mk (bb_ BK106.out hb); replace HB := Aside0.mk (below_step (hs_) hb); (try clear hb); (try clear hb2); (try clear hk); (try clear hi); obtain ⟨hcz15_0, hcz15_1, hcz15_2, hcz15_3, hcz15_4, hcz15_5, hcz15_6, hcz15_7, hfz15_0, hfz15_1, hfz15_2, hfz15_3, hfz15_4, hfz15_5, hfz15_6, hfz15_7⟩ := bc8 BK106.out))
 (try simp only [Act.put, List.setIfInBounds_toArray, List.set_cons_zero, List.set_cons_succ])
 go_cut [] (fun wc => ∃ (kq : Nat) (x103000_4 : ByteArray) (x103001_4 : Int), Aside0 (commit_ParseTag.j0 kq x103000_4 x103001_4 t103 t110 (⟨#[]⟩ : ByteArray) (⟨#[]⟩ : ByteArray) (⟨#[]⟩ : ByteArray) 0 0 (⟨#[]⟩ : ByteArray) = some (r1, r2, r3, r4, r5, r6, r7, r8, r9)) ∧ Aside0 (kq ≤ k) ∧ Aside0 (wc.heap[gb101]? = some (.cells #[.string (⟨#[]⟩ : ByteArray), .int .i64 0, .string (⟨#[]⟩ : ByteArray), .string (⟨#[]⟩ : ByteArray), .string (⟨#[]⟩ : ByteArray), .int .i64 0, .int .i64 0, .string (⟨#[]⟩ : ByteArray)] 37 (0, 0))) ∧ Aside0 (wc.heap[gb102]? = some (.cells #[.string x103000_4, .int .i64 x103001_4] 87 (0, 0))) ∧ Aside0 (wc.heap[gb106]? = some (.cells #[.string t103, .int .i64 t110, .string (⟨#[]⟩ : ByteArray), .string (⟨#[]⟩ : ByteArray), .string (⟨#[]⟩ : ByteArray), .int .i64 0, .int .i64 0, .string (⟨#[]⟩ : ByteArray)] 37 (0, 0))) ∧ Aside0 (Below w.heap.size w wc))
 case first =>
  have H := HC5.out
  clear HC5
  by_cases c16 : t110 = 0
  ·rw [if_pos c16] at H
   have c16b0 := beq_iff_eq.mpr c16
   have c16b1 := bne_eq_false_iff_eq.mpr c16
   clear c16
   (first | rw [c16b0] | (simp only [i64_w, i32_w]; rw [c16b0]) | skip)
   (try rw [c16b8])
   replace H := Option.bind_eq_some_iff.mp H
   obtain ⟨⟨t111, t112⟩, A170, H⟩ := H
   replace H : (commit_ParseTag.j0 k t111 t112 t103 t110 (⟨#[]⟩ : ByteArray) (⟨#[]⟩ : ByteArray) (⟨#[]⟩ : ByteArray) 0 0 (⟨#[]⟩ : ByteArray)) = some (r1, r2, r3, r4, r5, r6, r7, r8, r9) := H
   have A17 := Aside0.mk A170
   clear A170
   have H' := Aside0.mk H
   clear H
   go_wp2_with (first | ((with_reducible refine gate_callee (f := 74) rfl ?_); refine goesL_ (some 20) rfl rfl Tryz.func74 (by kernel_rfl) rfl #[.pointer (some ⟨gb102, 0, none⟩), .int .i64 2] rfl z2_ ?_; (with_reducible refine (commit_reader_fail.calls gb102 t108 t109 2 t111 t112 w _ ?side1 ?side2 A17.out).mono ?_); (case side1 => exact (show IsS87 w _ gb102 t108 t109 from ⟨(by have b_ := BK102; have f_ := NB102_106; exact zb_), GE102.out⟩)); (case side2 => repeat (first | (with_reducible first | exact HB.out | apply below_alloc | apply pw_below_drewN | apply below_drew1 | refine below_set ?_ (IsS87.ge HI102.out) | refine below_set ?_ GE101.out | refine below_set ?_ GE106.out) | exact HB.out)); rintro e w18 ⟨rfl, hi, hb, hk⟩; refine ⟨_, rfl, ?_⟩; replace BK101 := Aside0.mk (KeepBut.blk hk (g' := gb101) (o := .cells #[.string (⟨#[]⟩ : ByteArray), .int .i64 0, .string (⟨#[]⟩ : ByteArray), .string (⟨#[]⟩ : ByteArray), .string (⟨#[]⟩ : ByteArray), .int .i64 0, .int .i64 0, .string (⟨#[]⟩ : ByteArray)] 37 (0, 0)) (by have b_ := BK101; have f_ := NB101_106; exact zb_) NB101_102.out (by simp)); replace BK106 := Aside0.mk (KeepBut.blk hk (g' := gb106) (o := .cells #[.string t103, .int .i64 t110, .string (⟨#[]⟩ : ByteArray), .string (⟨#[]⟩ : ByteArray), .string (⟨#[]⟩ : ByteArray), .int .i64 0, .int .i64 0, .string (⟨#[]⟩ : ByteArray)] 37 (0, 0)) (by have b_ := BK106; exact zb_) NB106_102.out (by simp)); replace HB := Aside0.mk (hb); replace BK102 := Aside0.mk (hi.1); (try clear hb); (try clear hb2); (try clear hk); (try clear hi)))
   go_meet
   case rel => exact ⟨_, (t111), (t112), H', ⟨z5_⟩, ⟨bk_ BK101.out⟩, ⟨bk_ BK102.out⟩, ⟨bk_ BK106.out⟩, ⟨hs_⟩⟩
  ·rw [if_neg c16] at H
   have c16b0 := beq_eq_false_iff_ne.mpr c16
   have c16b1 := bne_iff_ne.mpr c16
   (first | rw [c16b0] | (simp only [i64_w, i32_w]; rw [c16b0]) | skip)
   (try rw [c16b8])
   have H' := Aside0.mk H
   clear H
   go_wp2
   go_meet
   case rel => exact ⟨_, (t108), (t109), H', ⟨z5_⟩, ⟨by have b_ := BK101; have f_ := NB101_106; exact zb_⟩, ⟨by have b_ := BK102; have f_ := NB102_106; exact zb_⟩, ⟨by have b_ := BK106; exact zb_⟩, ⟨hs_⟩⟩
 case rest =>
  clear HC5
  try clear c1
  try clear c2
  try clear p2
  try clear c7
  try clear c10
  try clear c11
  try clear c16
  try clear c16b0
  try clear c16b1
  try clear hcz12_0 hcz12_1 hcz12_2 hcz12_3 hcz12_4 hcz12_5 hcz12_6 hcz12_7
  try clear hcz15_0 hcz15_1 hcz15_2 hcz15_3 hcz15_4 hcz15_5 hcz15_6 hcz15_7
  try clear hfz12_0 hfz12_1 hfz12_2 hfz12_3 hfz12_4 hfz12_5 hfz12_6 hfz12_7
  try clear hfz15_0 hfz15_1 hfz15_2 hfz15_3 hfz15_4 hfz15_5 hfz15_6 hfz15_7
  obtain ⟨kq, x103000_4, x103001_4, HA, HJ4, BK101, BK102, BK106, HB⟩ := hcut
  cases kq with
  | zero => exact absurd HA.out (by simp [commit_ParseTag.j0])
  | succ kj4 =>
   have H := HA.out
   clear HA
   simp only [commit_ParseTag.j0] at H
   replace H := Option.bind_eq_some_iff.mp H
   obtain ⟨⟨t113, t114, t115⟩, A190, H⟩ := H
   replace H : ((commit_reader_who.f kj4 t114 t115 (⟨#[116, 97, 103, 103, 101, 114, 32]⟩ : ByteArray)).bind fun bt116 => ((commit_reader_line.f bt116.2.2.2.2.1 bt116.2.2.2.2.2 (⟨#[]⟩ : ByteArray)).bind fun bt122 => (if bt122.1.toList = ([] : List UInt8) then (commit_ParseTag.j1 kj4 bt122.2.1 bt122.2.2 t103 t110 t113 bt116.1 bt116.2.1 bt116.2.2.1 bt116.2.2.2.1 (⟨#[]⟩ : ByteArray)) else ((commit_reader_fail.f bt122.2.1 bt122.2.2 2).bind fun bt125 => (commit_ParseTag.j1 kj4 bt125.1 bt125.2 t103 t110 t113 bt116.1 bt116.2.1 bt116.2.2.1 bt116.2.2.2.1 (⟨#[]⟩ : ByteArray)))))) = some (r1, r2, r3, r4, r5, r6, r7, r8, r9) := H
   have A19 := Aside0.mk A190
   clear A190
   replace H := Option.bind_eq_some_iff.mp H
   obtain ⟨⟨t116, t117, t118, t119, t120, t121⟩, A200, H⟩ := H
   replace H : ((commit_reader_line.f t120 t121 (⟨#[]⟩ : ByteArray)).bind fun bt122 => (if bt122.1.toList = ([] : List UInt8) then (commit_ParseTag.j1 kj4 bt122.2.1 bt122.2.2 t103 t110 t113 t116 t117 t118 t119 (⟨#[]⟩ : ByteArray)) else ((commit_reader_fail.f bt122.2.1 bt122.2.2 2).bind fun bt125 => (commit_ParseTag.j1 kj4 bt125.1 bt125.2 t103 t110 t113 t116 t117 t118 t119 (⟨#[]⟩ : ByteArray))))) = some (r1, r2, r3, r4, r5, r6, r7, r8, r9) := H
   have A20 := Aside0.mk A200
   clear A200
   replace H := Option.bind_eq_some_iff.mp H
   obtain ⟨⟨t122, t123, t124⟩, A210, H⟩ := H
   replace H : (if t122.toList = ([] : List UInt8) then (commit_ParseTag.j1 kj4 t123 t124 t103 t110 t113 t116 t117 t118 t119 (⟨#[]⟩ : ByteArray)) else ((commit_reader_fail.f t123 t124 2).bind fun bt125 => (commit_ParseTag.j1 kj4 bt125.1 bt125.2 t103 t110 t113 t116 t117 t118 t119 (⟨#[]⟩ : ByteArray)))) = some (r1, r2, r3, r4, r5, r6, r7, r8, r9) := H
   have A21 := Aside0.mk A210
   clear A210
   have HC22 := Aside0.mk H
   clear H
   go_upto_if 29 with (first | ((with_reducible refine gate_callee (f := 73) rfl ?_); refine goesL_ (some 22) rfl rfl Tryz.func73 (by kernel_rfl) rfl #[.pointer (some ⟨gb102, 0, none⟩), .string (⟨#[116, 97, 103, 32]⟩ : ByteArray)] rfl z2_ ?_; (with_reducible refine (commit_reader_line.calls gb102 x103000_4 x103001_4 (⟨#[116, 97, 103, 32]⟩ : ByteArray) t113 t114 t115 w _ ?side1 ?side2 ?side3 A19.out).mono ?_); (case side1 => exact (show IsS87 w _ gb102 x103000_4 x103001_4 from ⟨(bk_ BK102.out), GE102.out⟩)); (case side2 => repeat (first | (with_reducible first | exact HB.out | apply below_alloc | apply pw_below_drewN | apply below_drew1 | refine below_set ?_ (IsS87.ge HI102.out) | refine below_set ?_ GE101.out | refine below_set ?_ GE106.out) | exact HB.out)); (case side3 => exact hgv); rintro e w23 ⟨rfl, hi, hb, hk⟩; refine ⟨_, rfl, ?_⟩; replace BK101 := Aside0.mk (KeepBut.blk hk (g' := gb101) (o := .cells #[.string (⟨#[]⟩ : ByteArray), .int .i64 0, .string (⟨#[]⟩ : ByteArray), .string (⟨#[]⟩ : ByteArray), .string (⟨#[]⟩ : ByteArray), .int .i64 0, .int .i64 0, .string (⟨#[]⟩ : ByteArray)] 37 (0, 0)) (bk_ BK101.out) NB101_102.out (by simp)); replace BK106 := Aside0.mk (KeepBut.blk hk (g' := gb106) (o := .cells #[.string t103, .int .i64 t110, .string (⟨#[]⟩ : ByteArray), .string (⟨#[]⟩ : ByteArray), .string (⟨#[]⟩ : ByteArray), .int .i64 0, .int .i64 0, .string (⟨#[]⟩ : ByteArray)] 37 (0, 0)) (bk_ BK106.out) NB106_102.out (by simp)); replace HB := Aside0.mk (hb); replace BK102 := Aside0.mk (hi.1); (try clear hb); (try clear hb2); (try clear hk); (try clear hi); have hnb24 := NB106_101.out; have hnc24 := NB101_106.out; have hnb25 := NB106_102.out; have hnc25 := NB102_106.out; obtain ⟨hcz26_0, hcz26_1, hcz26_2, hcz26_3, hcz26_4, hcz26_5, hcz26_6, hcz26_7, hfz26_0, hfz26_1, hfz26_2, hfz26_3, hfz26_4, hfz26_5, hfz26_6, hfz26_7⟩ := bc8 BK106.out) | ((with_reducible refine gate_callee (f := 72) rfl ?_); refine goesL_ (some 25) rfl rfl Tryz.func72 (by kernel_rfl) rfl #[.pointer (some ⟨gb102, 0, none⟩), .string (⟨#[116, 97, 103, 103, 101, 114, 32]⟩ : ByteArray)] rfl z2_ ?_; (with_reducible refine (commit_reader_who.calls kj4 gb102 t114 t115 (⟨#[116, 97, 103, 103, 101, 114, 32]⟩ : ByteArray) t116 t117 t118 t119 t120 t121 w _ ?side1 ?side2 ?side3 A20.out).mono ?_); (case side1 => exact (show IsS87 w _ gb102 t114 t115 from ⟨(by have b_ := BK102; have f_ := NB102_106; exact zb_), GE102.out⟩)); (case side2 => repeat (first | (with_reducible first | exact HB.out | apply below_alloc | apply pw_below_drewN | apply below_drew1 | refine below_set ?_ (IsS87.ge HI102.out) | refine below_set ?_ GE101.out | refine below_set ?_ GE106.out) | exact HB.out)); (case side3 => exact hgv); rintro e w27 ⟨rfl, hi, hb, hk⟩; refine ⟨_, rfl, ?_⟩; replace BK101 := Aside0.mk (KeepBut.blk hk (g' := gb101) (o := .cells #[.string (⟨#[]⟩ : ByteArray), .int .i64 0, .string (⟨#[]⟩ : ByteArray), .string (⟨#[]⟩ : ByteArray), .string (⟨#[]⟩ : ByteArray), .int .i64 0, .int .i64 0, .string (⟨#[]⟩ : ByteArray)] 37 (0, 0)) (by have b_ := BK101; have f_ := NB101_106; exact zb_) NB101_102.out (by simp)); replace BK106 := Aside0.mk (KeepBut.blk hk (g' := gb106) (o := .cells #[.string t103, .int .i64 t110, .string t113, .string (⟨#[]⟩ : ByteArray), .string (⟨#[]⟩ : ByteArray), .int .i64 0, .int .i64 0, .string (⟨#[]⟩ : ByteArray)] 37 (0, 0)) (by have b_ := BK106; exact zb_) NB106_102.out (by simp)); replace HB := Aside0.mk (hb); replace BK102 := Aside0.mk (hi.1); (try clear hb); (try clear hb2); (try clear hk); (try clear hi); obtain ⟨hcz28_0, hcz28_1, hcz28_2, hcz28_3, hcz28_4, hcz28_5, hcz28_6, hcz28_7, hfz28_0, hfz28_1, hfz28_2, hfz28_3, hfz28_4, hfz28_5, hfz28_6, hfz28_7⟩ := bc8 BK106.out) | ((with_reducible refine gate_callee (f := 73) rfl ?_); refine goesL_ (some 28) rfl rfl Tryz.func73 (by kernel_rfl) rfl #[.pointer (some ⟨gb102, 0, none⟩), .string (⟨#[]⟩ : ByteArray)] rfl z2_ ?_; (with_reducible refine (commit_reader_line.calls gb102 t120 t121 (⟨#[]⟩ : ByteArray) t122 t123 t124 w _ ?side1 ?side2 ?side3 A21.out).mono ?_); (case side1 => exact (show IsS87 w _ gb102 t120 t121 from ⟨(by have b_ := BK102; have f_ := NB102_106; exact zb_), GE102.out⟩)); (case side2 => repeat (first | (with_reducible first | exact HB.out | apply below_alloc | apply pw_below_drewN | apply below_drew1 | refine below_set ?_ (IsS87.ge HI102.out) | refine below_set ?_ GE101.out | refine below_set ?_ GE106.out) | exact HB.out)); (case side3 => exact hgv); rintro e w29 ⟨rfl, hi, hb, hk⟩; refine ⟨_, rfl, ?_⟩; replace BK101 := Aside0.mk (KeepBut.blk hk (g' := gb101) (o := .cells #[.string (⟨#[]⟩ : ByteArray), .int .i64 0, .string (⟨#[]⟩ : ByteArray), .string (⟨#[]⟩ : ByteArray), .string (⟨#[]⟩ : ByteArray), .int .i64 0, .int .i64 0, .string (⟨#[]⟩ : ByteArray)] 37 (0, 0)) (by have b_ := BK101; have f_ := NB101_106; exact zb_) NB101_102.out (by simp)); replace BK106 := Aside0.mk (KeepBut.blk hk (g' := gb106) (o := .cells #[.string t103, .int .i64 t110, .string t113, .string t116, .string t117, .int .i64 t118, .int .i64 t119, .string (⟨#[]⟩ : ByteArray)] 37 (0, 0)) (by have b_ := BK106; exact zb_) NB106_102.out (by simp)); replace HB := Aside0.mk (hb); replace BK102 := Aside0.mk (hi.1); (try clear hb); (try clear hb2); (try clear hk); (try clear hi)))
   (try simp only [Act.put, List.setIfInBounds_toArray, List.set_cons_zero, List.set_cons_succ])
   go_cut [] (fun wc => ∃ (kq : Nat) (x103000_21 : ByteArray) (x103001_21 : Int), Aside0 (commit_ParseTag.j1 kq x103000_21 x103001_21 t103 t110 t113 t116 t117 t118 t119 (⟨#[]⟩ : ByteArray) = some (r1, r2, r3, r4, r5, r6, r7, r8, r9)) ∧ Aside0 (kq ≤ kj4) ∧ Aside0 (wc.heap[gb101]? = some (.cells #[.string (⟨#[]⟩ : ByteArray), .int .i64 0, .string (⟨#[]⟩ : ByteArray), .string (⟨#[]⟩ : ByteArray), .string (⟨#[]⟩ : ByteArray), .int .i64 0, .int .i64 0, .string (⟨#[]⟩ : ByteArray)] 37 (0, 0))) ∧ Aside0 (wc.heap[gb102]? = some (.cells #[.string x103000_21, .int .i64 x103001_21] 87 (0, 0))) ∧ Aside0 (wc.heap[gb106]? = some (.cells #[.string t103, .int .i64 t110, .string t113, .string t116, .string t117, .int .i64 t118, .int .i64 t119, .string (⟨#[]⟩ : ByteArray)] 37 (0, 0))) ∧ Aside0 (Below w.heap.size w wc))
   case first =>
    have H := HC22.out
    clear HC22
    by_cases c30 : t122.toList = ([] : List UInt8)
    ·rw [if_pos c30] at H
     have c30b0 := beq_iff_eq.mpr c30
     have c30b1 := bne_eq_false_iff_eq.mpr c30
     (try (have c30b8 : (!t122.toList.isEmpty) = false := (by have h_ := c30b1; rw [ne_nil_bool] at h_; exact h_)))
     (try (have c30b9 : t122.toList.isEmpty = true := (by have h_ := c30b1; rw [ne_nil_bool] at h_; simpa using h_)))
     clear c30
     (first | rw [c30b0] | (simp only [i64_w, i32_w]; rw [c30b0]) | skip)
     (try rw [c30b8])
     have H' := Aside0.mk H
     clear H
     go_wp2
     go_meet
     case rel => exact ⟨_, (t123), (t124), H', ⟨by have := HJ4.out; first | omega | exact Nat.le_refl _⟩, ⟨bk_ BK101.out⟩, ⟨bk_ BK102.out⟩, ⟨bk_ BK106.out⟩, ⟨hs_⟩⟩
    ·rw [if_neg c30] at H
     have c30b0 := beq_eq_false_iff_ne.mpr c30
     have c30b1 := bne_iff_ne.mpr c30
     (try (have c30b8 : (!t122.toList.isEmpty) = true := (by have h_ := c30b1; rw [ne_nil_bool] at h_; exact h_)))
     (try (have c30b9 : t122.toList.isEmpty = false := (by have h_ := c30b1; rw [ne_nil_bool] at h_; simpa using h_)))
     (first | rw [c30b0] | (simp only [i64_w, i32_w]; rw [c30b0]) | skip)
     (try rw [c30b8])
     replace H := Option.bind_eq_some_iff.mp H
     obtain ⟨⟨t125, t126⟩, A310, H⟩ := H
     replace H : (commit_ParseTag.j1 kj4 t125 t126 t103 t110 t113 t116 t117 t118 t119 (⟨#[]⟩ : ByteArray)) = some (r1, r2, r3, r4, r5, r6, r7, r8, r9) := H
     have A31 := Aside0.mk A310
     clear A310
     have H' := Aside0.mk H
     clear H
     go_wp2_with (first | ((with_reducible refine gate_callee (f := 74) rfl ?_); refine goesL_ (some 31) rfl rfl Tryz.func74 (by kernel_rfl) rfl #[.pointer (some ⟨gb102, 0, none⟩), .int .i64 2] rfl z2_ ?_; (with_reducible refine (commit_reader_fail.calls gb102 t123 t124 2 t125 t126 w _ ?side1 ?side2 A31.out).mono ?_); (case side1 => exact (show IsS87 w _ gb102 t123 t124 from ⟨(bk_ BK102.out), GE102.out⟩)); (case side2 => repeat (first | (with_reducible first | exact HB.out | apply below_alloc | apply pw_below_drewN | apply below_drew1 | refine below_set ?_ (IsS87.ge HI102.out) | refine below_set ?_ GE101.out | refine below_set ?_ GE106.out) | exact HB.out)); rintro e w32 ⟨rfl, hi, hb, hk⟩; refine ⟨_, rfl, ?_⟩; replace BK101 := Aside0.mk (KeepBut.blk hk (g' := gb101) (o := .cells #[.string (⟨#[]⟩ : ByteArray), .int .i64 0, .string (⟨#[]⟩ : ByteArray), .string (⟨#[]⟩ : ByteArray), .string (⟨#[]⟩ : ByteArray), .int .i64 0, .int .i64 0, .string (⟨#[]⟩ : ByteArray)] 37 (0, 0)) (bk_ BK101.out) NB101_102.out (by simp)); replace BK106 := Aside0.mk (KeepBut.blk hk (g' := gb106) (o := .cells #[.string t103, .int .i64 t110, .string t113, .string t116, .string t117, .int .i64 t118, .int .i64 t119, .string (⟨#[]⟩ : ByteArray)] 37 (0, 0)) (bk_ BK106.out) NB106_102.out (by simp)); replace HB := Aside0.mk (hb); replace BK102 := Aside0.mk (hi.1); (try clear hb); (try clear hb2); (try clear hk); (try clear hi)))
     go_meet
     case rel => exact ⟨_, (t125), (t126), H', ⟨by have := HJ4.out; first | omega | exact Nat.le_refl _⟩, ⟨bk_ BK101.out⟩, ⟨bk_ BK102.out⟩, ⟨bk_ BK106.out⟩, ⟨hs_⟩⟩
   case rest =>
    clear HC22
    try clear c1
    try clear c2
    try clear p2
    try clear c3
    try clear c7
    try clear c10
    try clear c11
    try clear c16
    try clear c16b0
    try clear c16b1
    try clear c23
    try clear c24
    try clear c25
    try clear c30
    try clear c30b0
    try clear c30b1
    try clear hcz12_0 hcz12_1 hcz12_2 hcz12_3 hcz12_4 hcz12_5 hcz12_6 hcz12_7
    try clear hcz15_0 hcz15_1 hcz15_2 hcz15_3 hcz15_4 hcz15_5 hcz15_6 hcz15_7
    try clear hcz26_0 hcz26_1 hcz26_2 hcz26_3 hcz26_4 hcz26_5 hcz26_6 hcz26_7
    try clear hcz28_0 hcz28_1 hcz28_2 hcz28_3 hcz28_4 hcz28_5 hcz28_6 hcz28_7
    try clear hfz12_0 hfz12_1 hfz12_2 hfz12_3 hfz12_4 hfz12_5 hfz12_6 hfz12_7
    try clear hfz15_0 hfz15_1 hfz15_2 hfz15_3 hfz15_4 hfz15_5 hfz15_6 hfz15_7
    try clear hfz26_0 hfz26_1 hfz26_2 hfz26_3 hfz26_4 hfz26_5 hfz26_6 hfz26_7
    try clear hfz28_0 hfz28_1 hfz28_2 hfz28_3 hfz28_4 hfz28_5 hfz28_6 hfz28_7
    try clear p2
    obtain ⟨kq, x103000_21, x103001_21, HA, HJ21, BK101, BK102, BK106, HB⟩ := hcut
    cases kq with
    | zero => exact absurd HA.out (by simp [commit_ParseTag.j1])
    | succ kj21 =>
     have H := HA.out
     clear HA
     simp only [commit_ParseTag.j1] at H
     by_cases c33 : x103001_21 = 0
     ·rw [if_pos c33] at H
      have c33b0 := beq_iff_eq.mpr c33
      have c33b1 := bne_eq_false_iff_eq.mpr c33
      clear c33
      replace H := Option.bind_eq_some_iff.mp H
      obtain ⟨t127, A340, H⟩ := H
      have A34 := Aside0.mk A340
      clear A340
      by_cases c35 : t127 = 0
      ·rw [if_pos c35] at H
       have c35b0 := beq_iff_eq.mpr c35
       have c35b1 := bne_eq_false_iff_eq.mpr c35
       clear c35
       simp only [Option.some.injEq, Prod.mk.injEq] at H
       obtain ⟨rfl, rfl, rfl, rfl, rfl, rfl, rfl, rfl, rfl⟩ := H
       have hnb36 := NB102_101.out
       have hnc36 := NB101_102.out
       have hnb37 := NB102_106.out
       have hnc37 := NB106_102.out
       obtain ⟨hcz38_0, hcz38_1, hfz38_0, hfz38_1⟩ := bc2 BK102.out
       have hnb39 := NB106_101.out
       have hnc39 := NB101_106.out
       obtain ⟨hcz40_0, hcz40_1, hcz40_2, hcz40_3, hcz40_4, hcz40_5, hcz40_6, hcz40_7, hfz40_0, hfz40_1, hfz40_2, hfz40_3, hfz40_4, hfz40_5, hfz40_6, hfz40_7⟩ := bc8 BK106.out
       go_wp2_with (first | ((with_reducible refine gate_callee (f := 27) rfl ?_); refine goesL_ (some 44) rfl rfl Tryz.func27 (by kernel_rfl) rfl #[.agg #[.string t103, .int .i64 t110, .string t113, .string t116, .string t117, .int .i64 t118, .int .i64 t119, .string x103000_21]] rfl z2_ ?_; (with_reducible refine (commit_CheckTag.calls kj21 t103 t110 t113 t116 t117 t118 t119 x103000_21 t127 _ ?side1 A34.out).mono ?_); (case side1 => exact GV.below hgv (hs_)); rintro e w41 ⟨rfl, hb⟩; refine ⟨_, rfl, ?_⟩; replace BK101 := Aside0.mk (blk_below (g := gb101) (o := .cells #[.string (⟨#[]⟩ : ByteArray), .int .i64 0, .string (⟨#[]⟩ : ByteArray), .string (⟨#[]⟩ : ByteArray), .string (⟨#[]⟩ : ByteArray), .int .i64 0, .int .i64 0, .string (⟨#[]⟩ : ByteArray)] 37 (0, 0)) (by have b_ := BK101; have f_ := NB101_106; exact zb_) hb); replace BK102 := Aside0.mk (blk_below (g := gb102) (o := .cells #[.string x103000_21, .int .i64 x103001_21] 87 (0, 0)) (by have b_ := BK102; have f_ := NB102_106; exact zb_) hb); replace BK106 := Aside0.mk (blk_below (g := gb106) (o := .cells #[.string t103, .int .i64 t110, .string t113, .string t116, .string t117, .int .i64 t118, .int .i64 t119, .string x103000_21] 37 (0, 0)) (by have b_ := BK106; exact zb_) hb); replace HB := Aside0.mk (below_step (hs_) hb); (try clear hb); (try clear hb2); (try clear hk); (try clear hi); obtain ⟨hcz42_0, hcz42_1, hfz42_0, hfz42_1⟩ := bc2 BK102.out; obtain ⟨hcz43_0, hcz43_1, hcz43_2, hcz43_3, hcz43_4, hcz43_5, hcz43_6, hcz43_7, hfz43_0, hfz43_1, hfz43_2, hfz43_3, hfz43_4, hfz43_5, hfz43_6, hfz43_7⟩ := bc8 BK106.out; obtain ⟨hcz44_0, hcz44_1, hcz44_2, hcz44_3, hcz44_4, hcz44_5, hcz44_6, hcz44_7, hfz44_0, hfz44_1, hfz44_2, hfz44_3, hfz44_4, hfz44_5, hfz44_6, hfz44_7⟩ := bc8 BK101.out))
       refine bodyPost_ret (results_ct rfl _ _ gb101 37 #[.string t103, .int .i64 t110, .string t113, .string t116, .string t117, .int .i64 t118, .int .i64 t119, .string x103000_21] (0, 0) _ rfl (by have b_ := BK101; have f_ := NB101_102; exact zb_) Tryz.underlying37 rfl (by kernel_rfl)) rfl ?_
       exact ⟨z4_, hs_⟩
      ·rw [if_neg c35] at H
       have c35b0 := beq_eq_false_iff_ne.mpr c35
       have c35b1 := bne_iff_ne.mpr c35
       simp only [Option.some.injEq, Prod.mk.injEq] at H
       obtain ⟨rfl, rfl, rfl, rfl, rfl, rfl, rfl, rfl, rfl⟩ := H
       have hnb45 := NB102_101.out
       have hnc45 := NB101_102.out
       have hnb46 := NB102_106.out
       have hnc46 := NB106_102.out
       obtain ⟨hcz47_0, hcz47_1, hfz47_0, hfz47_1⟩ := bc2 BK102.out
       have hnb48 := NB106_101.out
       have hnc48 := NB101_106.out
       obtain ⟨hcz49_0, hcz49_1, hcz49_2, hcz49_3, hcz49_4, hcz49_5, hcz49_6, hcz49_7, hfz49_0, hfz49_1, hfz49_2, hfz49_3, hfz49_4, hfz49_5, hfz49_6, hfz49_7⟩ := bc8 BK106.out
       try go_wp2_with (first | ((with_reducible refine gate_callee (f := 27) rfl ?_); refine goesL_ (some 44) rfl rfl Tryz.func27 (by kernel_rfl) rfl #[.agg #[.string t103, .int .i64 t110, .string t113, .string t116, .string t117, .int .i64 t118, .int .i64 t119, .string x103000_21]] rfl z2_ ?_; (with_reducible refine (commit_CheckTag.calls kj21 t103 t110 t113 t116 t117 t118 t119 x103000_21 t127 _ ?side1 A34.out).mono ?_); (case side1 => exact GV.below hgv (hs_)); rintro e w50 ⟨rfl, hb⟩; refine ⟨_, rfl, ?_⟩; replace BK101 := Aside0.mk (blk_below (g := gb101) (o := .cells #[.string (⟨#[]⟩ : ByteArray), .int .i64 0, .string (⟨#[]⟩ : ByteArray), .string (⟨#[]⟩ : ByteArray), .string (⟨#[]⟩ : ByteArray), .int .i64 0, .int .i64 0, .string (⟨#[]⟩ : ByteArray)] 37 (0, 0)) (by have b_ := BK101; have f_ := NB101_106; exact zb_) hb); replace BK102 := Aside0.mk (blk_below (g := gb102) (o := .cells #[.string x103000_21, .int .i64 x103001_21] 87 (0, 0)) (by have b_ := BK102; have f_ := NB102_106; exact zb_) hb); replace BK106 := Aside0.mk (blk_below (g := gb106) (o := .cells #[.string t103, .int .i64 t110, .string t113, .string t116, .string t117, .int .i64 t118, .int .i64 t119, .string x103000_21] 37 (0, 0)) (by have b_ := BK106; exact zb_) hb); replace HB := Aside0.mk (below_step (hs_) hb); (try clear hb); (try clear hb2); (try clear hk); (try clear hi); obtain ⟨hcz51_0, hcz51_1, hfz51_0, hfz51_1⟩ := bc2 BK102.out))
       have n0_ : Aside0 ((w50.setCell ⟨gb102, 1, none⟩ (.int .i64 t127)).heap[gb101]? = some (.cells #[.string (⟨#[]⟩ : ByteArray), .int .i64 0, .string (⟨#[]⟩ : ByteArray), .string (⟨#[]⟩ : ByteArray), .string (⟨#[]⟩ : ByteArray), .int .i64 0, .int .i64 0, .string (⟨#[]⟩ : ByteArray)] 37 (0, 0))) := ⟨by have b_ := BK101; have f_ := NB101_102; exact zb_⟩
       have n1_ : Aside0 ((w50.setCell ⟨gb102, 1, none⟩ (.int .i64 t127)).heap[gb102]? = some (.cells #[.string x103000_21, .int .i64 t127] 87 (0, 0))) := ⟨by have b_ := BK102; exact zb_⟩
       have n2_ : Aside0 ((w50.setCell ⟨gb102, 1, none⟩ (.int .i64 t127)).heap[gb106]? = some (.cells #[.string t103, .int .i64 t110, .string t113, .string t116, .string t117, .int .i64 t118, .int .i64 t119, .string x103000_21] 37 (0, 0))) := ⟨by have b_ := BK106; have f_ := NB106_102; exact zb_⟩
       have n3_ : Aside0 (Below w.heap.size w (w50.setCell ⟨gb102, 1, none⟩ (.int .i64 t127))) := ⟨hs_⟩
       (try clear BK101)
       (try clear BK102)
       (try clear BK106)
       (try clear HB)
       generalize (w50.setCell ⟨gb102, 1, none⟩ (.int .i64 t127)) = w52 at n0_ n1_ n2_ n3_ ⊢
       have BK101 := n0_
       have BK102 := n1_
       have BK106 := n2_
       have HB := n3_
       clear n0_ n1_ n2_ n3_
       replace BK101 := Aside0.mk (blk_drew BK101.out)
       replace BK102 := Aside0.mk (blk_drew BK102.out)
       replace BK106 := Aside0.mk (blk_drew BK106.out)
       replace HB := Aside0.mk (below_drew1 HB.out)
       refine start_ (n := 7) (S := fun w' => w'.cell? ⟨gb102, 0, none⟩ = some (.string x103000_21) ∧ w'.cell? ⟨gb102, 1, none⟩ = some (.int .i64 t127)) (ds := []) (bs 7 0) (by kernel_rfl) rfl rfl ⟨(blk_cell BK102.out 0).trans rfl, (blk_cell BK102.out 1).trans rfl⟩ (fun hHeld => ?_)
       generalize w52.drew = w53 at BK101 BK102 BK106 HB hHeld ⊢
       refine pk_ (i := 0) (N := some 52) (bs 7 1) rfl rfl ?_
       refine pk_ (i := 1) (N := some 53) (bs 7 3) rfl rfl ?_
       refine pk_ (i := 2) (N := some 54) (bs 7 7) rfl rfl ?_
       refine pk_ (i := 3) (N := some 55) (bs 7 15) rfl rfl ?_
       refine tkK2_ (i := 4) (N := some 56) (bs 7 31) rfl rfl hHeld ?_
       refine one_ (i := 5) (N := none) (bs 7 63) rfl rfl (by kernel_rfl) (by decide) (fun K hK => ?_)
       have hs54 : w53.cell? ⟨gb101, 0, none⟩ = some (.string (⟨#[]⟩ : ByteArray)) := (blk_cell BK101.out 0).trans rfl
       have hfs54 := blk_frozen BK101.out 0
       have hns54_1 := NB102_101.out
       have hns54_2 := NB106_101.out
       have hms54_1 := NB101_102.out
       have hms54_2 := NB101_106.out
       have hs55 : w53.cell? ⟨gb101, 1, none⟩ = some (.int .i64 0) := (blk_cell BK101.out 1).trans rfl
       have hfs55 := blk_frozen BK101.out 1
       have hns55_1 := NB102_101.out
       have hns55_2 := NB106_101.out
       have hms55_1 := NB101_102.out
       have hms55_2 := NB101_106.out
       have hs56 : w53.cell? ⟨gb101, 2, none⟩ = some (.string (⟨#[]⟩ : ByteArray)) := (blk_cell BK101.out 2).trans rfl
       have hfs56 := blk_frozen BK101.out 2
       have hns56_1 := NB102_101.out
       have hns56_2 := NB106_101.out
       have hms56_1 := NB101_102.out
       have hms56_2 := NB101_106.out
       have hs57 : w53.cell? ⟨gb101, 3, none⟩ = some (.string (⟨#[]⟩ : ByteArray)) := (blk_cell BK101.out 3).trans rfl
       have hfs57 := blk_frozen BK101.out 3
       have hns57_1 := NB102_101.out
       have hns57_2 := NB106_101.out
       have hms57_1 := NB101_102.out
       have hms57_2 := NB101_106.out
       have hs58 : w53.cell? ⟨gb101, 4, none⟩ = some (.string (⟨#[]⟩ : ByteArray)) := (blk_cell BK101.out 4).trans rfl
       have hfs58 := blk_frozen BK101.out 4
       have hns58_1 := NB102_101.out
       have hns58_2 := NB106_101.out
       have hms58_1 := NB101_102.out
       have hms58_2 := NB101_106.out
       have hs59 : w53.cell? ⟨gb101, 5, none⟩ = some (.int .i64 0) := (blk_cell BK101.out 5).trans rfl
       have hfs59 := blk_frozen BK101.out 5
       have hns59_1 := NB102_101.out
       have hns59_2 := NB106_101.out
       have hms59_1 := NB101_102.out
       have hms59_2 := NB101_106.out
       have hs60 : w53.cell? ⟨gb101, 6, none⟩ = some (.int .i64 0) := (blk_cell BK101.out 6).trans rfl
       have hfs60 := blk_frozen BK101.out 6
       have hns60_1 := NB102_101.out
       have hns60_2 := NB106_101.out
       have hms60_1 := NB101_102.out
       have hms60_2 := NB101_106.out
       have hs61 : w53.cell? ⟨gb101, 7, none⟩ = some (.string (⟨#[]⟩ : ByteArray)) := (blk_cell BK101.out 7).trans rfl
       have hfs61 := blk_frozen BK101.out 7
       have hns61_1 := NB102_101.out
       have hns61_2 := NB106_101.out
       have hms61_1 := NB101_102.out
       have hms61_2 := NB101_106.out
       refine skip_ (w1 := ?_) (by rfl) rfl ?_ ?_
       rotate_left
       ·go_simp
        rfl
       refine hK.out _ _ ⟨((cell_far (p := ⟨gb101, _, none⟩) NB102_101.out _).trans (((cell_far (p := ⟨gb101, _, none⟩) NB102_101.out _).trans (((cell_far (p := ⟨gb101, _, none⟩) NB102_101.out _).trans (((cell_far (p := ⟨gb101, _, none⟩) NB102_101.out _).trans (((cell_far (p := ⟨gb101, _, none⟩) NB102_101.out _).trans (((cell_far (p := ⟨gb101, _, none⟩) NB102_101.out _).trans (((cell_far (p := ⟨gb101, _, none⟩) NB102_101.out _).trans (((cell_far (p := ⟨gb101, _, none⟩) NB102_101.out _).trans (hHeld.1)))))))))))))))), ((cell_far (p := ⟨gb101, _, none⟩) NB102_101.out _).trans (((cell_far (p := ⟨gb101, _, none⟩) NB102_101.out _).trans (((cell_far (p := ⟨gb101, _, none⟩) NB102_101.out _).trans (((cell_far (p := ⟨gb101, _, none⟩) NB102_101.out _).trans (((cell_far (p := ⟨gb101, _, none⟩) NB102_101.out _).trans (((cell_far (p := ⟨gb101, _, none⟩) NB102_101.out _).trans (((cell_far (p := ⟨gb101, _, none⟩) NB102_101.out _).trans (((cell_far (p := ⟨gb101, _, none⟩) NB102_101.out _).trans (hHeld.2))))))))))))))))⟩ (fun hHeld => ?_)
       clear hK K
       refine pk_ (i := 6) (N := some 3) (bs 7 127) rfl rfl ?_
       refine done_ (by kernel_rfl) ?_
       try go_wp2
       refine bodyPost_ret (results_ct rfl _ _ gb101 37 #[.string (⟨#[]⟩ : ByteArray), .int .i64 0, .string (⟨#[]⟩ : ByteArray), .string (⟨#[]⟩ : ByteArray), .string (⟨#[]⟩ : ByteArray), .int .i64 0, .int .i64 0, .string (⟨#[]⟩ : ByteArray)] (0, 0) _ rfl (by have b_ := BK101; exact zb_) Tryz.underlying37 rfl (by kernel_rfl)) rfl ?_
       exact ⟨z4_, hs_⟩
     ·rw [if_neg c33] at H
      have c33b0 := beq_eq_false_iff_ne.mpr c33
      have c33b1 := bne_iff_ne.mpr c33
      simp only [Option.some.injEq, Prod.mk.injEq] at H
      obtain ⟨rfl, rfl, rfl, rfl, rfl, rfl, rfl, rfl, rfl⟩ := H
      have hnb62 := NB102_101.out
      have hnc62 := NB101_102.out
      have hnb63 := NB102_106.out
      have hnc63 := NB106_102.out
      obtain ⟨hcz64_0, hcz64_1, hfz64_0, hfz64_1⟩ := bc2 BK102.out
      have hnb65 := NB106_101.out
      have hnc65 := NB101_106.out
      obtain ⟨hcz66_0, hcz66_1, hcz66_2, hcz66_3, hcz66_4, hcz66_5, hcz66_6, hcz66_7, hfz66_0, hfz66_1, hfz66_2, hfz66_3, hfz66_4, hfz66_5, hfz66_6, hfz66_7⟩ := bc8 BK106.out
      try go_wp2
      have n0_ : Aside0 ((wc.setCell ⟨gb106, 7, none⟩ (.string x103000_21)).heap[gb101]? = some (.cells #[.string (⟨#[]⟩ : ByteArray), .int .i64 0, .string (⟨#[]⟩ : ByteArray), .string (⟨#[]⟩ : ByteArray), .string (⟨#[]⟩ : ByteArray), .int .i64 0, .int .i64 0, .string (⟨#[]⟩ : ByteArray)] 37 (0, 0))) := ⟨by have b_ := BK101; have f_ := NB101_106; exact zb_⟩
      have n1_ : Aside0 ((wc.setCell ⟨gb106, 7, none⟩ (.string x103000_21)).heap[gb102]? = some (.cells #[.string x103000_21, .int .i64 x103001_21] 87 (0, 0))) := ⟨by have b_ := BK102; have f_ := NB102_106; exact zb_⟩
      have n2_ : Aside0 ((wc.setCell ⟨gb106, 7, none⟩ (.string x103000_21)).heap[gb106]? = some (.cells #[.string t103, .int .i64 t110, .string t113, .string t116, .string t117, .int .i64 t118, .int .i64 t119, .string x103000_21] 37 (0, 0))) := ⟨by have b_ := BK106; exact zb_⟩
      have n3_ : Aside0 (Below w.heap.size w (wc.setCell ⟨gb106, 7, none⟩ (.string x103000_21))) := ⟨hs_⟩
      (try clear BK101)
      (try clear BK102)
      (try clear BK106)
      (try clear HB)
      generalize (wc.setCell ⟨gb106, 7, none⟩ (.string x103000_21)) = w67 at n0_ n1_ n2_ n3_ ⊢
      have BK101 := n0_
      have BK102 := n1_
      have BK106 := n2_
      have HB := n3_
      clear n0_ n1_ n2_ n3_
      replace BK101 := Aside0.mk (blk_drew BK101.out)
      replace BK102 := Aside0.mk (blk_drew BK102.out)
      replace BK106 := Aside0.mk (blk_drew BK106.out)
      replace HB := Aside0.mk (below_drew1 HB.out)
      refine start_ (n := 7) (S := fun w' => w'.cell? ⟨gb102, 0, none⟩ = some (.string x103000_21) ∧ w'.cell? ⟨gb102, 1, none⟩ = some (.int .i64 x103001_21)) (ds := []) (bs 7 0) (by kernel_rfl) rfl rfl ⟨(blk_cell BK102.out 0).trans rfl, (blk_cell BK102.out 1).trans rfl⟩ (fun hHeld => ?_)
      generalize w67.drew = w68 at BK101 BK102 BK106 HB hHeld ⊢
      refine pk_ (i := 0) (N := some 52) (bs 7 1) rfl rfl ?_
      refine pk_ (i := 1) (N := some 53) (bs 7 3) rfl rfl ?_
      refine pk_ (i := 2) (N := some 54) (bs 7 7) rfl rfl ?_
      refine pk_ (i := 3) (N := some 55) (bs 7 15) rfl rfl ?_
      refine tkK2_ (i := 4) (N := some 56) (bs 7 31) rfl rfl hHeld ?_
      refine one_ (i := 5) (N := none) (bs 7 63) rfl rfl (by kernel_rfl) (by decide) (fun K hK => ?_)
      have hs69 : w68.cell? ⟨gb101, 0, none⟩ = some (.string (⟨#[]⟩ : ByteArray)) := (blk_cell BK101.out 0).trans rfl
      have hfs69 := blk_frozen BK101.out 0
      have hns69_1 := NB102_101.out
      have hns69_2 := NB106_101.out
      have hms69_1 := NB101_102.out
      have hms69_2 := NB101_106.out
      have hs70 : w68.cell? ⟨gb101, 1, none⟩ = some (.int .i64 0) := (blk_cell BK101.out 1).trans rfl
      have hfs70 := blk_frozen BK101.out 1
      have hns70_1 := NB102_101.out
      have hns70_2 := NB106_101.out
      have hms70_1 := NB101_102.out
      have hms70_2 := NB101_106.out
      have hs71 : w68.cell? ⟨gb101, 2, none⟩ = some (.string (⟨#[]⟩ : ByteArray)) := (blk_cell BK101.out 2).trans rfl
      have hfs71 := blk_frozen BK101.out 2
      have hns71_1 := NB102_101.out
      have hns71_2 := NB106_101.out
      have hms71_1 := NB101_102.out
      have hms71_2 := NB101_106.out
      have hs72 : w68.cell? ⟨gb101, 3, none⟩ = some (.string (⟨#[]⟩ : ByteArray)) := (blk_cell BK101.out 3).trans rfl
      have hfs72 := blk_frozen BK101.out 3
      have hns72_1 := NB102_101.out
      have hns72_2 := NB106_101.out
      have hms72_1 := NB101_102.out
      have hms72_2 := NB101_106.out
      have hs73 : w68.cell? ⟨gb101, 4, none⟩ = some (.string (⟨#[]⟩ : ByteArray)) := (blk_cell BK101.out 4).trans rfl
      have hfs73 := blk_frozen BK101.out 4
      have hns73_1 := NB102_101.out
      have hns73_2 := NB106_101.out
      have hms73_1 := NB101_102.out
      have hms73_2 := NB101_106.out
      have hs74 : w68.cell? ⟨gb101, 5, none⟩ = some (.int .i64 0) := (blk_cell BK101.out 5).trans rfl
      have hfs74 := blk_frozen BK101.out 5
      have hns74_1 := NB102_101.out
      have hns74_2 := NB106_101.out
      have hms74_1 := NB101_102.out
      have hms74_2 := NB101_106.out
      have hs75 : w68.cell? ⟨gb101, 6, none⟩ = some (.int .i64 0) := (blk_cell BK101.out 6).trans rfl
      have hfs75 := blk_frozen BK101.out 6
      have hns75_1 := NB102_101.out
      have hns75_2 := NB106_101.out
      have hms75_1 := NB101_102.out
      have hms75_2 := NB101_106.out
      have hs76 : w68.cell? ⟨gb101, 7, none⟩ = some (.string (⟨#[]⟩ : ByteArray)) := (blk_cell BK101.out 7).trans rfl
      have hfs76 := blk_frozen BK101.out 7
      have hns76_1 := NB102_101.out
      have hns76_2 := NB106_101.out
      have hms76_1 := NB101_102.out
      have hms76_2 := NB101_106.out
      refine skip_ (w1 := ?_) (by rfl) rfl ?_ ?_
      rotate_left
      ·go_simp
       rfl
      refine hK.out _ _ ⟨((cell_far (p := ⟨gb101, _, none⟩) NB102_101.out _).trans (((cell_far (p := ⟨gb101, _, none⟩) NB102_101.out _).trans (((cell_far (p := ⟨gb101, _, none⟩) NB102_101.out _).trans (((cell_far (p := ⟨gb101, _, none⟩) NB102_101.out _).trans (((cell_far (p := ⟨gb101, _, none⟩) NB102_101.out _).trans (((cell_far (p := ⟨gb101, _, none⟩) NB102_101.out _).trans (((cell_far (p := ⟨gb101, _, none⟩) NB102_101.out _).trans (((cell_far (p := ⟨gb101, _, none⟩) NB102_101.out _).trans (hHeld.1)))))))))))))))), ((cell_far (p := ⟨gb101, _, none⟩) NB102_101.out _).trans (((cell_far (p := ⟨gb101, _, none⟩) NB102_101.out _).trans (((cell_far (p := ⟨gb101, _, none⟩) NB102_101.out _).trans (((cell_far (p := ⟨gb101, _, none⟩) NB102_101.out _).trans (((cell_far (p := ⟨gb101, _, none⟩) NB102_101.out _).trans (((cell_far (p := ⟨gb101, _, none⟩) NB102_101.out _).trans (((cell_far (p := ⟨gb101, _, none⟩) NB102_101.out _).trans (((cell_far (p := ⟨gb101, _, none⟩) NB102_101.out _).trans (hHeld.2))))))))))))))))⟩ (fun hHeld => ?_)
      clear hK K
      refine pk_ (i := 6) (N := some 3) (bs 7 127) rfl rfl ?_
      refine done_ (by kernel_rfl) ?_
      try go_wp2
      refine bodyPost_ret (results_ct rfl _ _ gb101 37 #[.string (⟨#[]⟩ : ByteArray), .int .i64 0, .string (⟨#[]⟩ : ByteArray), .string (⟨#[]⟩ : ByteArray), .string (⟨#[]⟩ : ByteArray), .int .i64 0, .int .i64 0, .string (⟨#[]⟩ : ByteArray)] (0, 0) _ rfl (by have b_ := BK101; exact zb_) Tryz.underlying37 rfl (by kernel_rfl)) rfl ?_
      exact ⟨z4_, hs_⟩


def graftagelaw16_who.f  : Option (ByteArray × ByteArray × Int × Int) := some ((⟨#[97]⟩ : ByteArray), (⟨#[97, 64, 98]⟩ : ByteArray), 5, 60)
set_option maxHeartbeats 8000000 in
set_option maxRecDepth 100000 in
theorem graftagelaw16_who.calls  (r1 : ByteArray) (r2 : ByteArray) (r3 : Int) (r4 : Int) (w : World) (h : graftagelaw16_who.f  = some (r1, r2, r3, r4)) :
  Calls Tryz.prog 63 #[] w fun e w' => e = .returned (.agg #[.string r1, .string r2, .int .i64 r3, .int .i64 r4]) ∧ Below w.heap.size w w' := by
 have hu24 := Tryz.underlying24
 have HB := Aside0.mk (Below.refl w.heap.size w)
 have H : (some ((⟨#[97]⟩ : ByteArray), (⟨#[97, 64, 98]⟩ : ByteArray), 5, 60)) = some (r1, r2, r3, r4) := h
 clear h
 simp only [Option.some.injEq, Prod.mk.injEq] at H
 obtain ⟨rfl, rfl, rfl, rfl⟩ := H
 go_enter Tryz.func63, Tryz.ntmps63
 go_wp2_with (first | ((with_reducible refine gate_dst (N := 0) rfl ?_); refine be_ (cs := #[.string (⟨#[]⟩ : ByteArray), .string (⟨#[]⟩ : ByteArray), .int .i64 0, .int .i64 0]) (t := 24) ?_; intro gb139 hg w1 hbox hb; have BK139 := Aside0.mk (hbox); have GW139 := Aside0.mk (gw_ hg HB.out); have GE139 := Aside0.mk (gw_ hg HB.out); replace HB := Aside0.mk (below_step (hb_ HB.out) hb); clear hb hbox hg; obtain ⟨hcz2_0, hcz2_1, hcz2_2, hcz2_3, hfz2_0, hfz2_1, hfz2_2, hfz2_3⟩ := bc4 BK139.out))
 refine bodyPost_ret (results_cell_row rfl _ _ gb139 24 #[.string (⟨#[97]⟩ : ByteArray), .string (⟨#[97, 64, 98]⟩ : ByteArray), .int .i64 5, .int .i64 60] (0, 0) _ rfl (by have b_ := BK139; exact zb_) Tryz.underlying24 rfl (by kernel_rfl)) rfl ?_
 exact ⟨z4_, hs_⟩


def slices_IndexFunc_string_string.l0 : Nat → List ByteArray → (ByteArray → Option (Bool)) → Int → Int → Option (Int)
 | 0, _, _, _, _ => none
 | k + 1, x0, x1, x7, x8 => if x8 < x7 then (if 0 ≤ x8 then (if x8 < (x0.length : Int) then ((x1 (rdOf ByteArray.empty x0 x8)).bind fun t188 => (if t188 = true then (some x8) else (slices_IndexFunc_string_string.l0 k x0 x1 x7 (wrap64 (x8 + 1))))) else (none)) else (none)) else (some (-1))
def slices_IndexFunc_string_string.f (k : Nat) (l0 : List ByteArray) (a1 : (ByteArray → Option (Bool))) : Option (Int) := slices_IndexFunc_string_string.l0 k l0 a1 (l0.length : Int) 0
theorem slices_IndexFunc_string_string.mono_l : ∀ k, (∀ y0 y1 y2 y3, LeO (slices_IndexFunc_string_string.l0 k y0 y1 y2 y3) (slices_IndexFunc_string_string.l0 (k + 1) y0 y1 y2 y3))
 | 0 => fun _ _ _ _ r h => by simp [slices_IndexFunc_string_string.l0] at h
 | k + 1 => by
  have ih0 := slices_IndexFunc_string_string.mono_l k
  ·intro y0 y1 y2 y3
   unfold slices_IndexFunc_string_string.l0
   have m0_ := @ih0
   exact mz_
theorem slices_IndexFunc_string_string.mono : ∀ a0 a1 k, LeO (slices_IndexFunc_string_string.f k a0 a1) (slices_IndexFunc_string_string.f (k + 1) a0 a1) := by
 intro a0 a1 k
 have ih0 := slices_IndexFunc_string_string.mono_l k
 unfold slices_IndexFunc_string_string.f
 have m0_ := @ih0
 exact mz_
set_option maxHeartbeats 8000000 in
set_option maxRecDepth 100000 in
theorem slices_IndexFunc_string_string.calls (k : Nat) (A0 : Option Addr) (c0 : Nat) (l0 : List ByteArray) (G1_ : Nat) (B1_ : Array Value) (a1 : (ByteArray → Option (Bool))) (r : Int) (w : World) (hr0 : Kd.C Kd.string w A0 l0.length l0) (hc0 : l0.length ≤ c0) (eg1_ : ∀ args w, (callFunc G1_ args).run Tryz.prog w = .ok (.enter G1_ args) w) (hq1_ : ∀ (z0 : ByteArray) (zr0 : Bool) (W_ : World), Below w.heap.size w W_ → a1 z0 = some zr0 → Calls Tryz.prog G1_ (#[.string z0] ++ B1_) W_ fun e w' => e = .returned (.bool zr0) ∧ Below W_.heap.size W_ w') (h : slices_IndexFunc_string_string.f k l0 a1 = some r) :
  Calls Tryz.prog 138 #[.slice A0 l0.length c0, .func (.func G1_) #[] B1_] w fun e w' => e = .returned (.int .i64 r) ∧ Below w.heap.size w w' := by
 have HR0 := Aside0.mk hr0
 have HC0 := Aside0.mk hc0
 clear hr0 hc0
 have HB := Aside0.mk (Below.refl w.heap.size w)
 have H : (slices_IndexFunc_string_string.l0 k l0 a1 (l0.length : Int) 0) = some r := h
 clear h
 have H' := Aside0.mk H
 clear H
 go_enter Tryz.func138, Tryz.ntmps138
 go_wp2
 go_loopg [8] k (fun kq v8 w' => ∃ (x8_1 : Int), v8 = .int .i64 x8_1 ∧ Aside0 (slices_IndexFunc_string_string.l0 kq l0 a1 (l0.length : Int) x8_1 = some r) ∧ Aside0 (kq ≤ k) ∧ Aside0 (Below w.heap.size w w'))
 case atStart => exact ⟨(0), z1_, H', ⟨Nat.le_refl _⟩, ⟨hb_ HB.out⟩⟩
 case round =>
  clear H'
  try clear c1
  try clear p2
  obtain ⟨x8_1, rfl, HA, HK1, HB⟩ := hrel
  cases gk with
  | zero => exact absurd HA.out (by simp [slices_IndexFunc_string_string.l0])
  | succ k1 =>
   have H := HA.out
   clear HA
   simp only [slices_IndexFunc_string_string.l0] at H
   by_cases c3 : x8_1 < (l0.length : Int)
   ·rw [if_pos c3] at H
    have c3b0 := decide_eq_true c3
    clear c3
    by_cases c4 : 0 ≤ x8_1
    ·rw [if_pos c4] at H
     have c4b0 := decide_eq_true c4
     clear c4
     by_cases c5 : x8_1 < (l0.length : Int)
     ·rw [if_pos c5] at H
      have c5b0 := decide_eq_true c5
      clear c5
      replace H := Option.bind_eq_some_iff.mp H
      obtain ⟨t188, A60, H⟩ := H
      have A6 := Aside0.mk A60
      clear A60
      by_cases c7 : t188 = true
      ·subst c7
       have H1 : (some x8_1) = some r := by rw [if_pos rfl] at H; exact H
       clear H
       have H := H1
       clear H1
       obtain rfl := Option.some.inj H
       have p187 : 0 ≤ (x8_1 : Int) := of_decide_eq_true z0_
       have q187 : x8_1 < (l0.length : Int) := of_decide_eq_true z0_
       obtain ⟨ad187, e187, hx187_0⟩ := Kd.at_string HR0.out x8_1 p187 q187
       cases e187
       replace hx187_0 := (HB.out.cell (World.block_lt_of_cell? w _ hx187_0)).trans hx187_0
       replace p187 := eq_true p187
       replace q187 := eq_true q187
       go_wp2_with (first | (refine goesF_ (some 16) rfl rfl (g := G1_) (lb := B1_) eg1_ #[.string (rdOf ByteArray.empty l0 x8_1)] rfl rfl z8_ (#[.string (rdOf ByteArray.empty l0 x8_1)] ++ B1_) (by first | rfl | simp) ?_; (refine (hq1_ (rdOf ByteArray.empty l0 x8_1) true _  ?side1 A6.out).mono ?_); (case side1 => repeat (first | (with_reducible first | exact HB.out | apply below_alloc | apply pw_below_drewN | apply below_drew1) | exact HB.out)); rintro e w8 ⟨rfl, hb⟩; refine ⟨_, rfl, ?_⟩; replace HB := Aside0.mk (below_step (hb_ HB.out) hb); (try clear hb); (try clear hb2); (try clear hk); (try clear hi)))
       go_ret
       exact ⟨z4_, hb_ HB.out⟩
      ·replace c7 := Bool.eq_false_iff.mpr c7
       subst c7
       have H1 : (slices_IndexFunc_string_string.l0 k1 l0 a1 (l0.length : Int) (wrap64 (x8_1 + 1))) = some r := by rw [if_neg (show ¬ (false = true) by decide)] at H; exact H
       clear H
       have H := H1
       clear H1
       have H' := Aside0.mk H
       clear H
       have p187 : 0 ≤ (x8_1 : Int) := of_decide_eq_true z0_
       have q187 : x8_1 < (l0.length : Int) := of_decide_eq_true z0_
       obtain ⟨ad187, e187, hx187_0⟩ := Kd.at_string HR0.out x8_1 p187 q187
       cases e187
       replace hx187_0 := (HB.out.cell (World.block_lt_of_cell? w _ hx187_0)).trans hx187_0
       replace p187 := eq_true p187
       replace q187 := eq_true q187
       go_wp2_with (first | (refine goesF_ (some 16) rfl rfl (g := G1_) (lb := B1_) eg1_ #[.string (rdOf ByteArray.empty l0 x8_1)] rfl rfl z8_ (#[.string (rdOf ByteArray.empty l0 x8_1)] ++ B1_) (by first | rfl | simp) ?_; (refine (hq1_ (rdOf ByteArray.empty l0 x8_1) false _  ?side1 A6.out).mono ?_); (case side1 => repeat (first | (with_reducible first | exact HB.out | apply below_alloc | apply pw_below_drewN | apply below_drew1) | exact HB.out)); rintro e w9 ⟨rfl, hb⟩; refine ⟨_, rfl, ?_⟩; replace HB := Aside0.mk (below_step (hb_ HB.out) hb); (try clear hb); (try clear hb2); (try clear hk); (try clear hi)))
       go_roundg k1
       case measure => have := HK1.out; omega
       case rel => exact ⟨(wrap64 (x8_1 + 1)), z1_, H', ⟨by have := HK1.out; omega⟩, ⟨hb_ HB.out⟩⟩
     ·rw [if_neg c5] at H
      exact absurd H (by simp)
    ·rw [if_neg c4] at H
     exact absurd H (by simp)
   ·rw [if_neg c3] at H
    have c3b0 := decide_eq_false c3
    clear c3
    obtain rfl := Option.some.inj H
    go_wp2
    go_ret
    exact ⟨z4_, hb_ HB.out⟩


def slices_ContainsFunc_string_string.f (k : Nat) (l0 : List ByteArray) (a1 : (ByteArray → Option (Bool))) : Option (Bool) := (slices_IndexFunc_string_string.f k l0 a1).bind fun t189 => (some (decide (t189 ≥ 0)))
theorem slices_ContainsFunc_string_string.mono : ∀ a0 a1 k, LeO (slices_ContainsFunc_string_string.f k a0 a1) (slices_ContainsFunc_string_string.f (k + 1) a0 a1) := by
 intro a0 a1 k
 unfold slices_ContainsFunc_string_string.f
 have m0_ := @slices_IndexFunc_string_string.mono
 exact mz_
set_option maxHeartbeats 8000000 in
set_option maxRecDepth 100000 in
theorem slices_ContainsFunc_string_string.calls (k : Nat) (A0 : Option Addr) (c0 : Nat) (l0 : List ByteArray) (G1_ : Nat) (B1_ : Array Value) (a1 : (ByteArray → Option (Bool))) (r : Bool) (w : World) (hr0 : Kd.C Kd.string w A0 l0.length l0) (hc0 : l0.length ≤ c0) (eg1_ : ∀ args w, (callFunc G1_ args).run Tryz.prog w = .ok (.enter G1_ args) w) (hq1_ : ∀ (z0 : ByteArray) (zr0 : Bool) (W_ : World), Below w.heap.size w W_ → a1 z0 = some zr0 → Calls Tryz.prog G1_ (#[.string z0] ++ B1_) W_ fun e w' => e = .returned (.bool zr0) ∧ Below W_.heap.size W_ w') (h : slices_ContainsFunc_string_string.f k l0 a1 = some r) :
  Calls Tryz.prog 66 #[.slice A0 l0.length c0, .func (.func G1_) #[] B1_] w fun e w' => e = .returned (.bool r) ∧ Below w.heap.size w w' := by
 have HR0 := Aside0.mk hr0
 have HC0 := Aside0.mk hc0
 clear hr0 hc0
 have HB := Aside0.mk (Below.refl w.heap.size w)
 have H : ((slices_IndexFunc_string_string.f k l0 a1).bind fun t189 => (some (decide (t189 ≥ 0)))) = some r := h
 clear h
 replace H := Option.bind_eq_some_iff.mp H
 obtain ⟨t189, A30, H⟩ := H
 have A3 := Aside0.mk A30
 clear A30
 obtain rfl := Option.some.inj H
 go_enter Tryz.func66, Tryz.ntmps66
 go_wp2_with (first | ((with_reducible refine gate_callee (f := 138) rfl ?_); refine goesL_ (some 7) rfl rfl Tryz.func138 (by kernel_rfl) rfl #[.slice A0 l0.length c0, .func (.func G1_) #[] B1_] rfl z2_ ?_; (with_reducible refine (slices_IndexFunc_string_string.calls k _ _ l0 G1_ B1_ a1 t189 _ ?side1 ?side2 ?side3 ?side4 A3.out).mono ?_); (case side1 => repeat (first | exact HR0.out | (with_reducible refine Kd.C_alloc ?_ _) | (with_reducible refine Kd.C_drewN ?_ _) | (with_reducible refine Kd.C_drew ?_))); (case side2 => exact HC0.out); (case side3 => exact eg1_); (case side4 => intro z0_ z1_ W_ hB_ h_; exact hq1_ z0_ z1_ _ (Below.trans (hb_ HB.out) (hB_.mono (below_size (hb_ HB.out)))) h_); rintro e w4 ⟨rfl, hb⟩; refine ⟨_, rfl, ?_⟩; replace HB := Aside0.mk (below_step (hb_ HB.out) hb); (try clear hb); (try clear hb2); (try clear hk); (try clear hi)))
 go_ret
 exact ⟨z4_, hb_ HB.out⟩

end Go.Proofs.YtbhfbbfjdklfgaaGreatDoor.Q


/- strings.Split at a separator of one byte returns the pieces, in new memory. -/
namespace Go.Proofs.YtbhfbbfjdklfgaaGreatDoor.Q
open Go.RowKit Go.Lib Go.Proofs.YtbhfbbfjdklfgaaGreatDoorW.PrintWords Go.Proofs.YtbhfbbfjdklfgaaGreatDoorW.PrintLast

theorem R_strings (e : Nat) (w : World) (l : List ByteArray) (hl : l.length ≤ maxLen) :
    Kd.R Kd.string e (w.alloc (.cells (l.map Value.string).toArray e)) w.heap.size (fun _ => True) (.slice (some ⟨w.heap.size, 0, none⟩) l.length l.length) l := by
  refine ⟨fun _ _ => trivial, l.map Value.string, ⟨by simp [Kd.string, Kd.scalar], .inr ⟨w.heap.size, l.length, (l.map Value.string).toArray, rfl, Nat.le_refl _, heap_alloc_new w _, Nat.le_refl _, hl, by simp [Kd.string, Kd.scalar], List.take_of_length_le (by simp [Kd.string, Kd.scalar])⟩⟩, by simp [Kd.string, Kd.scalar], fun j p hp => ?_⟩
  show ((l.map Value.string).drop (j * 1)).take 1 = [.string p]
  have hj := (List.getElem?_eq_some_iff.1 hp).1
  rw [Nat.mul_one, List.drop_eq_getElem_cons (by simpa using hj)]
  have : l[j] = p := by simpa [List.getElem?_eq_getElem hj] using hp
  simp [this]

def strings_Split.f (a0 : ByteArray) (a1 : ByteArray) : Option (List ByteArray) := if a1.size = 1 ∧ a0.size < 4294967281 then some (Lib.splitB a1 0 (Lib.countB a0 a1) a0) else none

set_option maxHeartbeats 1000000 in
theorem strings_Split.calls (a0 : ByteArray) (a1 : ByteArray) (r : List ByteArray) (w : World) (h : strings_Split.f a0 a1 = some r) :
    Calls Tryz.prog 200 #[.string a0, .string a1] w fun e w' => ∃ v0_ : Value, e = .returned (v0_) ∧ Kd.R Kd.string 9 w' w.heap.size (fun _ => True) v0_ r ∧ Below w.heap.size w w' := by
  unfold strings_Split.f at h
  split at h
  case isFalse => cases h
  case isTrue hc =>
  obtain rfl := Option.some.inj h
  obtain ⟨c, rfl⟩ := Lib.one_byte a1 hc.1
  have h1 : 1 ≤ (⟨#[c]⟩ : ByteArray).size := by rw [hc.1]; exact Nat.le_refl _
  have hle := Lib.countB_le ⟨#[c]⟩ h1 a0.size a0 (Nat.le_refl _)
  have hlen := Lib.splitB_all ⟨#[c]⟩ h1 0 _ a0 rfl
  have ct := Any.strings_genSplit_core Tryz.lays221 (by kernel_rfl) a0 ⟨#[c]⟩ 0 (-1) (Lib.countB a0 ⟨#[c]⟩ + 1) w hc.2 h1 (Nat.zero_le _)
    (fun x C hx => by
      refine (Tryz.strings_Index_one x c _).mono fun e w' ⟨he, hw⟩ => ⟨?_, hw⟩
      rw [he]
      show _ = Ending.returned (Value.int .i64 (Lib.index x.data.toList [c]))
      rw [Lib.index_one])
    (by
      refine (Tryz.strings_Count_one a0 c w).mono fun e w' ⟨he, hw⟩ => ⟨?_, hw⟩
      rw [he]
      show _ = Ending.returned (Value.int .i64 ((Lib.count a0.data.toList [c] : Nat) : Int))
      rw [Lib.count_one]
      rfl) (by decide) (by decide) (by rw [if_pos (by decide)]; omega)
  rw [Nat.add_sub_cancel, hlen] at ct
  have e2 : Lib.cellsOf (Lib.splitB ⟨#[c]⟩ 0 (Lib.countB a0 ⟨#[c]⟩) a0) (Lib.countB a0 ⟨#[c]⟩ + 1) = ((Lib.splitB ⟨#[c]⟩ 0 (Lib.countB a0 ⟨#[c]⟩) a0).map Value.string).toArray := by rw [← hlen]; exact Lib.cellsOf_full _
  rw [e2] at ct
  have HR := R_strings 9 w (Lib.splitB ⟨#[c]⟩ 0 (Lib.countB a0 ⟨#[c]⟩) a0) (by rw [hlen]; unfold maxLen; omega)
  rw [hlen] at HR
  go_enter Tryz.func200, Tryz.ntmps200
  go_wp2_with (go_at_call 234; refine (show Calls _ 234 _ _ _ from ct).mono ?_; rintro e w' ⟨rfl, hw⟩; rw [hw])
  go_ret
  exact ⟨_, rfl, HR, below_alloc (Below.refl _ _) _⟩
end Go.Proofs.YtbhfbbfjdklfgaaGreatDoor.Q


namespace Go.Proofs.YtbhfbbfjdklfgaaGreatDoor.Q
open Go.RowKit Go.Proofs.YtbhfbbfjdklfgaaGreatDoorW.PrintWords Go.Proofs.YtbhfbbfjdklfgaaGreatDoorW.PrintLast Go.Proofs.YtbhfbbfjdklfgaaGreatDoorW.PrintMore
attribute [local go_sem] max2_int min2_int max_two min_two max_three min_three max_four min_four   -- for this text's walks alone


mutual
def path_part.j0 : Nat → ByteArray → Bool → Option (Bool)
 | 0, _, _ => none
 | k + 1, x0, x23 => if x23 = true then (some false) else (path_part.l0 k x0 (x0.size : Int) 0)
def path_part.l0 : Nat → ByteArray → Int → Int → Option (Bool)
 | 0, _, _, _ => none
 | k + 1, x0, x25, x26 => if x26 < x25 then (if 0 ≤ x26 then (if x26 < (x0.size : Int) then (if (bt x0 x26) < 32 then (some false) else (path_part.l0 k x0 x25 (wrap64 (x26 + 1)))) else (none)) else (none)) else (some true)
end
def path_part.f (k : Nat) (a0 : ByteArray) : Option (Bool) := if (a0.size : Int) < 1 then (path_part.j0 k a0 true) else (if (a0.size : Int) > 64 then (path_part.j0 k a0 true) else (if a0.toList = ([46] : List UInt8) then (path_part.j0 k a0 true) else (if a0.toList = ([46, 46] : List UInt8) then (path_part.j0 k a0 true) else (path_part.j0 k a0 (a0.toList == ([46, 103, 114, 97, 102, 116] : List UInt8))))))
theorem path_part.mono_l : ∀ k, (∀ y0 y1, LeO (path_part.j0 k y0 y1) (path_part.j0 (k + 1) y0 y1)) ∧ (∀ y0 y1 y2, LeO (path_part.l0 k y0 y1 y2) (path_part.l0 (k + 1) y0 y1 y2))
 | 0 => ⟨fun _ _ r h => by simp [path_part.j0] at h, fun _ _ _ r h => by simp [path_part.l0] at h⟩
 | k + 1 => by
  obtain ⟨ih0, ih1⟩ := path_part.mono_l k
  refine ⟨?_, ?_⟩
  ·intro y0 y1
   unfold path_part.j0
   have m0_ := @ih0
   have m1_ := @ih1
   exact mz_
  ·intro y0 y1 y2
   unfold path_part.l0
   have m0_ := @ih0
   have m1_ := @ih1
   exact mz_
theorem path_part.mono : ∀ a0 k, LeO (path_part.f k a0) (path_part.f (k + 1) a0) := by
 intro a0 k
 obtain ⟨ih0, ih1⟩ := path_part.mono_l k
 unfold path_part.f
 have m0_ := @ih0
 have m1_ := @ih1
 exact mz_
set_option maxHeartbeats 8000000 in
set_option maxRecDepth 100000 in
theorem path_part.calls (k : Nat) (a0 : ByteArray) (r : Bool) (w : World) (h : path_part.f k a0 = some r) :
  Calls Tryz.prog 201 #[.string a0] w fun e w' => e = .returned (.bool r) ∧ Drawn0 w w' := by
 have H : (if (a0.size : Int) < 1 then (path_part.j0 k a0 true) else (if (a0.size : Int) > 64 then (path_part.j0 k a0 true) else (if a0.toList = ([46] : List UInt8) then (path_part.j0 k a0 true) else (if a0.toList = ([46, 46] : List UInt8) then (path_part.j0 k a0 true) else (path_part.j0 k a0 (a0.toList == ([46, 103, 114, 97, 102, 116] : List UInt8))))))) = some r := h
 clear h
 have HC2 := Aside0.mk H
 clear H
 go_enter Tryz.func201, Tryz.ntmps201
 go_upto_region 1 with (fail)
 go_cut [23] (fun v23 wc => ∃ (kq : Nat) (x23_1 : Bool), v23 = .bool x23_1 ∧ Aside0 (path_part.j0 kq a0 x23_1 = some r) ∧ Aside0 (kq ≤ k) ∧ Drawn0 w wc)
 case first =>
  have H := HC2.out
  clear HC2
  by_cases c3 : (a0.size : Int) < 1
  ·rw [if_pos c3] at H
   have c3b0 := decide_eq_true c3
   have c3b1 : decide (a0.size < 1) = true := decide_eq_true (by omega)
   clear c3
   (first | rw [c3b0] | (simp only [i64_w, i32_w]; rw [c3b0]) | skip)
   have H' := Aside0.mk H
   clear H
   go_wp2
   go_meet
   case rel => exact ⟨_, (true), z1_, H', ⟨z5_⟩, z3_⟩
  ·rw [if_neg c3] at H
   have c3b0 := decide_eq_false c3
   have c3b1 : decide (a0.size < 1) = false := decide_eq_false (by omega)
   clear c3
   (first | rw [c3b0] | (simp only [i64_w, i32_w]; rw [c3b0]) | skip)
   by_cases c4 : (a0.size : Int) > 64
   ·rw [if_pos c4] at H
    have c4b0 := decide_eq_true c4
    have c4b1 : decide (64 < a0.size) = true := decide_eq_true (by omega)
    clear c4
    have H' := Aside0.mk H
    clear H
    go_wp2
    go_meet
    case rel => exact ⟨_, (true), z1_, H', ⟨z5_⟩, z3_⟩
   ·rw [if_neg c4] at H
    have c4b0 := decide_eq_false c4
    have c4b1 : decide (64 < a0.size) = false := decide_eq_false (by omega)
    clear c4
    by_cases c5 : a0.toList = ([46] : List UInt8)
    ·rw [if_pos c5] at H
     have c5b0 := beq_iff_eq.mpr c5
     have c5b1 := bne_eq_false_iff_eq.mpr c5
     clear c5
     have H' := Aside0.mk H
     clear H
     go_wp2
     go_meet
     case rel => exact ⟨_, (true), z1_, H', ⟨z5_⟩, z3_⟩
    ·rw [if_neg c5] at H
     have c5b0 := beq_eq_false_iff_ne.mpr c5
     have c5b1 := bne_iff_ne.mpr c5
     by_cases c6 : a0.toList = ([46, 46] : List UInt8)
     ·rw [if_pos c6] at H
      have c6b0 := beq_iff_eq.mpr c6
      have c6b1 := bne_eq_false_iff_eq.mpr c6
      clear c6
      have H' := Aside0.mk H
      clear H
      go_wp2
      go_meet
      case rel => exact ⟨_, (true), z1_, H', ⟨z5_⟩, z3_⟩
     ·rw [if_neg c6] at H
      have c6b0 := beq_eq_false_iff_ne.mpr c6
      have c6b1 := bne_iff_ne.mpr c6
      have H' := Aside0.mk H
      clear H
      go_wp2
      go_meet
      case rel => exact ⟨_, ((a0.toList == ([46, 103, 114, 97, 102, 116] : List UInt8))), z1_, H', ⟨z5_⟩, z3_⟩
 case rest =>
  clear HC2
  try clear c2
  try clear p2
  try clear c3
  try clear c3b0
  try clear c3b1
  try clear c4
  try clear c4b0
  try clear c4b1
  try clear c5
  try clear c5b0
  try clear c5b1
  try clear c6
  try clear c6b0
  try clear c6b1
  obtain ⟨kq, x23_1, rfl, HA, HJ1, ⟨mc1, rfl⟩⟩ := hcut
  cases kq with
  | zero => exact absurd HA.out (by simp [path_part.j0])
  | succ kj1 =>
   have H := HA.out
   clear HA
   simp only [path_part.j0] at H
   by_cases c7 : x23_1 = true
   ·subst c7
    have H1 : (some false) = some r := by rw [if_pos rfl] at H; exact H
    clear H
    have H := H1
    clear H1
    obtain rfl := Option.some.inj H
    go_wp2
    go_ret
    exact ⟨z1_, z3_⟩
   ·replace c7 := Bool.eq_false_iff.mpr c7
    subst c7
    have H1 : (path_part.l0 kj1 a0 (a0.size : Int) 0) = some r := by rw [if_neg (show ¬ (false = true) by decide)] at H; exact H
    clear H
    have H := H1
    clear H1
    have H' := Aside0.mk H
    clear H
    go_wp2
    go_loopg [26] kj1 (fun kq v26 w' => ∃ (x26_2 : Int), v26 = .int .i64 x26_2 ∧ Aside0 (path_part.l0 kq a0 (a0.size : Int) x26_2 = some r) ∧ Aside0 (kq ≤ kj1) ∧ Drawn0 w w')
    case atStart => exact ⟨(0), z1_, H', ⟨Nat.le_refl _⟩, z3_⟩
    case round =>
     clear H'
     try clear c1
     try clear c2
     try clear p2
     try clear c3
     try clear c3b0
     try clear c3b1
     try clear c4
     try clear c4b0
     try clear c4b1
     try clear c5
     try clear c5b0
     try clear c5b1
     try clear c6
     try clear c6b0
     try clear c6b1
     try clear c7
     try clear p2
     obtain ⟨x26_2, rfl, HA, HK2, ⟨m2, rfl⟩⟩ := hrel
     cases gk with
     | zero => exact absurd HA.out (by simp [path_part.l0])
     | succ k2 =>
      have H := HA.out
      clear HA
      simp only [path_part.l0] at H
      by_cases c8 : x26_2 < (a0.size : Int)
      ·rw [if_pos c8] at H
       have c8b0 := decide_eq_true c8
       clear c8
       by_cases c9 : 0 ≤ x26_2
       ·rw [if_pos c9] at H
        have c9b0 := decide_eq_true c9
        clear c9
        by_cases c10 : x26_2 < (a0.size : Int)
        ·rw [if_pos c10] at H
         have c10b0 := decide_eq_true c10
         clear c10
         by_cases c12 : (bt a0 x26_2) < 32
         ·rw [if_pos c12] at H
          have c12b0 := decide_eq_true c12
          clear c12
          obtain rfl := Option.some.inj H
          have p11 : 0 ≤ (x26_2 : Int) := of_decide_eq_true z0_
          have q11 : x26_2 < (a0.size : Int) := of_decide_eq_true z0_
          have hx11 := bt_at a0 x26_2
          replace p11 := eq_true p11
          replace q11 := eq_true q11
          go_wp2
          go_ret
          exact ⟨z1_, z3_⟩
         ·rw [if_neg c12] at H
          have c12b0 := decide_eq_false c12
          clear c12
          have H' := Aside0.mk H
          clear H
          have p11 : 0 ≤ (x26_2 : Int) := of_decide_eq_true z0_
          have q11 : x26_2 < (a0.size : Int) := of_decide_eq_true z0_
          have hx11 := bt_at a0 x26_2
          replace p11 := eq_true p11
          replace q11 := eq_true q11
          go_wp2
          go_roundg k2
          case measure => have := HJ1.out; have := HK2.out; omega
          case rel => exact ⟨(wrap64 (x26_2 + 1)), z1_, H', ⟨by have := HJ1.out; have := HK2.out; omega⟩, z3_⟩
        ·rw [if_neg c10] at H
         exact absurd H (by simp)
       ·rw [if_neg c9] at H
        exact absurd H (by simp)
      ·rw [if_neg c8] at H
       have c8b0 := decide_eq_false c8
       clear c8
       obtain rfl := Option.some.inj H
       go_wp2
       go_ret
       exact ⟨z1_, z3_⟩


mutual
def path_Is.j0 : Nat → ByteArray → Bool → Option (Bool)
 | 0, _, _ => none
 | k + 1, x0, x12 => if x12 = true then (some false) else ((strings_Split.f x0 (⟨#[47]⟩ : ByteArray)).bind fun t107 => (path_Is.l0 k t107 t107 (t107.length : Int) 0))
def path_Is.l0 : Nat → List ByteArray → List ByteArray → Int → Int → Option (Bool)
 | 0, _, _, _, _ => none
 | k + 1, x3, x15, x16, x17 => if x17 < x16 then (if 0 ≤ x17 then (if x17 < (x15.length : Int) then ((path_part.f k (rdOf ByteArray.empty x15 x17)).bind fun t111 => (if t111 = true then (path_Is.l0 k x3 x15 x16 (wrap64 (x17 + 1))) else (some false))) else (none)) else (none)) else (some (decide ((x3.length : Int) ≤ 16)))
end
def path_Is.f (k : Nat) (a0 : ByteArray) : Option (Bool) := if a0.toList = ([] : List UInt8) then (path_Is.j0 k a0 true) else (path_Is.j0 k a0 (decide ((a0.size : Int) > 255)))
theorem path_Is.mono_l : ∀ k, (∀ y0 y1, LeO (path_Is.j0 k y0 y1) (path_Is.j0 (k + 1) y0 y1)) ∧ (∀ y0 y1 y2 y3, LeO (path_Is.l0 k y0 y1 y2 y3) (path_Is.l0 (k + 1) y0 y1 y2 y3))
 | 0 => ⟨fun _ _ r h => by simp [path_Is.j0] at h, fun _ _ _ _ r h => by simp [path_Is.l0] at h⟩
 | k + 1 => by
  obtain ⟨ih0, ih1⟩ := path_Is.mono_l k
  refine ⟨?_, ?_⟩
  ·intro y0 y1
   unfold path_Is.j0
   have m0_ := @ih0
   have m1_ := @ih1
   have m2_ := @path_part.mono
   exact mz_
  ·intro y0 y1 y2 y3
   unfold path_Is.l0
   have m0_ := @ih0
   have m1_ := @ih1
   have m2_ := @path_part.mono
   exact mz_
theorem path_Is.mono : ∀ a0 k, LeO (path_Is.f k a0) (path_Is.f (k + 1) a0) := by
 intro a0 k
 obtain ⟨ih0, ih1⟩ := path_Is.mono_l k
 unfold path_Is.f
 have m0_ := @ih0
 have m1_ := @ih1
 have m2_ := @path_part.mono
 exact mz_
set_option maxHeartbeats 8000000 in
set_option maxRecDepth 100000 in
theorem path_Is.calls (k : Nat) (a0 : ByteArray) (r : Bool) (w : World) (h : path_Is.f k a0 = some r) :
  Calls Tryz.prog 156 #[.string a0] w fun e w' => e = .returned (.bool r) ∧ Below w.heap.size w w' := by
 have HB := Aside0.mk (Below.refl w.heap.size w)
 have H : (if a0.toList = ([] : List UInt8) then (path_Is.j0 k a0 true) else (path_Is.j0 k a0 (decide ((a0.size : Int) > 255)))) = some r := h
 clear h
 have HC2 := Aside0.mk H
 clear H
 go_enter Tryz.func156, Tryz.ntmps156
 go_upto_region 1 with (fail)
 go_cut [12] (fun v12 wc => ∃ (kq : Nat) (x12_1 : Bool), v12 = .bool x12_1 ∧ Aside0 (path_Is.j0 kq a0 x12_1 = some r) ∧ Aside0 (kq ≤ k) ∧ Aside0 (Below w.heap.size w wc))
 case first =>
  have H := HC2.out
  clear HC2
  by_cases c3 : a0.toList = ([] : List UInt8)
  ·rw [if_pos c3] at H
   have c3b0 := beq_iff_eq.mpr c3
   have c3b1 := bne_eq_false_iff_eq.mpr c3
   clear c3
   (first | rw [c3b0] | (simp only [i64_w, i32_w]; rw [c3b0]) | skip)
   have H' := Aside0.mk H
   clear H
   go_wp2
   go_meet
   case rel => exact ⟨_, (true), z1_, H', ⟨z5_⟩, ⟨hb_ HB.out⟩⟩
  ·rw [if_neg c3] at H
   have c3b0 := beq_eq_false_iff_ne.mpr c3
   have c3b1 := bne_iff_ne.mpr c3
   (first | rw [c3b0] | (simp only [i64_w, i32_w]; rw [c3b0]) | skip)
   have H' := Aside0.mk H
   clear H
   go_wp2
   go_meet
   case rel => exact ⟨_, (decide ((a0.size : Int) > 255)), z1_, H', ⟨z5_⟩, ⟨hb_ HB.out⟩⟩
 case rest =>
  clear HC2
  try clear c1
  try clear p2
  try clear c3
  try clear c3b0
  try clear c3b1
  obtain ⟨kq, x12_1, rfl, HA, HJ1, HB⟩ := hcut
  cases kq with
  | zero => exact absurd HA.out (by simp [path_Is.j0])
  | succ kj1 =>
   have H := HA.out
   clear HA
   simp only [path_Is.j0] at H
   by_cases c4 : x12_1 = true
   ·subst c4
    have H1 : (some false) = some r := by rw [if_pos rfl] at H; exact H
    clear H
    have H := H1
    clear H1
    obtain rfl := Option.some.inj H
    go_wp2
    go_ret
    exact ⟨z4_, hb_ HB.out⟩
   ·replace c4 := Bool.eq_false_iff.mpr c4
    subst c4
    have H1 : ((strings_Split.f a0 (⟨#[47]⟩ : ByteArray)).bind fun t107 => (path_Is.l0 kj1 t107 t107 (t107.length : Int) 0)) = some r := by rw [if_neg (show ¬ (false = true) by decide)] at H; exact H
    clear H
    have H := H1
    clear H1
    replace H := Option.bind_eq_some_iff.mp H
    obtain ⟨t107, A50, H⟩ := H
    have A5 := Aside0.mk A50
    clear A50
    have H' := Aside0.mk H
    clear H
    go_wp2_with (first | ((with_reducible refine gate_callee (f := 200) rfl ?_); refine goesL_ (some 14) rfl rfl Tryz.func200 (by kernel_rfl) rfl #[.string a0, .string (⟨#[47]⟩ : ByteArray)] rfl z2_ ?_; (with_reducible refine (strings_Split.calls a0 (⟨#[47]⟩ : ByteArray) t107 _ A5.out).mono ?_); rintro e w6 ⟨v108, rfl, ho0, hb⟩; refine ⟨_, rfl, ?_⟩; have HO109 := Aside0.mk (Kd.R_lower ho0 (below_size (hb_ HB.out))); replace HB := Aside0.mk (below_step (hb_ HB.out) hb); (try clear hb); (try clear hb2); (try clear hk); (try clear hi); (try clear ho0); obtain ⟨Ao7, co7, eo7⟩ := Kd.R_slice HO109.out; subst eo7))
    go_loopg [17] kj1 (fun kq v17 w' => ∃ (x17_2 : Int), v17 = .int .i64 x17_2 ∧ Aside0 (path_Is.l0 kq t107 t107 (t107.length : Int) x17_2 = some r) ∧ Aside0 (kq ≤ kj1) ∧ Aside0 (Kd.R Kd.string 9 w' w.heap.size (fun _ => True) (.slice Ao7 t107.length co7) t107) ∧ Aside0 (Kd.R Kd.string 9 w' w.heap.size (fun _ => True) (.slice Ao7 t107.length co7) t107) ∧ Aside0 (Below w.heap.size w w'))
    case atStart => exact ⟨(0), z1_, H', ⟨Nat.le_refl _⟩, ⟨by (with_reducible repeat (first | apply Kd.R_alloc | apply Kd.R_drewN | apply Kd.R_drew)); exact HO109.out⟩, ⟨by (with_reducible repeat (first | apply Kd.R_alloc | apply Kd.R_drewN | apply Kd.R_drew)); exact HO109.out⟩, ⟨hb_ HB.out⟩⟩
    case round =>
     clear H'
     try clear c1
     try clear c2
     try clear p2
     try clear c3
     try clear c3b0
     try clear c3b1
     try clear c4
     try clear p2
     obtain ⟨x17_2, rfl, HA, HK2, HO_3, HO_15, HB⟩ := hrel
     cases gk with
     | zero => exact absurd HA.out (by simp [path_Is.l0])
     | succ k2 =>
      have H := HA.out
      clear HA
      simp only [path_Is.l0] at H
      by_cases c8 : x17_2 < (t107.length : Int)
      ·rw [if_pos c8] at H
       have c8b0 := decide_eq_true c8
       clear c8
       by_cases c9 : 0 ≤ x17_2
       ·rw [if_pos c9] at H
        have c9b0 := decide_eq_true c9
        clear c9
        by_cases c10 : x17_2 < (t107.length : Int)
        ·rw [if_pos c10] at H
         have c10b0 := decide_eq_true c10
         clear c10
         replace H := Option.bind_eq_some_iff.mp H
         obtain ⟨t111, A110, H⟩ := H
         have A11 := Aside0.mk A110
         clear A110
         by_cases c12 : t111 = true
         ·subst c12
          have H1 : (path_Is.l0 k2 t107 t107 (t107.length : Int) (wrap64 (x17_2 + 1))) = some r := by rw [if_pos rfl] at H; exact H
          clear H
          have H := H1
          clear H1
          have H' := Aside0.mk H
          clear H
          have p110 : 0 ≤ (x17_2 : Int) := of_decide_eq_true z0_
          have q110 : x17_2 < (t107.length : Int) := of_decide_eq_true z0_
          obtain ⟨ad110, e110, hx110_0⟩ := Kd.at_string (Kd.R_reads' HO_15.out).2.2 x17_2 p110 q110
          cases e110
          replace p110 := eq_true p110
          replace q110 := eq_true q110
          go_wp2_with (first | ((with_reducible refine gate_callee (f := 201) rfl ?_); refine goesL_ (some 22) rfl rfl Tryz.func201 (by kernel_rfl) rfl #[.string (rdOf ByteArray.empty t107 x17_2)] rfl z2_ ?_; (with_reducible refine (path_part.calls k2 (rdOf ByteArray.empty t107 x17_2) true _ A11.out).mono ?_); rintro e w' ⟨rfl, ⟨nd, rfl⟩⟩; refine ⟨_, rfl, ?_⟩))
          go_roundg k2
          case measure => have := HJ1.out; have := HK2.out; omega
          case rel => exact ⟨(wrap64 (x17_2 + 1)), z1_, H', ⟨by have := HJ1.out; have := HK2.out; omega⟩, ⟨z17_⟩, ⟨by (with_reducible repeat (first | apply Kd.R_alloc | apply Kd.R_drewN | apply Kd.R_drew)); exact HO_15.out⟩, ⟨hb_ HB.out⟩⟩
         ·replace c12 := Bool.eq_false_iff.mpr c12
          subst c12
          have H1 : (some false) = some r := by rw [if_neg (show ¬ (false = true) by decide)] at H; exact H
          clear H
          have H := H1
          clear H1
          obtain rfl := Option.some.inj H
          have p110 : 0 ≤ (x17_2 : Int) := of_decide_eq_true z0_
          have q110 : x17_2 < (t107.length : Int) := of_decide_eq_true z0_
          obtain ⟨ad110, e110, hx110_0⟩ := Kd.at_string (Kd.R_reads' HO_15.out).2.2 x17_2 p110 q110
          cases e110
          replace p110 := eq_true p110
          replace q110 := eq_true q110
          go_wp2_with (first | ((with_reducible refine gate_callee (f := 201) rfl ?_); refine goesL_ (some 22) rfl rfl Tryz.func201 (by kernel_rfl) rfl #[.string (rdOf ByteArray.empty t107 x17_2)] rfl z2_ ?_; (with_reducible refine (path_part.calls k2 (rdOf ByteArray.empty t107 x17_2) false _ A11.out).mono ?_); rintro e w' ⟨rfl, ⟨nd, rfl⟩⟩; refine ⟨_, rfl, ?_⟩))
          go_ret
          exact ⟨z4_, hb_ HB.out⟩
        ·rw [if_neg c10] at H
         exact absurd H (by simp)
       ·rw [if_neg c9] at H
        exact absurd H (by simp)
      ·rw [if_neg c8] at H
       have c8b0 := decide_eq_false c8
       clear c8
       obtain rfl := Option.some.inj H
       go_wp2
       go_ret
       exact ⟨z4_, hb_ HB.out⟩



mutual
def graftageref06_part.j0 : Nat → ByteArray → Bool → Option (Bool)
 | 0, _, _ => none
 | k + 1, x0, x23 => if x23 = true then (some false) else (graftageref06_part.l0 k x0 0)
def graftageref06_part.l0 : Nat → ByteArray → Int → Option (Bool)
 | 0, _, _ => none
 | k + 1, x0, x3 => if x3 < (x0.size : Int) then (if 0 ≤ x3 then (if (bt x0 x3) < 32 then (some false) else (if (bt x0 x3) = 47 then (some false) else (graftageref06_part.l0 k x0 (wrap64 (x3 + 1))))) else (none)) else (some true)
end
def graftageref06_part.f (k : Nat) (a0 : ByteArray) : Option (Bool) := if (a0.size : Int) < 1 then (graftageref06_part.j0 k a0 true) else (if (a0.size : Int) > 64 then (graftageref06_part.j0 k a0 true) else (if a0.toList = ([46] : List UInt8) then (graftageref06_part.j0 k a0 true) else (if a0.toList = ([46, 46] : List UInt8) then (graftageref06_part.j0 k a0 true) else (graftageref06_part.j0 k a0 (a0.toList == ([46, 103, 114, 97, 102, 116] : List UInt8))))))

mutual
def graftageref06_Is.j0 : Nat → List ByteArray → Bool → Option (Bool)
 | 0, _, _ => none
 | k + 1, x3, x19 => if x19 = true then (some false) else (graftageref06_Is.l0 k x3 0)
def graftageref06_Is.l0 : Nat → List ByteArray → Int → Option (Bool)
 | 0, _, _ => none
 | k + 1, x3, x4 => if x4 < (x3.length : Int) then (if 0 ≤ x4 then ((graftageref06_part.f k (rdOf ByteArray.empty x3 x4)).bind fun t170 => (if t170 = true then (graftageref06_Is.l0 k x3 (wrap64 (x4 + 1))) else (some false))) else (none)) else (some true)
end
end Go.Proofs.YtbhfbbfjdklfgaaGreatDoor.Q


/- Paths: the parts between slashes, and what is a path; the program's and the reference's. -/
namespace Go.Proofs.YtbhfbbfjdklfgaaGreatDoor.Q
open Go.RowKit Go.Proofs.YtbhfbbfjdklfgaaGreatDoorW.PrintWords Go.Proofs.YtbhfbbfjdklfgaaGreatDoorW.PrintLast Go.Proofs.YtbhfbbfjdklfgaaGreatDoorW.PrintMore

theorem wrap_id {x : Int} (h0 : -9223372036854775808 ≤ x) (h1 : x ≤ 9223372036854775807) : wrap64 x = x := by unfold wrap64; omega
theorem ba_ext {a b : ByteArray} (h : a.data.toList = b.data.toList) : a = b := by
  cases a; cases b; simp at h; simp [h]
theorem append_data (a b : ByteArray) : (a ++ b).data.toList = a.data.toList ++ b.data.toList := by simp
theorem bt_get (s : ByteArray) (i : Nat) (h : i < s.size) : bt s i = ((s.data.toList[i]'(by rw [← Lib.size_eq]; exact h)).toNat : Int) := by
  unfold bt
  simp only [Int.toNat_natCast]
  rw [dif_pos h]
  rfl
end Go.Proofs.YtbhfbbfjdklfgaaGreatDoor.Q


/- Laws of no program: copy, clear and an insert on rows whose elements have several cells. -/
namespace Go.Proofs.YtbhfbbfjdklfgaaGreatDoor.Q
open Go.RowKit Go.Lib Go.Proofs.YtbhfbbfjdklfgaaGreatDoorW.PrintWords Go.Proofs.YtbhfbbfjdklfgaaGreatDoorW.PrintLast Go.Proofs.YtbhfbbfjdklfgaaGreatDoorW.PrintMore
section
variable {P : Program}
end
theorem reps_append {α : Type} {R : α → List Value → Prop} {size : Nat} {ps qs : List α} {cs ds : List Value} (h : Reps R size ps cs) (k : Reps R size qs ds) : Reps R size (ps ++ qs) (cs ++ ds) := by
  refine ⟨by rw [List.length_append, List.length_append, h.1, k.1, Nat.add_mul], fun j p hj => ?_⟩
  rcases Nat.lt_or_ge j ps.length with hlt | hge
  · rw [List.getElem?_append_left hlt] at hj
    have hle : j * size + size ≤ cs.length := by rw [h.1, ← Nat.succ_mul]; exact Nat.mul_le_mul_right _ hlt
    rw [List.drop_append_of_le_length (by omega), List.take_append_of_le_length (by rw [List.length_drop]; omega)]
    exact h.2 j p hj
  · rw [List.getElem?_append_right hge] at hj
    have e : j * size = cs.length + (j - ps.length) * size := by rw [h.1, ← Nat.add_mul]; congr 1; omega
    rw [e, List.drop_append, List.drop_of_length_le (by omega : cs.length ≤ cs.length + (j - ps.length) * size), List.nil_append]
    rw [show cs.length + (j - ps.length) * size - cs.length = (j - ps.length) * size by omega]
    exact k.2 _ p hj
section
variable {P : Program} {ops : Array Oper} {rest : List Oper} {o : Oper} {a : Act} {Q : Exit → Act → World → Prop} {α : Type}
/-- 'make([]T, 0, n)'. -/
theorem R_makecap (d : Kd α) {w0 W : World} (base e : Nat) (hgd : o.guard = none) {N : Tmp} (_hd : o.dst = some N) (t : TypeId) (x y : Operand) (ho : o.op = .makeSlice t x y) (n : Int) (hx : a.eval x = .int .i64 0) (hy : a.eval y = .int .i64 n)
    (ht : P.underlying t = some (.slice e)) (z : Value) (bytes : Nat) (hinfo : (P.info? e).map (fun i => (i.zero, i.size, i.bytes)) = some (some z, d.sz, bytes)) (hz : z.cells.size = d.sz) (hb0 : 0 < bytes)
    {ok : Nat → Prop} (hfresh : ok W.heap.size) (h0 : 0 ≤ n) (hl : n.toNat * bytes ≤ 281474976710656) (HB : Below base w0 W) (hbase : base ≤ W.heap.size)
    (h : ∀ v1 w1, d.R e w1 base ok v1 [] → Below base w0 w1 → W.grownBy w1 none → (∃ b, v1.ownBlock = some b ∧ W.heap.size ≤ b) → wpList P ops Q rest (a.put o.dst v1) w1) : wpList P ops Q (o :: rest) a W := by
  obtain ⟨m, rfl⟩ := Int.eq_ofNat_of_zero_le h0
  simp only [Int.toNat_natCast] at hl
  obtain ⟨i0, hi, hzz⟩ := Option.map_eq_some_iff.1 hinfo
  simp only [Prod.mk.injEq] at hzz
  obtain ⟨hz0, hz1, hz2⟩ := hzz
  have hm : m ≤ 281474976710656 := Nat.le_trans (Nat.le_mul_of_pos_right _ hb0) hl
  have hr := run_make (P := P) W t e i0 z ht hi hz0 .i64 .i64 0 (m : Int) (by omega) (by omega)
    (by
      have h3 : ((i0.bytes * m : Nat) : Int) ≤ 281474976710656 := by rw [hz2, Nat.mul_comm]; omega
      rwa [Int.natCast_mul] at h3) (by omega)
  simp only [Int.toNat_natCast] at hr
  rw [hz1] at hr
  refine Kd.event_run hgd (v := .slice (some ⟨W.heap.size, 0, none⟩) 0 m) (w1 := W.alloc (.cells (madeCells z.cells (m * d.sz)) e)) (by simp [execOp, ho, hx, hy, hr]) (h _ _ ⟨fun k hk => ?_, [], ?_, ⟨by simp, fun j p hj => by simp at hj⟩⟩ (HB.alloc hbase _) (World.grownBy_alloc W _ none) ⟨W.heap.size, by simp [Value.ownBlock], Nat.le_refl _⟩)
  · have : W.heap.size = k := by simpa [Value.ownBlock] using hk
    subst this
    exact hfresh
  · exact World.ownsRow_made W (madeCells z.cells (m * d.sz)) m hbase (by unfold maxLen; omega) (by simp [madeCells])
end
section
variable {P : Program} {ops : Array Oper} {o : Oper} {a : Act} {Q : Exit → Act → World → Prop} {Kc : Act → World → Prop}
end
end Go.Proofs.YtbhfbbfjdklfgaaGreatDoor.Q


