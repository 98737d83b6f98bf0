/- The law CommitPersons holds: for every input it returns true, and each argument reads afterwards as it read before. -/
import Derived.Test.YtbhfbbfjdklfgaaGreatDoorMYCommitPersons1
import Derived.Test.YtbhfbbfjdklfgaaGreatDoorMCommitPersons1
import Derived.Test.YtbhfbbfjdklfgaaGreatDoorMCommitPersons2
import Derived.Test.YtbhfbbfjdklfgaaGreatDoorMCommitPersons3
import Derived.Laws.Cover1
import Derived.Maps.OwnOps
import Derived.Maps.OwnSet
import Derived.Maps.Views
set_option linter.unusedVariables false
set_option linter.unusedSimpArgs false
namespace Go.Proofs.YtbhfbbfjdklfgaaGreatDoor.Q
open Go.RowKit Go.Proofs.YtbhfbbfjdklfgaaGreatDoorW.PrintWords Go.Proofs.YtbhfbbfjdklfgaaGreatDoorW.PrintLast Go.Proofs.YtbhfbbfjdklfgaaGreatDoorW.PrintMore
attribute [local go_sem] max2_int min2_int max_two min_two max_three min_three max_four min_four   -- for this text's walks alone

def commit_TagBody.f (k : Nat) (a0_0 : ByteArray) (a0_1 : Int) (a0_2 : ByteArray) (a0_3 : ByteArray) (a0_4 : ByteArray) (a0_5 : Int) (a0_6 : Int) (a0_7 : ByteArray) : Option (ByteArray × Int) := (commit_CheckTag.f k a0_0 a0_1 a0_2 a0_3 a0_4 a0_5 a0_6 a0_7).bind fun t120 => (if t120 = 0 then (if 7 + a0_0.size ≤ 9223372036854775807 then (if ((⟨#[111, 98, 106, 101, 99, 116, 32]⟩ : ByteArray) ++ a0_0).size + 6 ≤ 9223372036854775807 then ((object_Word.f a0_1).bind fun t121 => (if (((⟨#[111, 98, 106, 101, 99, 116, 32]⟩ : ByteArray) ++ a0_0) ++ (⟨#[10, 116, 121, 112, 101, 32]⟩ : ByteArray)).size + t121.size ≤ 9223372036854775807 then (if ((((⟨#[111, 98, 106, 101, 99, 116, 32]⟩ : ByteArray) ++ a0_0) ++ (⟨#[10, 116, 121, 112, 101, 32]⟩ : ByteArray)) ++ t121).size + 5 ≤ 9223372036854775807 then (if (((((⟨#[111, 98, 106, 101, 99, 116, 32]⟩ : ByteArray) ++ a0_0) ++ (⟨#[10, 116, 121, 112, 101, 32]⟩ : ByteArray)) ++ t121) ++ (⟨#[10, 116, 97, 103, 32]⟩ : ByteArray)).size + a0_2.size ≤ 9223372036854775807 then (if ((((((⟨#[111, 98, 106, 101, 99, 116, 32]⟩ : ByteArray) ++ a0_0) ++ (⟨#[10, 116, 121, 112, 101, 32]⟩ : ByteArray)) ++ t121) ++ (⟨#[10, 116, 97, 103, 32]⟩ : ByteArray)) ++ a0_2).size + 8 ≤ 9223372036854775807 then ((commit_Who.f a0_3 a0_4 a0_5 a0_6).bind fun t122 => (if (((((((⟨#[111, 98, 106, 101, 99, 116, 32]⟩ : ByteArray) ++ a0_0) ++ (⟨#[10, 116, 121, 112, 101, 32]⟩ : ByteArray)) ++ t121) ++ (⟨#[10, 116, 97, 103, 32]⟩ : ByteArray)) ++ a0_2) ++ (⟨#[10, 116, 97, 103, 103, 101, 114, 32]⟩ : ByteArray)).size + t122.size ≤ 9223372036854775807 then (if ((((((((⟨#[111, 98, 106, 101, 99, 116, 32]⟩ : ByteArray) ++ a0_0) ++ (⟨#[10, 116, 121, 112, 101, 32]⟩ : ByteArray)) ++ t121) ++ (⟨#[10, 116, 97, 103, 32]⟩ : ByteArray)) ++ a0_2) ++ (⟨#[10, 116, 97, 103, 103, 101, 114, 32]⟩ : ByteArray)) ++ t122).size + 2 ≤ 9223372036854775807 then (if (((((((((⟨#[111, 98, 106, 101, 99, 116, 32]⟩ : ByteArray) ++ a0_0) ++ (⟨#[10, 116, 121, 112, 101, 32]⟩ : ByteArray)) ++ t121) ++ (⟨#[10, 116, 97, 103, 32]⟩ : ByteArray)) ++ a0_2) ++ (⟨#[10, 116, 97, 103, 103, 101, 114, 32]⟩ : ByteArray)) ++ t122) ++ (⟨#[10, 10]⟩ : ByteArray)).size + a0_7.size ≤ 9223372036854775807 then (some ((((((((((⟨#[111, 98, 106, 101, 99, 116, 32]⟩ : ByteArray) ++ a0_0) ++ (⟨#[10, 116, 121, 112, 101, 32]⟩ : ByteArray)) ++ t121) ++ (⟨#[10, 116, 97, 103, 32]⟩ : ByteArray)) ++ a0_2) ++ (⟨#[10, 116, 97, 103, 103, 101, 114, 32]⟩ : ByteArray)) ++ t122) ++ (⟨#[10, 10]⟩ : ByteArray)) ++ a0_7, 0)) else (none)) else (none)) else (none))) else (none)) else (none)) else (none)) else (none))) else (none)) else (none)) else (some ((⟨#[]⟩ : ByteArray), t120)))
theorem commit_TagBody.mono : ∀ a0 a1 a2 a3 a4 a5 a6 a7 k, LeO (commit_TagBody.f k a0 a1 a2 a3 a4 a5 a6 a7) (commit_TagBody.f (k + 1) a0 a1 a2 a3 a4 a5 a6 a7) := by
 intro a0 a1 a2 a3 a4 a5 a6 a7 k
 unfold commit_TagBody.f
 have m0_ := @commit_CheckTag.mono
 exact mz_
def commit_TagBody.T4 : Bool × List (List Nat × List Nat) := (true, [([], []), ([0], [0]), ([1], [1]), ([2], [2]), ([], []), ([4], [4]), ([5], [5]), ([3, 6], [3, 6]), ([7], [7]), ([], []), ([9], [9]), ([8, 10], [8, 10]), ([11], [11]), ([], []), ([13], [13]), ([14, 6], [14]), ([12, 15], [12, 15]), ([16], [16]), ([], []), ([18], [18]), ([17, 19], [17, 19]), ([20, 15, 0, 1, 2, 3, 4, 5, 6, 7, 8, 9, 10, 11, 12, 13, 14, 15, 16, 17, 18, 19, 20], [20]), ([21, 0, 1, 2, 3, 4, 5, 6, 7, 8, 9, 10, 11, 12, 13, 14, 15, 16, 17, 18, 19, 20, 21], [])])
def commit_TagBody.B4 : List Nat := [0, 1, 3, 7, 0, 16, 48, 127, 255, 0, 512, 2047, 4095, 0, 8192, 24688, 65535, 131071, 0, 262144, 1048575, 2097151, 4194303]
theorem commit_TagBody.tab4 : rtab .any (opsOf Tryz.f25 4) = commit_TagBody.T4 := by kernel_rfl
theorem commit_TagBody.bits4 : waitsOk commit_TagBody.T4.2 commit_TagBody.B4 = true := by kernel_rfl
set_option maxHeartbeats 8000000 in
set_option maxRecDepth 100000 in
theorem commit_TagBody.calls (k : Nat) (a0_0 : ByteArray) (a0_1 : Int) (a0_2 : ByteArray) (a0_3 : ByteArray) (a0_4 : ByteArray) (a0_5 : Int) (a0_6 : Int) (a0_7 : ByteArray) (r1 : ByteArray) (r2 : Int) (w : World) (hgv : GV w) (h : commit_TagBody.f k a0_0 a0_1 a0_2 a0_3 a0_4 a0_5 a0_6 a0_7 = some (r1, r2)) :
  Calls Tryz.prog 25 #[.agg #[.string a0_0, .int .i64 a0_1, .string a0_2, .string a0_3, .string a0_4, .int .i64 a0_5, .int .i64 a0_6, .string a0_7]] w fun e w' => e = .returned (.tuple #[.string r1, .int .i64 r2]) ∧ Below w.heap.size w w' := by
 have hu37 := Tryz.underlying37
 have hu24 := Tryz.underlying24
 have HB := Aside0.mk (Below.refl w.heap.size w)
 have H : ((commit_CheckTag.f k a0_0 a0_1 a0_2 a0_3 a0_4 a0_5 a0_6 a0_7).bind fun t120 => (if t120 = 0 then (if 7 + a0_0.size ≤ 9223372036854775807 then (if ((⟨#[111, 98, 106, 101, 99, 116, 32]⟩ : ByteArray) ++ a0_0).size + 6 ≤ 9223372036854775807 then ((object_Word.f a0_1).bind fun t121 => (if (((⟨#[111, 98, 106, 101, 99, 116, 32]⟩ : ByteArray) ++ a0_0) ++ (⟨#[10, 116, 121, 112, 101, 32]⟩ : ByteArray)).size + t121.size ≤ 9223372036854775807 then (if ((((⟨#[111, 98, 106, 101, 99, 116, 32]⟩ : ByteArray) ++ a0_0) ++ (⟨#[10, 116, 121, 112, 101, 32]⟩ : ByteArray)) ++ t121).size + 5 ≤ 9223372036854775807 then (if (((((⟨#[111, 98, 106, 101, 99, 116, 32]⟩ : ByteArray) ++ a0_0) ++ (⟨#[10, 116, 121, 112, 101, 32]⟩ : ByteArray)) ++ t121) ++ (⟨#[10, 116, 97, 103, 32]⟩ : ByteArray)).size + a0_2.size ≤ 9223372036854775807 then (if ((((((⟨#[111, 98, 106, 101, 99, 116, 32]⟩ : ByteArray) ++ a0_0) ++ (⟨#[10, 116, 121, 112, 101, 32]⟩ : ByteArray)) ++ t121) ++ (⟨#[10, 116, 97, 103, 32]⟩ : ByteArray)) ++ a0_2).size + 8 ≤ 9223372036854775807 then ((commit_Who.f a0_3 a0_4 a0_5 a0_6).bind fun t122 => (if (((((((⟨#[111, 98, 106, 101, 99, 116, 32]⟩ : ByteArray) ++ a0_0) ++ (⟨#[10, 116, 121, 112, 101, 32]⟩ : ByteArray)) ++ t121) ++ (⟨#[10, 116, 97, 103, 32]⟩ : ByteArray)) ++ a0_2) ++ (⟨#[10, 116, 97, 103, 103, 101, 114, 32]⟩ : ByteArray)).size + t122.size ≤ 9223372036854775807 then (if ((((((((⟨#[111, 98, 106, 101, 99, 116, 32]⟩ : ByteArray) ++ a0_0) ++ (⟨#[10, 116, 121, 112, 101, 32]⟩ : ByteArray)) ++ t121) ++ (⟨#[10, 116, 97, 103, 32]⟩ : ByteArray)) ++ a0_2) ++ (⟨#[10, 116, 97, 103, 103, 101, 114, 32]⟩ : ByteArray)) ++ t122).size + 2 ≤ 9223372036854775807 then (if (((((((((⟨#[111, 98, 106, 101, 99, 116, 32]⟩ : ByteArray) ++ a0_0) ++ (⟨#[10, 116, 121, 112, 101, 32]⟩ : ByteArray)) ++ t121) ++ (⟨#[10, 116, 97, 103, 32]⟩ : ByteArray)) ++ a0_2) ++ (⟨#[10, 116, 97, 103, 103, 101, 114, 32]⟩ : ByteArray)) ++ t122) ++ (⟨#[10, 10]⟩ : ByteArray)).size + a0_7.size ≤ 9223372036854775807 then (some ((((((((((⟨#[111, 98, 106, 101, 99, 116, 32]⟩ : ByteArray) ++ a0_0) ++ (⟨#[10, 116, 121, 112, 101, 32]⟩ : ByteArray)) ++ t121) ++ (⟨#[10, 116, 97, 103, 32]⟩ : ByteArray)) ++ a0_2) ++ (⟨#[10, 116, 97, 103, 103, 101, 114, 32]⟩ : ByteArray)) ++ t122) ++ (⟨#[10, 10]⟩ : ByteArray)) ++ a0_7, 0)) else (none)) else (none)) else (none))) else (none)) else (none)) else (none)) else (none))) else (none)) else (none)) else (some ((⟨#[]⟩ : ByteArray), t120)))) = some (r1, r2) := h
 clear h
 replace H := Option.bind_eq_some_iff.mp H
 obtain ⟨t120, A20, H⟩ := H
 have A2 := Aside0.mk A20
 clear A20
 by_cases c3 : t120 = 0
 ·rw [if_pos c3] at H
  have c3b0 := beq_iff_eq.mpr c3
  have c3b1 := bne_eq_false_iff_eq.mpr c3
  clear c3
  by_cases c4 : 7 + a0_0.size ≤ 9223372036854775807
  ·rw [if_pos c4] at H
   have c4b0 := eq_true c4
   have c4b1 := decide_eq_true c4
   try have c4b2 := nl_ c4
   by_cases c5 : ((⟨#[111, 98, 106, 101, 99, 116, 32]⟩ : ByteArray) ++ a0_0).size + 6 ≤ 9223372036854775807
   ·rw [if_pos c5] at H
    have c5b0 := eq_true c5
    have c5b1 := decide_eq_true c5
    try have c5b3 : (9223372036854775807 < 7 + a0_0.size + 6) = False := have h_ := c5; ns_
    try have c5b2 := nl_ c5
    replace H := Option.bind_eq_some_iff.mp H
    obtain ⟨t121, A60, H⟩ := H
    have A6 := Aside0.mk A60
    clear A60
    by_cases c7 : (((⟨#[111, 98, 106, 101, 99, 116, 32]⟩ : ByteArray) ++ a0_0) ++ (⟨#[10, 116, 121, 112, 101, 32]⟩ : ByteArray)).size + t121.size ≤ 9223372036854775807
    ·rw [if_pos c7] at H
     have c7b0 := eq_true c7
     have c7b1 := decide_eq_true c7
     try have c7b3 : (9223372036854775807 < 7 + a0_0.size + 6 + t121.size) = False := have h_ := c7; ns_
     try have c7b2 := nl_ c7
     by_cases c8 : ((((⟨#[111, 98, 106, 101, 99, 116, 32]⟩ : ByteArray) ++ a0_0) ++ (⟨#[10, 116, 121, 112, 101, 32]⟩ : ByteArray)) ++ t121).size + 5 ≤ 9223372036854775807
     ·rw [if_pos c8] at H
      have c8b0 := eq_true c8
      have c8b1 := decide_eq_true c8
      try have c8b3 : (9223372036854775807 < 7 + a0_0.size + 6 + t121.size + 5) = False := have h_ := c8; ns_
      try have c8b2 := nl_ c8
      by_cases c9 : (((((⟨#[111, 98, 106, 101, 99, 116, 32]⟩ : ByteArray) ++ a0_0) ++ (⟨#[10, 116, 121, 112, 101, 32]⟩ : ByteArray)) ++ t121) ++ (⟨#[10, 116, 97, 103, 32]⟩ : ByteArray)).size + a0_2.size ≤ 9223372036854775807
      ·rw [if_pos c9] at H
       have c9b0 := eq_true c9
       have c9b1 := decide_eq_true c9
       try have c9b3 : (9223372036854775807 < 7 + a0_0.size + 6 + t121.size + 5 + a0_2.size) = False := have h_ := c9; ns_
       try have c9b2 := nl_ c9
       by_cases c10 : ((((((⟨#[111, 98, 106, 101, 99, 116, 32]⟩ : ByteArray) ++ a0_0) ++ (⟨#[10, 116, 121, 112, 101, 32]⟩ : ByteArray)) ++ t121) ++ (⟨#[10, 116, 97, 103, 32]⟩ : ByteArray)) ++ a0_2).size + 8 ≤ 9223372036854775807
       ·rw [if_pos c10] at H
        have c10b0 := eq_true c10
        have c10b1 := decide_eq_true c10
        try have c10b3 : (9223372036854775807 < 7 + a0_0.size + 6 + t121.size + 5 + a0_2.size + 8) = False := have h_ := c10; ns_
        try have c10b2 := nl_ c10
        replace H := Option.bind_eq_some_iff.mp H
        obtain ⟨t122, A110, H⟩ := H
        have A11 := Aside0.mk A110
        clear A110
        by_cases c12 : (((((((⟨#[111, 98, 106, 101, 99, 116, 32]⟩ : ByteArray) ++ a0_0) ++ (⟨#[10, 116, 121, 112, 101, 32]⟩ : ByteArray)) ++ t121) ++ (⟨#[10, 116, 97, 103, 32]⟩ : ByteArray)) ++ a0_2) ++ (⟨#[10, 116, 97, 103, 103, 101, 114, 32]⟩ : ByteArray)).size + t122.size ≤ 9223372036854775807
        ·rw [if_pos c12] at H
         have c12b0 := eq_true c12
         have c12b1 := decide_eq_true c12
         try have c12b3 : (9223372036854775807 < 7 + a0_0.size + 6 + t121.size + 5 + a0_2.size + 8 + t122.size) = False := have h_ := c12; ns_
         try have c12b2 := nl_ c12
         by_cases c13 : ((((((((⟨#[111, 98, 106, 101, 99, 116, 32]⟩ : ByteArray) ++ a0_0) ++ (⟨#[10, 116, 121, 112, 101, 32]⟩ : ByteArray)) ++ t121) ++ (⟨#[10, 116, 97, 103, 32]⟩ : ByteArray)) ++ a0_2) ++ (⟨#[10, 116, 97, 103, 103, 101, 114, 32]⟩ : ByteArray)) ++ t122).size + 2 ≤ 9223372036854775807
         ·rw [if_pos c13] at H
          have c13b0 := eq_true c13
          have c13b1 := decide_eq_true c13
          try have c13b3 : (9223372036854775807 < 7 + a0_0.size + 6 + t121.size + 5 + a0_2.size + 8 + t122.size + 2) = False := have h_ := c13; ns_
          try have c13b2 := nl_ c13
          by_cases c14 : (((((((((⟨#[111, 98, 106, 101, 99, 116, 32]⟩ : ByteArray) ++ a0_0) ++ (⟨#[10, 116, 121, 112, 101, 32]⟩ : ByteArray)) ++ t121) ++ (⟨#[10, 116, 97, 103, 32]⟩ : ByteArray)) ++ a0_2) ++ (⟨#[10, 116, 97, 103, 103, 101, 114, 32]⟩ : ByteArray)) ++ t122) ++ (⟨#[10, 10]⟩ : ByteArray)).size + a0_7.size ≤ 9223372036854775807
          ·rw [if_pos c14] at H
           have c14b0 := eq_true c14
           have c14b1 := decide_eq_true c14
           try have c14b3 : (9223372036854775807 < 7 + a0_0.size + 6 + t121.size + 5 + a0_2.size + 8 + t122.size + 2 + a0_7.size) = False := have h_ := c14; ns_
           try have c14b2 := nl_ c14
           simp only [Option.some.injEq, Prod.mk.injEq] at H
           obtain ⟨rfl, rfl⟩ := H
           go_enter Tryz.func25, Tryz.ntmps25
           try go_wp2_with (first | ((with_reducible refine gate_dst (N := 1) rfl ?_); refine be_ (cs := #[.string a0_0, .int .i64 a0_1, .string a0_2, .string a0_3, .string a0_4, .int .i64 a0_5, .int .i64 a0_6, .string a0_7]) (t := 37) ?_; intro gb119 hg w15 hbox hb; have BK119 := Aside0.mk (hbox); have GW119 := Aside0.mk (gw_ hg HB.out); have GE119 := Aside0.mk (gw_ hg HB.out); replace HB := Aside0.mk (below_step (hb_ HB.out) hb); clear hb hbox hg; obtain ⟨hcz16_0, hcz16_1, hcz16_2, hcz16_3, hcz16_4, hcz16_5, hcz16_6, hcz16_7, hfz16_0, hfz16_1, hfz16_2, hfz16_3, hfz16_4, hfz16_5, hfz16_6, hfz16_7⟩ := bc8 BK119.out) | ((with_reducible refine gate_callee (f := 27) rfl ?_); refine goesL_ (some 6) rfl rfl Tryz.func27 (by kernel_rfl) rfl #[.agg #[.string a0_0, .int .i64 a0_1, .string a0_2, .string a0_3, .string a0_4, .int .i64 a0_5, .int .i64 a0_6, .string a0_7]] rfl z2_ ?_; (with_reducible refine (commit_CheckTag.calls k a0_0 a0_1 a0_2 a0_3 a0_4 a0_5 a0_6 a0_7 t120 _ ?side1 A2.out).mono ?_); (case side1 => exact GV.below hgv (hs_)); rintro e w17 ⟨rfl, hb⟩; refine ⟨_, rfl, ?_⟩; replace BK119 := Aside0.mk (bb_ BK119.out hb); replace HB := Aside0.mk (below_step (hs_) hb); (try clear hb); (try clear hb2); (try clear hk); (try clear hi)))
           replace BK119 := Aside0.mk (blk_drew BK119.out)
           replace HB := Aside0.mk (below_drew1 HB.out)
           refine start_ (n := 23) (S := fun w' => w'.cell? ⟨gb119, 0, none⟩ = some (.string a0_0) ∧ w'.cell? ⟨gb119, 1, none⟩ = some (.int .i64 a0_1) ∧ w'.cell? ⟨gb119, 2, none⟩ = some (.string a0_2) ∧ w'.cell? ⟨gb119, 3, none⟩ = some (.string a0_3) ∧ w'.cell? ⟨gb119, 4, none⟩ = some (.string a0_4) ∧ w'.cell? ⟨gb119, 5, none⟩ = some (.int .i64 a0_5) ∧ w'.cell? ⟨gb119, 6, none⟩ = some (.int .i64 a0_6) ∧ w'.cell? ⟨gb119, 7, none⟩ = some (.string a0_7)) (ds := []) (bs 23 0) (by kernel_rfl) rfl rfl ⟨(blk_cell BK119.out 0).trans rfl, (blk_cell BK119.out 1).trans rfl, (blk_cell BK119.out 2).trans rfl, (blk_cell BK119.out 3).trans rfl, (blk_cell BK119.out 4).trans rfl, (blk_cell BK119.out 5).trans rfl, (blk_cell BK119.out 6).trans rfl, (blk_cell BK119.out 7).trans rfl⟩ (fun hHeld => ?_); refine with_tabW commit_TagBody.tab4 commit_TagBody.bits4 (fun HT_ HW_ => ?_)
           generalize w17.drew = w18 at BK119 HB hHeld ⊢
           refine pu_ (i := 0) (N := some 10) (bs 23 1) rfl rfl ?_
           refine pu_ (i := 4) (N := some 14) (bs 23 17) rfl rfl ?_
           refine pu_ (i := 9) (N := some 19) (bs 23 529) rfl rfl ?_
           refine pu_ (i := 13) (N := some 23) (bs 23 8721) rfl rfl ?_
           refine pu_ (i := 18) (N := some 28) (bs 23 270865) rfl rfl ?_
           refine tkW8_ (i := 1) (N := some 11) (bs 23 270867) rfl rfl hHeld ?_
           refine pu_ (i := 2) (N := some 12) (bs 23 270871) rfl rfl ?_
           refine pu_ (i := 3) (N := some 13) (bs 23 270879) rfl rfl ?_
           refine tkW8_ (i := 5) (N := some 15) (bs 23 270911) rfl rfl hHeld ?_
           refine tkW8_ (i := 10) (N := some 20) (bs 23 271935) rfl rfl hHeld ?_
           refine tkW8_ (i := 14) (N := some 24) (bs 23 288319) rfl rfl hHeld ?_
           refine tkW8_ (i := 19) (N := some 29) (bs 23 812607) rfl rfl hHeld ?_
           refine one_ (i := 6) (N := some 16) (bs 23 812671) rfl rfl (one_of HT_.out (by kernel_rfl)) (by decide) (fun K hK => ?_)
           refine goes_ Tryz.func79 (by kernel_rfl) rfl #[.int .i64 a0_1] (by rfl) rfl rfl z2_ ?_
           with_reducible refine (object_Word.calls a0_1 t121 _ A6.out).mono ?_
           rintro e w19 ⟨rfl, hb⟩
           refine ⟨_, rfl, ?_⟩
           replace BK119 := Aside0.mk (bb_ BK119.out hb)
           replace HB := Aside0.mk (below_step (hs_) hb)
           (try clear hb)
           (try clear hb2)
           (try clear hk)
           (try clear hi)
           refine hK.out _ _ ⟨(blk_cell BK119.out 0).trans rfl, (blk_cell BK119.out 1).trans rfl, (blk_cell BK119.out 2).trans rfl, (blk_cell BK119.out 3).trans rfl, (blk_cell BK119.out 4).trans rfl, (blk_cell BK119.out 5).trans rfl, (blk_cell BK119.out 6).trans rfl, (blk_cell BK119.out 7).trans rfl⟩ (fun hHeld => ?_)
           clear hK K
           refine norm_ (a' := ?_) ?_ ?_
           rotate_left
           ·show Act.put _ (some 16) _ = _
            simp only [Act.put, List.setIfInBounds_toArray, List.set_cons_zero, List.set_cons_succ, i64_w, i32_w]
            rfl
           refine pu_ (i := 7) (N := some 17) (bs 23 812799) rfl rfl ?_
           refine pu_ (i := 8) (N := some 18) (bs 23 813055) rfl rfl ?_
           refine pu_ (i := 11) (N := some 21) (bs 23 815103) rfl rfl ?_
           refine pu_ (i := 12) (N := some 22) (bs 23 819199) rfl rfl ?_
           refine one_ (i := 15) (N := some 25) (bs 23 851967) rfl rfl (one_of HT_.out (by kernel_rfl)) (by decide) (fun K hK => ?_)
           refine goes_ Tryz.func31 (by kernel_rfl) rfl #[.agg #[.string a0_3, .string a0_4, .int .i64 a0_5, .int .i64 a0_6]] (by rfl) rfl rfl z2_ ?_
           with_reducible refine (commit_Who.calls a0_3 a0_4 a0_5 a0_6 t122 _ ?side1 A11.out).mono ?_
           (case side1 => exact GV.below hgv (hs_))
           rintro e w20 ⟨rfl, hb⟩
           refine ⟨_, rfl, ?_⟩
           replace BK119 := Aside0.mk (bb_ BK119.out hb)
           replace HB := Aside0.mk (below_step (hs_) hb)
           (try clear hb)
           (try clear hb2)
           (try clear hk)
           (try clear hi)
           refine hK.out _ _ ⟨(blk_cell BK119.out 0).trans rfl, (blk_cell BK119.out 1).trans rfl, (blk_cell BK119.out 2).trans rfl, (blk_cell BK119.out 3).trans rfl, (blk_cell BK119.out 4).trans rfl, (blk_cell BK119.out 5).trans rfl, (blk_cell BK119.out 6).trans rfl, (blk_cell BK119.out 7).trans rfl⟩ (fun hHeld => ?_)
           clear hK K
           refine norm_ (a' := ?_) ?_ ?_
           rotate_left
           ·show Act.put _ (some 25) _ = _
            simp only [Act.put, List.setIfInBounds_toArray, List.set_cons_zero, List.set_cons_succ, i64_w, i32_w]
            rfl
           refine pu_ (i := 16) (N := some 26) (bs 23 917503) rfl rfl ?_
           refine pu_ (i := 17) (N := some 27) (bs 23 1048575) rfl rfl ?_
           refine pu_ (i := 20) (N := some 30) (bs 23 2097151) rfl rfl ?_
           refine pu_ (i := 21) (N := some 2) (bs 23 4194303) rfl rfl ?_
           refine pu_ (i := 22) (N := some 3) (bs 23 8388607) rfl rfl ?_
           refine done_ (done_of HT_.out (by kernel_rfl)) ?_
           try go_wp2
           go_ret2
           exact ⟨z4_, hs_⟩
          ·rw [if_neg c14] at H
           exact absurd H (by simp)
         ·rw [if_neg c13] at H
          exact absurd H (by simp)
        ·rw [if_neg c12] at H
         exact absurd H (by simp)
       ·rw [if_neg c10] at H
        exact absurd H (by simp)
      ·rw [if_neg c9] at H
       exact absurd H (by simp)
     ·rw [if_neg c8] at H
      exact absurd H (by simp)
    ·rw [if_neg c7] at H
     exact absurd H (by simp)
   ·rw [if_neg c5] at H
    exact absurd H (by simp)
  ·rw [if_neg c4] at H
   exact absurd H (by simp)
 ·rw [if_neg c3] at H
  have c3b0 := beq_eq_false_iff_ne.mpr c3
  have c3b1 := bne_iff_ne.mpr c3
  simp only [Option.some.injEq, Prod.mk.injEq] at H
  obtain ⟨rfl, rfl⟩ := H
  go_enter Tryz.func25, Tryz.ntmps25
  go_wp2_with (first | ((with_reducible refine gate_dst (N := 1) rfl ?_); refine be_ (cs := #[.string a0_0, .int .i64 a0_1, .string a0_2, .string a0_3, .string a0_4, .int .i64 a0_5, .int .i64 a0_6, .string a0_7]) (t := 37) ?_; intro gb119 hg w21 hbox hb; have BK119 := Aside0.mk (hbox); have GW119 := Aside0.mk (gw_ hg HB.out); have GE119 := Aside0.mk (gw_ hg HB.out); replace HB := Aside0.mk (below_step (hb_ HB.out) hb); clear hb hbox hg; obtain ⟨hcz22_0, hcz22_1, hcz22_2, hcz22_3, hcz22_4, hcz22_5, hcz22_6, hcz22_7, hfz22_0, hfz22_1, hfz22_2, hfz22_3, hfz22_4, hfz22_5, hfz22_6, hfz22_7⟩ := bc8 BK119.out) | ((with_reducible refine gate_callee (f := 27) rfl ?_); refine goesL_ (some 6) rfl rfl Tryz.func27 (by kernel_rfl) rfl #[.agg #[.string a0_0, .int .i64 a0_1, .string a0_2, .string a0_3, .string a0_4, .int .i64 a0_5, .int .i64 a0_6, .string a0_7]] rfl z2_ ?_; (with_reducible refine (commit_CheckTag.calls k a0_0 a0_1 a0_2 a0_3 a0_4 a0_5 a0_6 a0_7 t120 _ ?side1 A2.out).mono ?_); (case side1 => exact GV.below hgv (hs_)); rintro e w23 ⟨rfl, hb⟩; refine ⟨_, rfl, ?_⟩; replace BK119 := Aside0.mk (bb_ BK119.out hb); replace HB := Aside0.mk (below_step (hs_) hb); (try clear hb); (try clear hb2); (try clear hk); (try clear hi)))
  go_ret2
  exact ⟨z4_, hs_⟩


def object_Bytes.f (a0_0 : Int) (a0_1 : ByteArray) : Option (ByteArray × Int) := (object_Word.f a0_0).bind fun t135 => (if t135.toList = ([] : List UInt8) then (some ((⟨#[]⟩ : ByteArray), 140)) else (if (a0_1.size : Int) > 1048576 then (some ((⟨#[]⟩ : ByteArray), 4)) else (if t135.size + 1 ≤ 9223372036854775807 then ((strconv_Itoa.f (a0_1.size : Int)).bind fun t136 => (if (t135 ++ (⟨#[32]⟩ : ByteArray)).size + t136.size ≤ 9223372036854775807 then (if ((t135 ++ (⟨#[32]⟩ : ByteArray)) ++ t136).size + 1 ≤ 9223372036854775807 then (if (((t135 ++ (⟨#[32]⟩ : ByteArray)) ++ t136) ++ (⟨#[0]⟩ : ByteArray)).size + a0_1.size ≤ 9223372036854775807 then (some ((((t135 ++ (⟨#[32]⟩ : ByteArray)) ++ t136) ++ (⟨#[0]⟩ : ByteArray)) ++ a0_1, 0)) else (none)) else (none)) else (none))) else (none))))
def object_Bytes.T6 : Bool × List (List Nat × List Nat) := (true, [([], []), ([0], [0]), ([], []), ([2], [2]), ([3], [3]), ([4], [4]), ([1, 5], [1, 5]), ([6], [6]), ([], []), ([8], [8]), ([7, 9], [7, 9]), ([10, 5, 0, 1, 2, 3, 4, 5, 6, 7, 8, 9, 10], [10]), ([11, 0, 1, 2, 3, 4, 5, 6, 7, 8, 9, 10, 11], [])])
def object_Bytes.B6 : List Nat := [0, 1, 0, 4, 12, 28, 63, 127, 0, 256, 1023, 2047, 4095]
theorem object_Bytes.tab6 : rtab .any (opsOf Tryz.f97 6) = object_Bytes.T6 := by kernel_rfl
theorem object_Bytes.bits6 : waitsOk object_Bytes.T6.2 object_Bytes.B6 = true := by kernel_rfl
set_option maxHeartbeats 8000000 in
set_option maxRecDepth 100000 in
theorem object_Bytes.calls (a0_0 : Int) (a0_1 : ByteArray) (r1 : ByteArray) (r2 : Int) (w : World) (hgv : GV w) (h : object_Bytes.f a0_0 a0_1 = some (r1, r2)) :
  Calls Tryz.prog 97 #[.agg #[.int .i64 a0_0, .string a0_1]] w fun e w' => e = .returned (.tuple #[.string r1, .int .i64 r2]) ∧ Below w.heap.size w w' := by
 have hu50 := Tryz.underlying50
 have HB := Aside0.mk (Below.refl w.heap.size w)
 have H : ((object_Word.f a0_0).bind fun t135 => (if t135.toList = ([] : List UInt8) then (some ((⟨#[]⟩ : ByteArray), 140)) else (if (a0_1.size : Int) > 1048576 then (some ((⟨#[]⟩ : ByteArray), 4)) else (if t135.size + 1 ≤ 9223372036854775807 then ((strconv_Itoa.f (a0_1.size : Int)).bind fun t136 => (if (t135 ++ (⟨#[32]⟩ : ByteArray)).size + t136.size ≤ 9223372036854775807 then (if ((t135 ++ (⟨#[32]⟩ : ByteArray)) ++ t136).size + 1 ≤ 9223372036854775807 then (if (((t135 ++ (⟨#[32]⟩ : ByteArray)) ++ t136) ++ (⟨#[0]⟩ : ByteArray)).size + a0_1.size ≤ 9223372036854775807 then (some ((((t135 ++ (⟨#[32]⟩ : ByteArray)) ++ t136) ++ (⟨#[0]⟩ : ByteArray)) ++ a0_1, 0)) else (none)) else (none)) else (none))) else (none))))) = some (r1, r2) := h
 clear h
 replace H := Option.bind_eq_some_iff.mp H
 obtain ⟨t135, A20, H⟩ := H
 have A2 := Aside0.mk A20
 clear A20
 by_cases c3 : t135.toList = ([] : List UInt8)
 ·rw [if_pos c3] at H
  have c3b0 := beq_iff_eq.mpr c3
  have c3b1 := bne_eq_false_iff_eq.mpr c3
  clear c3
  simp only [Option.some.injEq, Prod.mk.injEq] at H
  obtain ⟨rfl, rfl⟩ := H
  go_enter Tryz.func97, Tryz.ntmps97
  go_wp2_with (first | ((with_reducible refine gate_dst (N := 1) rfl ?_); refine be_ (cs := #[.int .i64 a0_0, .string a0_1]) (t := 50) ?_; intro gb134 hg w4 hbox hb; have BK134 := Aside0.mk (hbox); have GW134 := Aside0.mk (gw_ hg HB.out); have GE134 := Aside0.mk (gw_ hg HB.out); replace HB := Aside0.mk (below_step (hb_ HB.out) hb); clear hb hbox hg; obtain ⟨hcz5_0, hcz5_1, hfz5_0, hfz5_1⟩ := bc2 BK134.out) | ((with_reducible refine gate_callee (f := 79) rfl ?_); refine goesL_ (some 7) rfl rfl Tryz.func79 (by kernel_rfl) rfl #[.int .i64 a0_0] rfl z2_ ?_; (with_reducible refine (object_Word.calls a0_0 t135 _ A2.out).mono ?_); rintro e w6 ⟨rfl, hb⟩; refine ⟨_, rfl, ?_⟩; replace BK134 := Aside0.mk (bb_ BK134.out hb); replace HB := Aside0.mk (below_step (hs_) hb); (try clear hb); (try clear hb2); (try clear hk); (try clear hi)))
  go_ret2
  exact ⟨z4_, hs_⟩
 ·rw [if_neg c3] at H
  have c3b0 := beq_eq_false_iff_ne.mpr c3
  have c3b1 := bne_iff_ne.mpr c3
  by_cases c7 : (a0_1.size : Int) > 1048576
  ·rw [if_pos c7] at H
   have c7b0 := decide_eq_true c7
   have c7b1 : decide (1048576 < a0_1.size) = true := decide_eq_true (by omega)
   clear c7
   simp only [Option.some.injEq, Prod.mk.injEq] at H
   obtain ⟨rfl, rfl⟩ := H
   go_enter Tryz.func97, Tryz.ntmps97
   go_wp2_with (first | ((with_reducible refine gate_dst (N := 1) rfl ?_); refine be_ (cs := #[.int .i64 a0_0, .string a0_1]) (t := 50) ?_; intro gb134 hg w8 hbox hb; have BK134 := Aside0.mk (hbox); have GW134 := Aside0.mk (gw_ hg HB.out); have GE134 := Aside0.mk (gw_ hg HB.out); replace HB := Aside0.mk (below_step (hb_ HB.out) hb); clear hb hbox hg; obtain ⟨hcz9_0, hcz9_1, hfz9_0, hfz9_1⟩ := bc2 BK134.out) | ((with_reducible refine gate_callee (f := 79) rfl ?_); refine goesL_ (some 7) rfl rfl Tryz.func79 (by kernel_rfl) rfl #[.int .i64 a0_0] rfl z2_ ?_; (with_reducible refine (object_Word.calls a0_0 t135 _ A2.out).mono ?_); rintro e w10 ⟨rfl, hb⟩; refine ⟨_, rfl, ?_⟩; replace BK134 := Aside0.mk (bb_ BK134.out hb); replace HB := Aside0.mk (below_step (hs_) hb); (try clear hb); (try clear hb2); (try clear hk); (try clear hi); obtain ⟨hcz11_0, hcz11_1, hfz11_0, hfz11_1⟩ := bc2 BK134.out))
   go_ret2
   exact ⟨z4_, hs_⟩
  ·rw [if_neg c7] at H
   have c7b0 := decide_eq_false c7
   have c7b1 : decide (1048576 < a0_1.size) = false := decide_eq_false (by omega)
   clear c7
   by_cases c12 : t135.size + 1 ≤ 9223372036854775807
   ·rw [if_pos c12] at H
    have c12b0 := eq_true c12
    have c12b1 := decide_eq_true c12
    try have c12b2 := nl_ c12
    replace H := Option.bind_eq_some_iff.mp H
    obtain ⟨t136, A130, H⟩ := H
    have A13 := Aside0.mk A130
    clear A130
    by_cases c14 : (t135 ++ (⟨#[32]⟩ : ByteArray)).size + t136.size ≤ 9223372036854775807
    ·rw [if_pos c14] at H
     have c14b0 := eq_true c14
     have c14b1 := decide_eq_true c14
     try have c14b3 : (9223372036854775807 < t135.size + 1 + t136.size) = False := have h_ := c14; ns_
     try have c14b2 := nl_ c14
     by_cases c15 : ((t135 ++ (⟨#[32]⟩ : ByteArray)) ++ t136).size + 1 ≤ 9223372036854775807
     ·rw [if_pos c15] at H
      have c15b0 := eq_true c15
      have c15b1 := decide_eq_true c15
      try have c15b3 : (9223372036854775807 < t135.size + 1 + t136.size + 1) = False := have h_ := c15; ns_
      try have c15b2 := nl_ c15
      by_cases c16 : (((t135 ++ (⟨#[32]⟩ : ByteArray)) ++ t136) ++ (⟨#[0]⟩ : ByteArray)).size + a0_1.size ≤ 9223372036854775807
      ·rw [if_pos c16] at H
       have c16b0 := eq_true c16
       have c16b1 := decide_eq_true c16
       try have c16b3 : (9223372036854775807 < t135.size + 1 + t136.size + 1 + a0_1.size) = False := have h_ := c16; ns_
       try have c16b2 := nl_ c16
       simp only [Option.some.injEq, Prod.mk.injEq] at H
       obtain ⟨rfl, rfl⟩ := H
       go_enter Tryz.func97, Tryz.ntmps97
       try go_wp2_with (first | ((with_reducible refine gate_dst (N := 1) rfl ?_); refine be_ (cs := #[.int .i64 a0_0, .string a0_1]) (t := 50) ?_; intro gb134 hg w17 hbox hb; have BK134 := Aside0.mk (hbox); have GW134 := Aside0.mk (gw_ hg HB.out); have GE134 := Aside0.mk (gw_ hg HB.out); replace HB := Aside0.mk (below_step (hb_ HB.out) hb); clear hb hbox hg; obtain ⟨hcz18_0, hcz18_1, hfz18_0, hfz18_1⟩ := bc2 BK134.out) | ((with_reducible refine gate_callee (f := 79) rfl ?_); refine goesL_ (some 7) rfl rfl Tryz.func79 (by kernel_rfl) rfl #[.int .i64 a0_0] rfl z2_ ?_; (with_reducible refine (object_Word.calls a0_0 t135 _ A2.out).mono ?_); rintro e w19 ⟨rfl, hb⟩; refine ⟨_, rfl, ?_⟩; replace BK134 := Aside0.mk (bb_ BK134.out hb); replace HB := Aside0.mk (below_step (hs_) hb); (try clear hb); (try clear hb2); (try clear hk); (try clear hi); obtain ⟨hcz20_0, hcz20_1, hfz20_0, hfz20_1⟩ := bc2 BK134.out))
       replace BK134 := Aside0.mk (blk_drew BK134.out)
       replace HB := Aside0.mk (below_drew1 HB.out)
       refine start_ (n := 13) (S := fun w' => w'.cell? ⟨gb134, 0, none⟩ = some (.int .i64 a0_0) ∧ w'.cell? ⟨gb134, 1, none⟩ = some (.string a0_1)) (ds := []) (bs 13 0) (by kernel_rfl) rfl rfl ⟨(blk_cell BK134.out 0).trans rfl, (blk_cell BK134.out 1).trans rfl⟩ (fun hHeld => ?_); refine with_tabW object_Bytes.tab6 object_Bytes.bits6 (fun HT_ HW_ => ?_)
       generalize w19.drew = w21 at BK134 HB hHeld ⊢
       refine pu_ (i := 0) (N := some 16) (bs 13 1) rfl rfl ?_
       refine pu_ (i := 1) (N := some 17) (bs 13 3) rfl rfl ?_
       refine pu_ (i := 2) (N := some 18) (bs 13 7) rfl rfl ?_
       refine pu_ (i := 8) (N := some 24) (bs 13 263) rfl rfl ?_
       refine tkW2_ (i := 3) (N := some 19) (bs 13 271) rfl rfl hHeld ?_
       refine pu_ (i := 4) (N := some 20) (bs 13 287) rfl rfl ?_
       refine tkW2_ (i := 9) (N := some 25) (bs 13 799) rfl rfl hHeld ?_
       refine one_ (i := 5) (N := some 21) (bs 13 831) rfl rfl (one_of HT_.out (by kernel_rfl)) (by decide) (fun K hK => ?_)
       refine goes_ Tryz.func91 (by kernel_rfl) rfl #[.int .i64 (a0_1.size : Int)] (by rfl) rfl rfl z2_ ?_
       with_reducible refine (strconv_Itoa.calls (a0_1.size : Int) t136 _ ?side1 A13.out).mono ?_
       (case side1 => exact GV.below hgv (hs_))
       rintro e w22 ⟨rfl, hb⟩
       refine ⟨_, rfl, ?_⟩
       replace BK134 := Aside0.mk (bb_ BK134.out hb)
       replace HB := Aside0.mk (below_step (hs_) hb)
       (try clear hb)
       (try clear hb2)
       (try clear hk)
       (try clear hi)
       refine hK.out _ _ ⟨(blk_cell BK134.out 0).trans rfl, (blk_cell BK134.out 1).trans rfl⟩ (fun hHeld => ?_)
       clear hK K
       refine norm_ (a' := ?_) ?_ ?_
       rotate_left
       ·show Act.put _ (some 21) _ = _
        simp only [Act.put, List.setIfInBounds_toArray, List.set_cons_zero, List.set_cons_succ, i64_w, i32_w]
        rfl
       refine pu_ (i := 6) (N := some 22) (bs 13 895) rfl rfl ?_
       refine pu_ (i := 7) (N := some 23) (bs 13 1023) rfl rfl ?_
       refine pu_ (i := 10) (N := some 26) (bs 13 2047) rfl rfl ?_
       refine pu_ (i := 11) (N := some 2) (bs 13 4095) rfl rfl ?_
       refine pu_ (i := 12) (N := some 3) (bs 13 8191) rfl rfl ?_
       refine done_ (done_of HT_.out (by kernel_rfl)) ?_
       try go_wp2
       go_ret2
       exact ⟨z4_, hs_⟩
      ·rw [if_neg c16] at H
       exact absurd H (by simp)
     ·rw [if_neg c15] at H
      exact absurd H (by simp)
    ·rw [if_neg c14] at H
     exact absurd H (by simp)
   ·rw [if_neg c12] at H
    exact absurd H (by simp)


def tree_digits.f (a0 : Int) : Option (ByteArray) := if a0 = 1 then (some (⟨#[49, 48, 48, 54, 52, 52, 32]⟩ : ByteArray)) else (if a0 = 2 then (some (⟨#[49, 48, 48, 55, 53, 53, 32]⟩ : ByteArray)) else (if a0 = 3 then (some (⟨#[49, 50, 48, 48, 48, 48, 32]⟩ : ByteArray)) else (if a0 = 4 then (some (⟨#[52, 48, 48, 48, 48, 32]⟩ : ByteArray)) else (some (⟨#[]⟩ : ByteArray)))))
set_option maxHeartbeats 8000000 in
set_option maxRecDepth 100000 in
theorem tree_digits.calls (a0 : Int) (r : ByteArray) (w : World) (h : tree_digits.f a0 = some r) :
  Calls Tryz.prog 191 #[.int .i64 a0] w fun e w' => e = .returned (.string r) ∧ Drawn0 w w' := by
 have H : (if a0 = 1 then (some (⟨#[49, 48, 48, 54, 52, 52, 32]⟩ : ByteArray)) else (if a0 = 2 then (some (⟨#[49, 48, 48, 55, 53, 53, 32]⟩ : ByteArray)) else (if a0 = 3 then (some (⟨#[49, 50, 48, 48, 48, 48, 32]⟩ : ByteArray)) else (if a0 = 4 then (some (⟨#[52, 48, 48, 48, 48, 32]⟩ : ByteArray)) else (some (⟨#[]⟩ : ByteArray)))))) = some r := h
 clear h
 by_cases c2 : a0 = 1
 ·rw [if_pos c2] at H
  have c2b0 := beq_iff_eq.mpr c2
  have c2b1 := bne_eq_false_iff_eq.mpr c2
  clear c2
  obtain rfl := Option.some.inj H
  go_enter Tryz.func191, Tryz.ntmps191
  go_wp2
  go_ret
  exact ⟨z1_, z3_⟩
 ·rw [if_neg c2] at H
  have c2b0 := beq_eq_false_iff_ne.mpr c2
  have c2b1 := bne_iff_ne.mpr c2
  by_cases c3 : a0 = 2
  ·rw [if_pos c3] at H
   have c3b0 := beq_iff_eq.mpr c3
   have c3b1 := bne_eq_false_iff_eq.mpr c3
   clear c3
   obtain rfl := Option.some.inj H
   go_enter Tryz.func191, Tryz.ntmps191
   go_wp2
   go_ret
   exact ⟨z1_, z3_⟩
  ·rw [if_neg c3] at H
   have c3b0 := beq_eq_false_iff_ne.mpr c3
   have c3b1 := bne_iff_ne.mpr c3
   by_cases c4 : a0 = 3
   ·rw [if_pos c4] at H
    have c4b0 := beq_iff_eq.mpr c4
    have c4b1 := bne_eq_false_iff_eq.mpr c4
    clear c4
    obtain rfl := Option.some.inj H
    go_enter Tryz.func191, Tryz.ntmps191
    go_wp2
    go_ret
    exact ⟨z1_, z3_⟩
   ·rw [if_neg c4] at H
    have c4b0 := beq_eq_false_iff_ne.mpr c4
    have c4b1 := bne_iff_ne.mpr c4
    by_cases c5 : a0 = 4
    ·rw [if_pos c5] at H
     have c5b0 := beq_iff_eq.mpr c5
     have c5b1 := bne_eq_false_iff_eq.mpr c5
     clear c5
     obtain rfl := Option.some.inj H
     go_enter Tryz.func191, Tryz.ntmps191
     go_wp2
     go_ret
     exact ⟨z1_, z3_⟩
    ·rw [if_neg c5] at H
     have c5b0 := beq_eq_false_iff_ne.mpr c5
     have c5b1 := bne_iff_ne.mpr c5
     obtain rfl := Option.some.inj H
     go_enter Tryz.func191, Tryz.ntmps191
     go_wp2
     go_ret
     exact ⟨z1_, z3_⟩


def stringslite_HasPrefix.f (a0 : ByteArray) (a1 : ByteArray) : Option (Bool) := if (a0.size : Int) ≥ (a1.size : Int) then (if 0 ≤ (a1.size : Int) then (if (a1.size : Int) ≤ (a0.size : Int) then (some ((a0.extract 0 a1.size).toList == a1.toList)) else (none)) else (none)) else (some false)
set_option maxHeartbeats 8000000 in
set_option maxRecDepth 100000 in
theorem stringslite_HasPrefix.calls (a0 : ByteArray) (a1 : ByteArray) (r : Bool) (w : World) (h : stringslite_HasPrefix.f a0 a1 = some r) :
  Calls Tryz.prog 141 #[.string a0, .string a1] w fun e w' => e = .returned (.bool r) ∧ Drawn0 w w' := by
 have H : (if (a0.size : Int) ≥ (a1.size : Int) then (if 0 ≤ (a1.size : Int) then (if (a1.size : Int) ≤ (a0.size : Int) then (some ((a0.extract 0 a1.size).toList == a1.toList)) else (none)) else (none)) else (some false)) = some r := h
 clear h
 by_cases c3 : (a0.size : Int) ≥ (a1.size : Int)
 ·rw [if_pos c3] at H
  have c3b0 := decide_eq_true c3
  have c3b1 : decide (a1.size ≤ a0.size) = true := decide_eq_true (Int.ofNat_le.mp c3)
  clear c3
  by_cases c4 : 0 ≤ (a1.size : Int)
  ·rw [if_pos c4] at H
   have c4b0 := eq_true c4
   have c4b1 := decide_eq_true c4
   clear c4
   by_cases c5 : (a1.size : Int) ≤ (a0.size : Int)
   ·rw [if_pos c5] at H
    have c5b0 := eq_true c5
    have c5b1 := decide_eq_true c5
    clear c5
    obtain rfl := Option.some.inj H
    go_enter Tryz.func141, Tryz.ntmps141
    go_wp2
    go_ret
    exact ⟨z1_, z3_⟩
   ·rw [if_neg c5] at H
    exact absurd H (by simp)
  ·rw [if_neg c4] at H
   exact absurd H (by simp)
 ·rw [if_neg c3] at H
  have c3b0 := decide_eq_false c3
  have c3b1 : decide (a1.size ≤ a0.size) = false := decide_eq_false (fun h => c3 (Int.ofNat_le.mpr h))
  clear c3
  obtain rfl := Option.some.inj H
  go_enter Tryz.func141, Tryz.ntmps141
  go_wp2
  go_ret
  exact ⟨z1_, z3_⟩


def strings_HasPrefix.f (a0 : ByteArray) (a1 : ByteArray) : Option (Bool) := (stringslite_HasPrefix.f a0 a1).bind fun t192 => (some t192)
set_option maxHeartbeats 8000000 in
set_option maxRecDepth 100000 in
theorem strings_HasPrefix.calls (a0 : ByteArray) (a1 : ByteArray) (r : Bool) (w : World) (h : strings_HasPrefix.f a0 a1 = some r) :
  Calls Tryz.prog 71 #[.string a0, .string a1] w fun e w' => e = .returned (.bool r) ∧ Drawn0 w w' := by
 have H : ((stringslite_HasPrefix.f a0 a1).bind fun t192 => (some t192)) = some r := h
 clear h
 replace H := Option.bind_eq_some_iff.mp H
 obtain ⟨t192, A30, H⟩ := H
 have A3 := Aside0.mk A30
 clear A30
 obtain rfl := Option.some.inj H
 go_enter Tryz.func71, Tryz.ntmps71
 go_wp2_with (first | ((with_reducible refine gate_callee (f := 141) rfl ?_); refine goesL_ (some 7) rfl rfl Tryz.func141 (by kernel_rfl) rfl #[.string a0, .string a1] rfl z2_ ?_; (with_reducible refine (stringslite_HasPrefix.calls a0 a1 t192 _ A3.out).mono ?_); rintro e w' ⟨rfl, ⟨nd, rfl⟩⟩; refine ⟨_, rfl, ?_⟩))
 go_ret
 exact ⟨z1_, z3_⟩


def stringslite_CutPrefix.f (a0 : ByteArray) (a1 : ByteArray) : Option (ByteArray × Bool) := (stringslite_HasPrefix.f a0 a1).bind fun t193 => (if t193 = true then (if 0 ≤ (a1.size : Int) then (if (a1.size : Int) ≤ (a0.size : Int) then (some (a0.extract a1.size a0.size, true)) else (none)) else (none)) else (some (a0, false)))
set_option maxHeartbeats 8000000 in
set_option maxRecDepth 100000 in
theorem stringslite_CutPrefix.calls (a0 : ByteArray) (a1 : ByteArray) (r1 : ByteArray) (r2 : Bool) (w : World) (h : stringslite_CutPrefix.f a0 a1 = some (r1, r2)) :
  Calls Tryz.prog 183 #[.string a0, .string a1] w fun e w' => e = .returned (.tuple #[.string r1, .bool r2]) ∧ Drawn0 w w' := by
 have H : ((stringslite_HasPrefix.f a0 a1).bind fun t193 => (if t193 = true then (if 0 ≤ (a1.size : Int) then (if (a1.size : Int) ≤ (a0.size : Int) then (some (a0.extract a1.size a0.size, true)) else (none)) else (none)) else (some (a0, false)))) = some (r1, r2) := h
 clear h
 replace H := Option.bind_eq_some_iff.mp H
 obtain ⟨t193, A30, H⟩ := H
 have A3 := Aside0.mk A30
 clear A30
 by_cases c4 : t193 = true
 ·subst c4
  have H1 : (if 0 ≤ (a1.size : Int) then (if (a1.size : Int) ≤ (a0.size : Int) then (some (a0.extract a1.size a0.size, true)) else (none)) else (none)) = some (r1, r2) := by rw [if_pos rfl] at H; exact H
  clear H
  have H := H1
  clear H1
  by_cases c5 : 0 ≤ (a1.size : Int)
  ·rw [if_pos c5] at H
   have c5b0 := eq_true c5
   have c5b1 := decide_eq_true c5
   clear c5
   by_cases c6 : (a1.size : Int) ≤ (a0.size : Int)
   ·rw [if_pos c6] at H
    have c6b0 := eq_true c6
    have c6b1 := decide_eq_true c6
    clear c6
    simp only [Option.some.injEq, Prod.mk.injEq] at H
    obtain ⟨rfl, rfl⟩ := H
    go_enter Tryz.func183, Tryz.ntmps183
    go_wp2_with (first | ((with_reducible refine gate_callee (f := 141) rfl ?_); refine goesL_ (some 8) rfl rfl Tryz.func141 (by kernel_rfl) rfl #[.string a0, .string a1] rfl z2_ ?_; (with_reducible refine (stringslite_HasPrefix.calls a0 a1 true _ A3.out).mono ?_); rintro e w' ⟨rfl, ⟨nd, rfl⟩⟩; refine ⟨_, rfl, ?_⟩))
    go_ret2
    exact ⟨z1_, z3_⟩
   ·rw [if_neg c6] at H
    exact absurd H (by simp)
  ·rw [if_neg c5] at H
   exact absurd H (by simp)
 ·replace c4 := Bool.eq_false_iff.mpr c4
  subst c4
  have H1 : (some (a0, false)) = some (r1, r2) := by rw [if_neg (show ¬ (false = true) by decide)] at H; exact H
  clear H
  have H := H1
  clear H1
  simp only [Option.some.injEq, Prod.mk.injEq] at H
  obtain ⟨rfl, rfl⟩ := H
  go_enter Tryz.func183, Tryz.ntmps183
  go_wp2_with (first | ((with_reducible refine gate_callee (f := 141) rfl ?_); refine goesL_ (some 8) rfl rfl Tryz.func141 (by kernel_rfl) rfl #[.string a0, .string a1] rfl z2_ ?_; (with_reducible refine (stringslite_HasPrefix.calls a0 a1 false _ A3.out).mono ?_); rintro e w' ⟨rfl, ⟨nd, rfl⟩⟩; refine ⟨_, rfl, ?_⟩))
  go_ret2
  exact ⟨z1_, z3_⟩


def strings_CutPrefix.f (a0 : ByteArray) (a1 : ByteArray) : Option (ByteArray × Bool) := (stringslite_CutPrefix.f a0 a1).bind fun bt194 => (some (bt194.1, bt194.2))
set_option maxHeartbeats 8000000 in
set_option maxRecDepth 100000 in
theorem strings_CutPrefix.calls (a0 : ByteArray) (a1 : ByteArray) (r1 : ByteArray) (r2 : Bool) (w : World) (h : strings_CutPrefix.f a0 a1 = some (r1, r2)) :
  Calls Tryz.prog 142 #[.string a0, .string a1] w fun e w' => e = .returned (.tuple #[.string r1, .bool r2]) ∧ Drawn0 w w' := by
 have H : ((stringslite_CutPrefix.f a0 a1).bind fun bt194 => (some (bt194.1, bt194.2))) = some (r1, r2) := h
 clear h
 replace H := Option.bind_eq_some_iff.mp H
 obtain ⟨⟨t194, t195⟩, A30, H⟩ := H
 replace H : (some (t194, t195)) = some (r1, r2) := H
 have A3 := Aside0.mk A30
 clear A30
 simp only [Option.some.injEq, Prod.mk.injEq] at H
 obtain ⟨rfl, rfl⟩ := H
 go_enter Tryz.func142, Tryz.ntmps142
 go_wp2_with (first | ((with_reducible refine gate_callee (f := 183) rfl ?_); refine goesL_ (some 8) rfl rfl Tryz.func183 (by kernel_rfl) rfl #[.string a0, .string a1] rfl z2_ ?_; (with_reducible refine (stringslite_CutPrefix.calls a0 a1 t194 t195 _ A3.out).mono ?_); rintro e w' ⟨rfl, ⟨nd, rfl⟩⟩; refine ⟨_, rfl, ?_⟩))
 go_ret2
 exact ⟨z1_, z3_⟩


def tree_mode.l0 : Nat → ByteArray → Bool → Int → Option (Int × ByteArray × Int)
 | 0, _, _, _ => none
 | k + 1, x0, x5, x6 => if x6 ≤ 4 then ((tree_digits.f x6).bind fun t115 => ((strings_CutPrefix.f x0 t115).bind fun bt116 => (if bt116.2 = true then (some (x6, bt116.1, 0)) else (if x5 = true then (tree_mode.l0 k x0 true (wrap64 (x6 + 1))) else ((tree_digits.f x6).bind fun t118 => ((strings_HasPrefix.f t118 x0).bind fun t119 => (tree_mode.l0 k x0 t119 (wrap64 (x6 + 1))))))))) else (if x5 = true then (some (0, (⟨#[]⟩ : ByteArray), 3)) else (some (0, (⟨#[]⟩ : ByteArray), 2)))
def tree_mode.f (k : Nat) (a0 : ByteArray) : Option (Int × ByteArray × Int) := tree_mode.l0 k a0 false 1
theorem tree_mode.mono_l : ∀ k, (∀ y0 y1 y2, LeO (tree_mode.l0 k y0 y1 y2) (tree_mode.l0 (k + 1) y0 y1 y2))
 | 0 => fun _ _ _ r h => by simp [tree_mode.l0] at h
 | k + 1 => by
  have ih0 := tree_mode.mono_l k
  ·intro y0 y1 y2
   unfold tree_mode.l0
   have m0_ := @ih0
   exact mz_
theorem tree_mode.mono : ∀ a0 k, LeO (tree_mode.f k a0) (tree_mode.f (k + 1) a0) := by
 intro a0 k
 have ih0 := tree_mode.mono_l k
 unfold tree_mode.f
 have m0_ := @ih0
 exact mz_
set_option maxHeartbeats 8000000 in
set_option maxRecDepth 100000 in
theorem tree_mode.calls (k : Nat) (a0 : ByteArray) (r1 : Int) (r2 : ByteArray) (r3 : Int) (w : World) (h : tree_mode.f k a0 = some (r1, r2, r3)) :
  Calls Tryz.prog 148 #[.string a0] w fun e w' => e = .returned (.tuple #[.int .i64 r1, .string r2, .int .i64 r3]) ∧ Drawn0 w w' := by
 have H : (tree_mode.l0 k a0 false 1) = some (r1, r2, r3) := h
 clear h
 have H' := Aside0.mk H
 clear H
 go_enter Tryz.func148, Tryz.ntmps148
 go_wp2
 go_loopg [5, 6] k (fun kq v5 v6 w' => ∃ (x5_1 : Bool) (x6_1 : Int), v5 = .bool x5_1 ∧ v6 = .int .i64 x6_1 ∧ Aside0 (tree_mode.l0 kq a0 x5_1 x6_1 = some (r1, r2, r3)) ∧ Aside0 (kq ≤ k) ∧ Drawn0 w w')
 case atStart => exact ⟨(false), (1), z1_, z1_, H', ⟨Nat.le_refl _⟩, z3_⟩
 case round =>
  clear H'
  try clear c1
  obtain ⟨x5_1, x6_1, rfl, rfl, HA, HK1, ⟨m1, rfl⟩⟩ := hrel
  cases gk with
  | zero => exact absurd HA.out (by simp [tree_mode.l0])
  | succ k1 =>
   have H := HA.out
   clear HA
   simp only [tree_mode.l0] at H
   by_cases c2 : x6_1 ≤ 4
   ·rw [if_pos c2] at H
    have c2b0 := decide_eq_true c2
    clear c2
    replace H := Option.bind_eq_some_iff.mp H
    obtain ⟨t115, A30, H⟩ := H
    have A3 := Aside0.mk A30
    clear A30
    replace H := Option.bind_eq_some_iff.mp H
    obtain ⟨⟨t116, t117⟩, A40, H⟩ := H
    replace H : (if t117 = true then (some (x6_1, t116, 0)) else (if x5_1 = true then (tree_mode.l0 k1 a0 true (wrap64 (x6_1 + 1))) else ((tree_digits.f x6_1).bind fun t118 => ((strings_HasPrefix.f t118 a0).bind fun t119 => (tree_mode.l0 k1 a0 t119 (wrap64 (x6_1 + 1))))))) = some (r1, r2, r3) := H
    have A4 := Aside0.mk A40
    clear A40
    by_cases c5 : t117 = true
    ·subst c5
     have H1 : (some (x6_1, t116, 0)) = some (r1, r2, r3) := by rw [if_pos rfl] at H; exact H
     clear H
     have H := H1
     clear H1
     simp only [Option.some.injEq, Prod.mk.injEq] at H
     obtain ⟨rfl, rfl, rfl⟩ := H
     go_wp2_with (first | ((with_reducible refine gate_callee (f := 191) rfl ?_); refine goesL_ (some 16) rfl rfl Tryz.func191 (by kernel_rfl) rfl #[.int .i64 x6_1] rfl z2_ ?_; (with_reducible refine (tree_digits.calls x6_1 t115 _ A3.out).mono ?_); rintro e w' ⟨rfl, ⟨nd, rfl⟩⟩; refine ⟨_, rfl, ?_⟩) | ((with_reducible refine gate_callee (f := 142) rfl ?_); refine goesL_ (some 17) rfl rfl Tryz.func142 (by kernel_rfl) rfl #[.string a0, .string t115] rfl z2_ ?_; (with_reducible refine (strings_CutPrefix.calls a0 t115 t116 true _ A4.out).mono ?_); rintro e w' ⟨rfl, ⟨nd, rfl⟩⟩; refine ⟨_, rfl, ?_⟩))
     go_ret3
     exact ⟨z1_, z3_⟩
    ·replace c5 := Bool.eq_false_iff.mpr c5
     subst c5
     have H1 : (if x5_1 = true then (tree_mode.l0 k1 a0 true (wrap64 (x6_1 + 1))) else ((tree_digits.f x6_1).bind fun t118 => ((strings_HasPrefix.f t118 a0).bind fun t119 => (tree_mode.l0 k1 a0 t119 (wrap64 (x6_1 + 1)))))) = some (r1, r2, r3) := by rw [if_neg (show ¬ (false = true) by decide)] at H; exact H
     clear H
     have H := H1
     clear H1
     by_cases c6 : x5_1 = true
     ·subst c6
      have H1 : (tree_mode.l0 k1 a0 true (wrap64 (x6_1 + 1))) = some (r1, r2, r3) := by rw [if_pos rfl] at H; exact H
      clear H
      have H := H1
      clear H1
      have H' := Aside0.mk H
      clear H
      go_wp2_with (first | ((with_reducible refine gate_callee (f := 191) rfl ?_); refine goesL_ (some 16) rfl rfl Tryz.func191 (by kernel_rfl) rfl #[.int .i64 x6_1] rfl z2_ ?_; (with_reducible refine (tree_digits.calls x6_1 t115 _ A3.out).mono ?_); rintro e w' ⟨rfl, ⟨nd, rfl⟩⟩; refine ⟨_, rfl, ?_⟩) | ((with_reducible refine gate_callee (f := 142) rfl ?_); refine goesL_ (some 17) rfl rfl Tryz.func142 (by kernel_rfl) rfl #[.string a0, .string t115] rfl z2_ ?_; (with_reducible refine (strings_CutPrefix.calls a0 t115 t116 false _ A4.out).mono ?_); rintro e w' ⟨rfl, ⟨nd, rfl⟩⟩; refine ⟨_, rfl, ?_⟩))
      go_roundg k1
      case measure => have := HK1.out; omega
      case rel => exact ⟨(true), (wrap64 (x6_1 + 1)), z1_, z1_, H', ⟨by have := HK1.out; omega⟩, z3_⟩
     ·replace c6 := Bool.eq_false_iff.mpr c6
      subst c6
      have H1 : ((tree_digits.f x6_1).bind fun t118 => ((strings_HasPrefix.f t118 a0).bind fun t119 => (tree_mode.l0 k1 a0 t119 (wrap64 (x6_1 + 1))))) = some (r1, r2, r3) := by rw [if_neg (show ¬ (false = true) by decide)] at H; exact H
      clear H
      have H := H1
      clear H1
      replace H := Option.bind_eq_some_iff.mp H
      obtain ⟨t118, A70, H⟩ := H
      have A7 := Aside0.mk A70
      clear A70
      replace H := Option.bind_eq_some_iff.mp H
      obtain ⟨t119, A80, H⟩ := H
      have A8 := Aside0.mk A80
      clear A80
      have H' := Aside0.mk H
      clear H
      have tk11_ : True := trivial
      have tk12_ : True := trivial
      go_wp2_with (first | (have _t := tk11_; (with_reducible refine gate_callee (f := 191) rfl ?_); refine goesL_ (some 16) rfl rfl Tryz.func191 (by kernel_rfl) rfl #[.int .i64 x6_1] rfl z2_ ?_; (with_reducible refine (tree_digits.calls x6_1 t115 _ A3.out).mono ?_); rintro e w' ⟨rfl, ⟨nd, rfl⟩⟩; refine ⟨_, rfl, ?_⟩; clear tk11_) | ((with_reducible refine gate_callee (f := 142) rfl ?_); refine goesL_ (some 17) rfl rfl Tryz.func142 (by kernel_rfl) rfl #[.string a0, .string t115] rfl z2_ ?_; (with_reducible refine (strings_CutPrefix.calls a0 t115 t116 false _ A4.out).mono ?_); rintro e w' ⟨rfl, ⟨nd, rfl⟩⟩; refine ⟨_, rfl, ?_⟩) | (go_at_call 191; have _t := tk12_; (with_reducible refine (tree_digits.calls x6_1 t118 _ A7.out).mono ?_); rintro e w' ⟨rfl, ⟨nd, rfl⟩⟩; clear tk12_) | (go_at_call 71; (with_reducible refine (strings_HasPrefix.calls t118 a0 t119 _ A8.out).mono ?_); rintro e w' ⟨rfl, ⟨nd, rfl⟩⟩))
      go_roundg k1
      case measure => have := HK1.out; omega
      case rel => exact ⟨(t119), (wrap64 (x6_1 + 1)), z1_, z1_, H', ⟨by have := HK1.out; omega⟩, z3_⟩
   ·rw [if_neg c2] at H
    have c2b0 := decide_eq_false c2
    clear c2
    by_cases c9 : x5_1 = true
    ·subst c9
     have H1 : (some (0, (⟨#[]⟩ : ByteArray), 3)) = some (r1, r2, r3) := by rw [if_pos rfl] at H; exact H
     clear H
     have H := H1
     clear H1
     simp only [Option.some.injEq, Prod.mk.injEq] at H
     obtain ⟨rfl, rfl, rfl⟩ := H
     go_wp2
     go_ret3
     exact ⟨z1_, z3_⟩
    ·replace c9 := Bool.eq_false_iff.mpr c9
     subst c9
     have H1 : (some (0, (⟨#[]⟩ : ByteArray), 2)) = some (r1, r2, r3) := by rw [if_neg (show ¬ (false = true) by decide)] at H; exact H
     clear H
     have H := H1
     clear H1
     simp only [Option.some.injEq, Prod.mk.injEq] at H
     obtain ⟨rfl, rfl, rfl⟩ := H
     go_wp2
     go_ret3
     exact ⟨z1_, z3_⟩


def tree_key.f (a0_0 : Int) (a0_1 : ByteArray) (a0_2 : ByteArray) : Option (ByteArray) := if a0_0 = 4 then (if a0_1.size + 1 ≤ 9223372036854775807 then (some (a0_1 ++ (⟨#[47]⟩ : ByteArray))) else (none)) else (some a0_1)
set_option maxHeartbeats 8000000 in
set_option maxRecDepth 100000 in
theorem tree_key.calls (a0_0 : Int) (a0_1 : ByteArray) (a0_2 : ByteArray) (r : ByteArray) (w : World) (h : tree_key.f a0_0 a0_1 a0_2 = some r) :
  Calls Tryz.prog 231 #[.agg #[.int .i64 a0_0, .string a0_1, .string a0_2]] w fun e w' => e = .returned (.string r) ∧ Below w.heap.size w w' := by
 have hu108 := Tryz.underlying108
 have HB := Aside0.mk (Below.refl w.heap.size w)
 have H : (if a0_0 = 4 then (if a0_1.size + 1 ≤ 9223372036854775807 then (some (a0_1 ++ (⟨#[47]⟩ : ByteArray))) else (none)) else (some a0_1)) = some r := h
 clear h
 by_cases c2 : a0_0 = 4
 ·rw [if_pos c2] at H
  have c2b0 := beq_iff_eq.mpr c2
  have c2b1 := bne_eq_false_iff_eq.mpr c2
  clear c2
  by_cases c3 : a0_1.size + 1 ≤ 9223372036854775807
  ·rw [if_pos c3] at H
   have c3b0 := eq_true c3
   have c3b1 := decide_eq_true c3
   try have c3b2 := nl_ c3
   obtain rfl := Option.some.inj H
   go_enter Tryz.func231, Tryz.ntmps231
   go_wp2_with (first | ((with_reducible refine gate_dst (N := 1) rfl ?_); refine be_ (cs := #[.int .i64 a0_0, .string a0_1, .string a0_2]) (t := 108) ?_; intro gb205 hg w4 hbox hb; have BK205 := Aside0.mk (hbox); have GW205 := Aside0.mk (gw_ hg HB.out); have GE205 := Aside0.mk (gw_ hg HB.out); replace HB := Aside0.mk (below_step (hb_ HB.out) hb); clear hb hbox hg; obtain ⟨hcz5_0, hcz5_1, hcz5_2, hfz5_0, hfz5_1, hfz5_2⟩ := bc3 BK205.out))
   go_ret
   exact ⟨z4_, hs_⟩
  ·rw [if_neg c3] at H
   exact absurd H (by simp)
 ·rw [if_neg c2] at H
  have c2b0 := beq_eq_false_iff_ne.mpr c2
  have c2b1 := bne_iff_ne.mpr c2
  obtain rfl := Option.some.inj H
  go_enter Tryz.func231, Tryz.ntmps231
  go_wp2_with (first | ((with_reducible refine gate_dst (N := 1) rfl ?_); refine be_ (cs := #[.int .i64 a0_0, .string a0_1, .string a0_2]) (t := 108) ?_; intro gb205 hg w6 hbox hb; have BK205 := Aside0.mk (hbox); have GW205 := Aside0.mk (gw_ hg HB.out); have GE205 := Aside0.mk (gw_ hg HB.out); replace HB := Aside0.mk (below_step (hb_ HB.out) hb); clear hb hbox hg; obtain ⟨hcz7_0, hcz7_1, hcz7_2, hfz7_0, hfz7_1, hfz7_2⟩ := bc3 BK205.out))
  go_ret
  exact ⟨z4_, hs_⟩


def tree_Less.f (a0_0 : Int) (a0_1 : ByteArray) (a0_2 : ByteArray) (a1_0 : Int) (a1_1 : ByteArray) (a1_2 : ByteArray) : Option (Bool) := (tree_key.f a0_0 a0_1 a0_2).bind fun t177 => ((tree_key.f a1_0 a1_1 a1_2).bind fun t178 => (some (Op.bytesLess t177.toList t178.toList)))
set_option maxHeartbeats 8000000 in
set_option maxRecDepth 100000 in
theorem tree_Less.calls (a0_0 : Int) (a0_1 : ByteArray) (a0_2 : ByteArray) (a1_0 : Int) (a1_1 : ByteArray) (a1_2 : ByteArray) (r : Bool) (w : World) (h : tree_Less.f a0_0 a0_1 a0_2 a1_0 a1_1 a1_2 = some r) :
  Calls Tryz.prog 193 #[.agg #[.int .i64 a0_0, .string a0_1, .string a0_2], .agg #[.int .i64 a1_0, .string a1_1, .string a1_2]] w fun e w' => e = .returned (.bool r) ∧ Below w.heap.size w w' := by
 have hu108 := Tryz.underlying108
 have HB := Aside0.mk (Below.refl w.heap.size w)
 have H : ((tree_key.f a0_0 a0_1 a0_2).bind fun t177 => ((tree_key.f a1_0 a1_1 a1_2).bind fun t178 => (some (Op.bytesLess t177.toList t178.toList)))) = some r := h
 clear h
 replace H := Option.bind_eq_some_iff.mp H
 obtain ⟨t177, A30, H⟩ := H
 have A3 := Aside0.mk A30
 clear A30
 replace H := Option.bind_eq_some_iff.mp H
 obtain ⟨t178, A40, H⟩ := H
 have A4 := Aside0.mk A40
 clear A40
 obtain rfl := Option.some.inj H
 go_enter Tryz.func193, Tryz.ntmps193
 try go_wp2_with (first | ((with_reducible refine gate_dst (N := 2) rfl ?_); refine be_ (cs := #[.int .i64 a0_0, .string a0_1, .string a0_2]) (t := 108) ?_; intro gb175 hg w5 hbox hb; have BK175 := Aside0.mk (hbox); have GW175 := Aside0.mk (gw_ hg HB.out); have GE175 := Aside0.mk (gw_ hg HB.out); replace HB := Aside0.mk (below_step (hb_ HB.out) hb); clear hb hbox hg) | ((with_reducible refine gate_dst (N := 3) rfl ?_); refine be_ (cs := #[.int .i64 a1_0, .string a1_1, .string a1_2]) (t := 108) ?_; intro gb176 hg w6 hbox hb; have BK176 := Aside0.mk (hbox); have GW176 := Aside0.mk ((by rw [hg]; exact (below_size (hs_)) : w.heap.size ≤ gb176)); have GE176 := Aside0.mk ((by rw [hg]; exact (below_size (hs_)) : w.heap.size ≤ gb176)); replace HB := Aside0.mk (below_step (hs_) hb); have NB175_176 := Aside0.mk (nl2_ hg BK175.out); have NB176_175 := Aside0.mk (ng2_ hg BK175.out); replace BK175 := Aside0.mk (bb_ BK175.out hb); clear hb hbox hg))
 replace BK175 := Aside0.mk (blk_drew BK175.out)
 replace BK176 := Aside0.mk (blk_drew BK176.out)
 replace HB := Aside0.mk (below_drew1 HB.out)
 refine start_ (n := 6) (S := fun w' => w'.cell? ⟨gb175, 0, none⟩ = some (.int .i64 a0_0) ∧ w'.cell? ⟨gb175, 1, none⟩ = some (.string a0_1) ∧ w'.cell? ⟨gb175, 2, none⟩ = some (.string a0_2) ∧ w'.cell? ⟨gb176, 0, none⟩ = some (.int .i64 a1_0) ∧ w'.cell? ⟨gb176, 1, none⟩ = some (.string a1_1) ∧ w'.cell? ⟨gb176, 2, none⟩ = some (.string a1_2)) (ds := []) (bs 6 0) (by kernel_rfl) rfl rfl ⟨(blk_cell BK175.out 0).trans rfl, (blk_cell BK175.out 1).trans rfl, (blk_cell BK175.out 2).trans rfl, (blk_cell BK176.out 0).trans rfl, (blk_cell BK176.out 1).trans rfl, (blk_cell BK176.out 2).trans rfl⟩ (fun hHeld => ?_)
 generalize w6.drew = w7 at BK175 BK176 HB hHeld ⊢
 refine tkK6_ (i := 0) (N := some 5) (bs 6 1) rfl rfl hHeld ?_
 refine tkK6_ (i := 2) (N := some 7) (bs 6 5) rfl rfl hHeld ?_
 refine one_ (i := 1) (N := some 6) (bs 6 7) rfl rfl (by kernel_rfl) (by decide) (fun K hK => ?_)
 refine goes_ Tryz.func231 (by kernel_rfl) rfl #[.agg #[.int .i64 a0_0, .string a0_1, .string a0_2]] (by rfl) rfl rfl z2_ ?_
 with_reducible refine (tree_key.calls a0_0 a0_1 a0_2 t177 _ A3.out).mono ?_
 rintro e w8 ⟨rfl, hb⟩
 refine ⟨_, rfl, ?_⟩
 replace BK175 := Aside0.mk (bb_ BK175.out hb)
 replace BK176 := Aside0.mk (bb_ BK176.out hb)
 replace HB := Aside0.mk (below_step (hs_) hb)
 (try clear hb)
 (try clear hb2)
 (try clear hk)
 (try clear hi)
 refine hK.out _ _ ⟨(blk_cell BK175.out 0).trans rfl, (blk_cell BK175.out 1).trans rfl, (blk_cell BK175.out 2).trans rfl, (blk_cell BK176.out 0).trans rfl, (blk_cell BK176.out 1).trans rfl, (blk_cell BK176.out 2).trans rfl⟩ (fun hHeld => ?_)
 clear hK K
 refine norm_ (a' := ?_) ?_ ?_
 rotate_left
 ·show Act.put _ (some 6) _ = _
  simp only [Act.put, List.setIfInBounds_toArray, List.set_cons_zero, List.set_cons_succ, i64_w, i32_w]
  rfl
 refine one_ (i := 3) (N := some 8) (bs 6 15) rfl rfl (by kernel_rfl) (by decide) (fun K hK => ?_)
 refine goes_ Tryz.func231 (by kernel_rfl) rfl #[.agg #[.int .i64 a1_0, .string a1_1, .string a1_2]] (by rfl) rfl rfl z2_ ?_
 with_reducible refine (tree_key.calls a1_0 a1_1 a1_2 t178 _ A4.out).mono ?_
 rintro e w9 ⟨rfl, hb⟩
 refine ⟨_, rfl, ?_⟩
 replace BK175 := Aside0.mk (bb_ BK175.out hb)
 replace BK176 := Aside0.mk (bb_ BK176.out hb)
 replace HB := Aside0.mk (below_step (hs_) hb)
 (try clear hb)
 (try clear hb2)
 (try clear hk)
 (try clear hi)
 refine hK.out _ _ ⟨(blk_cell BK175.out 0).trans rfl, (blk_cell BK175.out 1).trans rfl, (blk_cell BK175.out 2).trans rfl, (blk_cell BK176.out 0).trans rfl, (blk_cell BK176.out 1).trans rfl, (blk_cell BK176.out 2).trans rfl⟩ (fun hHeld => ?_)
 clear hK K
 refine norm_ (a' := ?_) ?_ ?_
 rotate_left
 ·show Act.put _ (some 8) _ = _
  simp only [Act.put, List.setIfInBounds_toArray, List.set_cons_zero, List.set_cons_succ, i64_w, i32_w]
  rfl
 refine pk_ (i := 4) (N := some 9) (bs 6 31) rfl rfl ?_
 refine pk_ (i := 5) (N := some 4) (bs 6 63) rfl rfl ?_
 refine done_ (by kernel_rfl) ?_
 try go_wp2
 go_ret
 exact ⟨z4_, hs_⟩


def tree_may.f (k : Nat) (a0_0 : Int) (a0_1 : ByteArray) (a0_2 : ByteArray) : Option (Bool) := if a0_0 ≥ 1 then (if a0_0 ≤ 4 then ((path_Is.f k a0_1).bind fun t121 => (if t121 = true then ((strings_Contains2.f a0_1 (⟨#[47]⟩ : ByteArray)).bind fun t122 => (if t122 = true then (some false) else ((ident_Is.f k a0_2).bind fun t123 => (some t123)))) else (some false))) else (some false)) else (some false)
theorem tree_may.mono : ∀ a0 a1 a2 k, LeO (tree_may.f k a0 a1 a2) (tree_may.f (k + 1) a0 a1 a2) := by
 intro a0 a1 a2 k
 unfold tree_may.f
 have m0_ := @ident_Is.mono
 have m1_ := @path_Is.mono
 exact mz_
set_option maxHeartbeats 8000000 in
set_option maxRecDepth 100000 in
theorem tree_may.calls (k : Nat) (a0_0 : Int) (a0_1 : ByteArray) (a0_2 : ByteArray) (r : Bool) (w : World) (hgv : GV w) (h : tree_may.f k a0_0 a0_1 a0_2 = some r) :
  Calls Tryz.prog 192 #[.agg #[.int .i64 a0_0, .string a0_1, .string a0_2]] w fun e w' => e = .returned (.bool r) ∧ Below w.heap.size w w' := by
 have hu108 := Tryz.underlying108
 have HB := Aside0.mk (Below.refl w.heap.size w)
 have H : (if a0_0 ≥ 1 then (if a0_0 ≤ 4 then ((path_Is.f k a0_1).bind fun t121 => (if t121 = true then ((strings_Contains2.f a0_1 (⟨#[47]⟩ : ByteArray)).bind fun t122 => (if t122 = true then (some false) else ((ident_Is.f k a0_2).bind fun t123 => (some t123)))) else (some false))) else (some false)) else (some false)) = some r := h
 clear h
 by_cases c2 : a0_0 ≥ 1
 ·rw [if_pos c2] at H
  have c2b0 := decide_eq_true c2
  clear c2
  by_cases c3 : a0_0 ≤ 4
  ·rw [if_pos c3] at H
   have c3b0 := decide_eq_true c3
   clear c3
   replace H := Option.bind_eq_some_iff.mp H
   obtain ⟨t121, A40, H⟩ := H
   have A4 := Aside0.mk A40
   clear A40
   by_cases c5 : t121 = true
   ·subst c5
    have H1 : ((strings_Contains2.f a0_1 (⟨#[47]⟩ : ByteArray)).bind fun t122 => (if t122 = true then (some false) else ((ident_Is.f k a0_2).bind fun t123 => (some t123)))) = some r := by rw [if_pos rfl] at H; exact H
    clear H
    have H := H1
    clear H1
    replace H := Option.bind_eq_some_iff.mp H
    obtain ⟨t122, A60, H⟩ := H
    have A6 := Aside0.mk A60
    clear A60
    by_cases c7 : t122 = true
    ·subst c7
     have H1 : (some false) = some r := by rw [if_pos rfl] at H; exact H
     clear H
     have H := H1
     clear H1
     obtain rfl := Option.some.inj H
     go_enter Tryz.func192, Tryz.ntmps192
     go_wp2_with (first | ((with_reducible refine gate_dst (N := 1) rfl ?_); refine be_ (cs := #[.int .i64 a0_0, .string a0_1, .string a0_2]) (t := 108) ?_; intro gb120 hg w8 hbox hb; have BK120 := Aside0.mk (hbox); have GW120 := Aside0.mk (gw_ hg HB.out); have GE120 := Aside0.mk (gw_ hg HB.out); replace HB := Aside0.mk (below_step (hb_ HB.out) hb); clear hb hbox hg; obtain ⟨hcz9_0, hcz9_1, hcz9_2, hfz9_0, hfz9_1, hfz9_2⟩ := bc3 BK120.out) | (go_at_call 156; (with_reducible refine (path_Is.calls k a0_1 true _ A4.out).mono ?_); rintro e w10 ⟨rfl, hb⟩; replace BK120 := Aside0.mk (bb_ BK120.out hb); replace HB := Aside0.mk (below_step (hs_) hb); (try clear hb); (try clear hb2); (try clear hk); (try clear hi); obtain ⟨hcz11_0, hcz11_1, hcz11_2, hfz11_0, hfz11_1, hfz11_2⟩ := bc3 BK120.out) | (go_at_call 68; (with_reducible refine (strings_Contains2.calls a0_1 (⟨#[47]⟩ : ByteArray) true _ ?side1 A6.out).mono ?_); (case side1 => exact GV.below hgv (hs_)); rintro e w' ⟨rfl, ⟨nd, rfl⟩⟩))
     go_ret
     exact ⟨z4_, hs_⟩
    ·replace c7 := Bool.eq_false_iff.mpr c7
     subst c7
     have H1 : ((ident_Is.f k a0_2).bind fun t123 => (some t123)) = some r := by rw [if_neg (show ¬ (false = true) by decide)] at H; exact H
     clear H
     have H := H1
     clear H1
     replace H := Option.bind_eq_some_iff.mp H
     obtain ⟨t123, A120, H⟩ := H
     have A12 := Aside0.mk A120
     clear A120
     obtain rfl := Option.some.inj H
     go_enter Tryz.func192, Tryz.ntmps192
     go_wp2_with (first | ((with_reducible refine gate_dst (N := 1) rfl ?_); refine be_ (cs := #[.int .i64 a0_0, .string a0_1, .string a0_2]) (t := 108) ?_; intro gb120 hg w13 hbox hb; have BK120 := Aside0.mk (hbox); have GW120 := Aside0.mk (gw_ hg HB.out); have GE120 := Aside0.mk (gw_ hg HB.out); replace HB := Aside0.mk (below_step (hb_ HB.out) hb); clear hb hbox hg; obtain ⟨hcz14_0, hcz14_1, hcz14_2, hfz14_0, hfz14_1, hfz14_2⟩ := bc3 BK120.out) | (go_at_call 156; (with_reducible refine (path_Is.calls k a0_1 true _ A4.out).mono ?_); rintro e w15 ⟨rfl, hb⟩; replace BK120 := Aside0.mk (bb_ BK120.out hb); replace HB := Aside0.mk (below_step (hs_) hb); (try clear hb); (try clear hb2); (try clear hk); (try clear hi); obtain ⟨hcz16_0, hcz16_1, hcz16_2, hfz16_0, hfz16_1, hfz16_2⟩ := bc3 BK120.out) | (go_at_call 68; (with_reducible refine (strings_Contains2.calls a0_1 (⟨#[47]⟩ : ByteArray) false _ ?side1 A6.out).mono ?_); (case side1 => exact GV.below hgv (hs_)); rintro e w' ⟨rfl, ⟨nd, rfl⟩⟩) | (go_at_call 65; (with_reducible refine (ident_Is.calls k a0_2 t123 _ A12.out).mono ?_); rintro e w' ⟨rfl, ⟨nd, rfl⟩⟩))
     go_ret
     exact ⟨z4_, hs_⟩
   ·replace c5 := Bool.eq_false_iff.mpr c5
    subst c5
    have H1 : (some false) = some r := by rw [if_neg (show ¬ (false = true) by decide)] at H; exact H
    clear H
    have H := H1
    clear H1
    obtain rfl := Option.some.inj H
    go_enter Tryz.func192, Tryz.ntmps192
    go_wp2_with (first | ((with_reducible refine gate_dst (N := 1) rfl ?_); refine be_ (cs := #[.int .i64 a0_0, .string a0_1, .string a0_2]) (t := 108) ?_; intro gb120 hg w17 hbox hb; have BK120 := Aside0.mk (hbox); have GW120 := Aside0.mk (gw_ hg HB.out); have GE120 := Aside0.mk (gw_ hg HB.out); replace HB := Aside0.mk (below_step (hb_ HB.out) hb); clear hb hbox hg; obtain ⟨hcz18_0, hcz18_1, hcz18_2, hfz18_0, hfz18_1, hfz18_2⟩ := bc3 BK120.out) | (go_at_call 156; (with_reducible refine (path_Is.calls k a0_1 false _ A4.out).mono ?_); rintro e w19 ⟨rfl, hb⟩; replace BK120 := Aside0.mk (bb_ BK120.out hb); replace HB := Aside0.mk (below_step (hs_) hb); (try clear hb); (try clear hb2); (try clear hk); (try clear hi)))
    go_ret
    exact ⟨z4_, hs_⟩
  ·rw [if_neg c3] at H
   have c3b0 := decide_eq_false c3
   clear c3
   obtain rfl := Option.some.inj H
   go_enter Tryz.func192, Tryz.ntmps192
   go_wp2_with (first | ((with_reducible refine gate_dst (N := 1) rfl ?_); refine be_ (cs := #[.int .i64 a0_0, .string a0_1, .string a0_2]) (t := 108) ?_; intro gb120 hg w20 hbox hb; have BK120 := Aside0.mk (hbox); have GW120 := Aside0.mk (gw_ hg HB.out); have GE120 := Aside0.mk (gw_ hg HB.out); replace HB := Aside0.mk (below_step (hb_ HB.out) hb); clear hb hbox hg; obtain ⟨hcz21_0, hcz21_1, hcz21_2, hfz21_0, hfz21_1, hfz21_2⟩ := bc3 BK120.out))
   go_ret
   exact ⟨z4_, hs_⟩
 ·rw [if_neg c2] at H
  have c2b0 := decide_eq_false c2
  clear c2
  obtain rfl := Option.some.inj H
  go_enter Tryz.func192, Tryz.ntmps192
  go_wp2_with (first | ((with_reducible refine gate_dst (N := 1) rfl ?_); refine be_ (cs := #[.int .i64 a0_0, .string a0_1, .string a0_2]) (t := 108) ?_; intro gb120 hg w22 hbox hb; have BK120 := Aside0.mk (hbox); have GW120 := Aside0.mk (gw_ hg HB.out); have GE120 := Aside0.mk (gw_ hg HB.out); replace HB := Aside0.mk (below_step (hb_ HB.out) hb); clear hb hbox hg; obtain ⟨hcz23_0, hcz23_1, hcz23_2, hfz23_0, hfz23_1, hfz23_2⟩ := bc3 BK120.out))
  go_ret
  exact ⟨z4_, hs_⟩

end Go.Proofs.YtbhfbbfjdklfgaaGreatDoor.Q


/- A map from strings to ints that the call makes, as a state: how often it was written, and what stands at a key. -/
namespace Go.Proofs.YtbhfbbfjdklfgaaGreatDoor.Q
open Go.RowKit Go.Maps Go.Proofs.YtbhfbbfjdklfgaaGreatDoorW.PrintWords Go.Proofs.YtbhfbbfjdklfgaaGreatDoorW.PrintLast Go.Proofs.YtbhfbbfjdklfgaaGreatDoorW.PrintMore
structure MSI where
  n : Nat
  f : List UInt8 → Option Int
def MSI.nil : MSI := ⟨0, fun _ => none⟩
def MSI.get (m : MSI) (k : ByteArray) : Int := (m.f k.data.toList).getD 0
def MSI.has (m : MSI) (k : ByteArray) : Bool := (m.f k.data.toList).isSome
def MSI.put (m : MSI) (k : ByteArray) (v : Int) : MSI := ⟨m.n + 1, fun x => if x = k.data.toList then some v else m.f x⟩
def IsS176 (w0 W : World) (g : Nat) (f0 : MSI) : Prop := w0.heap.size ≤ g ∧ ∃ D : DataW Unit, W.ownsMap Tryz.prog 9 (plainElem Tryz.prog 3) g f0.n D ∧
  ∀ s : List UInt8, s.length ≤ maxLen → D.atKey (.string s) (.lit (.int .i64 0)) = .lit (.int .i64 ((f0.f s).getD 0)) ∧ Maps.has D (.string s) = (f0.f s).isSome
theorem mapLaw : Keyed Tryz.prog 9 := string_keyed Tryz.underlying9
theorem mapZero (w : World) : (zeroValue 3).run Tryz.prog w = .ok (.int .i64 0) w := by kernel_rfl
section
variable {w0 W W1 : World} {g : Nat} {f0 : MSI}
theorem IsS176.block (h : IsS176 w0 W g f0) : ∃ es clock, W.heap[g]? = some (.map es clock) := by
  obtain ⟨_, D, ⟨es, c, hb, _⟩, _⟩ := h
  exact ⟨es, c, hb⟩
theorem IsS176.grown {row : Option Nat} (h : IsS176 w0 W g f0) (hw : W.grownBy W1 row) (hne : some g ≠ row) : IsS176 w0 W1 g f0 := by
  obtain ⟨h0, D, h1, h2⟩ := h
  exact ⟨h0, D, h1.kept hw hne, h2⟩
theorem IsS176.below (h : IsS176 w0 W g f0) (hw : Below W.heap.size W W1) : IsS176 w0 W1 g f0 := h.grown (grown_of_below hw none) (by simp)
theorem IsS176.alloc (h : IsS176 w0 W g f0) (o : Obj) : IsS176 w0 (W.alloc o) g f0 := h.below (below_alloc (Below.refl _ _) o)
theorem IsS176.drewN (h : IsS176 w0 W g f0) (m : Nat) : IsS176 w0 (W.drewN m) g f0 := h
theorem IsS176.drew (h : IsS176 w0 W g f0) : IsS176 w0 W.drew g f0 := h
theorem IsS176.at_ {m : Nat} (hq : W.drewN m = W1) (h : IsS176 w0 W g f0) : IsS176 w0 W1 g f0 := by subst hq; exact h
theorem IsS176.ge (h : IsS176 w0 W g f0) : w0.heap.size ≤ g := h.1
theorem IsS176.lt (h : IsS176 w0 W g f0) : g < W.heap.size := by
  obtain ⟨_, D, h1, _⟩ := h
  exact h1.lt
theorem IsS176.fresh (h : IsS176 w0 W g f0) : ∀ k, W.heap.size ≤ k → k ≠ g := fun k hk e => by have := h.lt; omega
theorem IsS176.far {p : Addr} (h : IsS176 w0 W g f0) (hne : g ≠ p.block) (u : Value) : IsS176 w0 (W.setCell p u) g f0 := by
  obtain ⟨h0, D, h1, h2⟩ := h
  exact ⟨h0, D, h1.setCell hne u, h2⟩
theorem IsS176.apart {α : Type} {d : Kd α} {e : Nat} {base : Nat} {ok : Nat → Prop} {v : Value} {xs : List α} (h : IsS176 w0 W g f0) (ho : d.R e W base ok v xs) (ht : ∀ q, q ∈ e :: d.E → q ≠ 176) : d.R e W base (fun k => ok k ∧ k ≠ g) v xs := by
  obtain ⟨es, c, hb⟩ := h.block
  refine Kd.R_mono (Kd.R_bound ho) (fun k hk => ⟨hk.1, ?_⟩)
  rintro rfl
  obtain ⟨_, _, _, q, _, cells, hc⟩ := hk
  rw [hc] at hb
  cases hb
theorem IsS176.own_ne {α : Type} {d : Kd α} {e : Nat} {base : Nat} {ok : Nat → Prop} {v : Value} {xs : List α} (h : IsS176 w0 W g f0) (ho : d.R e W base ok v xs) (ht : e ≠ 176) : some g ≠ v.ownBlock := by
  obtain ⟨es, c, hb⟩ := h.block
  intro he
  obtain ⟨_, _, _, q, _, cells, hc⟩ := (Kd.R_bound ho).1 g he.symm
  rw [hc] at hb
  cases hb
theorem IsS176.made (hb : W.ownsMap Tryz.prog 9 (plainElem (H := Unit) Tryz.prog 3) g 0 (.map [])) (hg : w0.heap.size ≤ g) : IsS176 w0 W g MSI.nil :=
  ⟨hg, .map [], hb, fun s hs => ⟨by simp [DataW.atKey, MSI.nil], by simp [Maps.has, MSI.nil]⟩⟩
end
section
variable {ops : Array Oper} {rest : List Oper} {o : Oper} {a : Act} {Q : Exit → Act → World → Prop} {w0 W : World} {g : Nat} {f0 : MSI}
theorem mkmap_event (hgd : o.guard = none) {N : Tmp} (hd : o.dst = some N) (hop : o.op = .makeMap 176 none)
    (h : ∀ g, g = W.heap.size → ∀ w1, w1.ownsMap Tryz.prog 9 (plainElem (H := Unit) Tryz.prog 3) g 0 (.map []) → Below W.heap.size W w1 → wpList Tryz.prog ops Q rest (a.put o.dst (.map (some g))) w1) : wpList Tryz.prog ops Q (o :: rest) a W := by
  have hmm := @run_makeMap Tryz.prog
  refine Kd.event_run hgd (v := .map (some W.heap.size)) (w1 := W.alloc (.map #[] 0)) ?_ (h _ rfl _ (World.ownsMap_made _ _ _ _) (below_alloc (Below.refl _ _) _))
  simp [execOp, hop, hmm, Result.andThen]
theorem IsS176.look {m x : Operand} {k : ByteArray} (h : IsS176 w0 W g f0) (hgd : o.guard = none) (hop : o.op = .lookup 176 m x false) (hm : a.eval m = .map (some g)) (hx : a.eval x = .string k) (hs : k.size ≤ 9223372036854775807)
    (K : wpList Tryz.prog ops Q rest (a.put o.dst (.int .i64 (MSI.get f0 k))) W) : wpList Tryz.prog ops Q (o :: rest) a W := by
  obtain ⟨h0, D, h1, h2⟩ := h
  refine wpList_lookup_own_int _ hgd m x 176 hop 9 3 .i64 mapLaw Tryz.underlying176 Tryz.underlying3 (mapZero _) g f0.n D hm h1 _ _ hx (WideMaps.keyOf_string_mk Tryz.underlying9 (by unfold maxLen; exact hs)) ?_
  intro c hat hwc
  have := (h2 k.data.toList (by unfold maxLen; exact hs)).1
  rw [this] at hat
  have e : c = MSI.get f0 k := by
    injection hat with hat
    injection hat with _ hat
    exact hat.symm
  rw [e]
  exact K
theorem IsS176.put_ {m x v : Operand} {k : ByteArray} {n : Int} (h : IsS176 w0 W g f0) (hgd : o.guard = none) (hop : o.op = .mapUpdate 176 m x v) (hm : a.eval m = .map (some g)) (hx : a.eval x = .string k) (hv : a.eval v = .int .i64 n) (hs : k.size ≤ 9223372036854775807) (hn : f0.n < 4611686018427387904) (hw : (Lit.int .i64 n).wf = true)
    (K : ∀ w1, IsS176 w0 w1 g (MSI.put f0 k n) → W.grownBy w1 (some g) → wpList Tryz.prog ops Q rest (a.put o.dst undef) w1) : wpList Tryz.prog ops Q (o :: rest) a W := by
  obtain ⟨h0, D, h1, h2⟩ := h
  have hk : keyOf Tryz.prog 9 (.string k) = some (.string k.data.toList) := WideMaps.keyOf_string_mk Tryz.underlying9 (by unfold maxLen; exact hs)
  refine wpList_mapUpdate_own _ hgd m x v 176 hop 9 3 mapLaw Tryz.underlying176 _ g f0.n D hm h1 (by unfold maxLen; omega) _ _ _ hx hv hk _ [] (plainElem_int Tryz.underlying3 hw) ?_
  intro w1 hown hg
  refine K w1 ⟨h0, _, hown, fun s hl => ?_⟩ hg
  have hD : IsMap D := by
    obtain ⟨es, c, _, _, _, rfl⟩ := h1
    exact ⟨_, rfl⟩
  have hkl : WideAt.IsKeyLit (.string k.data.toList) := trivial
  by_cases e : s = k.data.toList
  · subst e
    refine ⟨?_, ?_⟩
    · rw [atKey_put_same hD hkl]; simp [MSI.put]
    · rw [has_put_same hD hkl]; simp [MSI.put]
  · have hne : (Lit.string s) ≠ .string k.data.toList := fun h => e (by injection h)
    have := h2 s hl
    refine ⟨?_, ?_⟩
    · rw [atKey_put_other hne, this.1]; simp [MSI.put, e]
    · rw [has_put_other hne, this.2]; simp [MSI.put, e]
end
end Go.Proofs.YtbhfbbfjdklfgaaGreatDoor.Q


namespace Go.Proofs.YtbhfbbfjdklfgaaGreatDoor.Q
open Go.RowKit Go.Proofs.YtbhfbbfjdklfgaaGreatDoorW.PrintWords Go.Proofs.YtbhfbbfjdklfgaaGreatDoorW.PrintLast Go.Proofs.YtbhfbbfjdklfgaaGreatDoorW.PrintMore
attribute [local go_sem] max2_int min2_int max_two min_two max_three min_three max_four min_four   -- for this text's walks alone

mutual
def tree_Check.l0 : Nat → List (S108) → List (S108) → Int → Int → MSI → Option (Int)
 | 0, _, _, _, _, _ => none
 | k + 1, x0, x10, x11, x12, x102000 => if x12 < x11 then (if 0 ≤ x12 then (if x12 < (x10.length : Int) then (if ((rd_T108 x10 x12).f1).size ≤ 9223372036854775807 then (if x102000.n < 4611686018427387904 then ((tree_may.f k ((rd_T108 x10 x12).f0) ((rd_T108 x10 x12).f1) ((rd_T108 x10 x12).f2)).bind fun t104 => (if t104 = true then (if x12 > 0 then (if 0 ≤ (wrap64 (x12 - 1)) then (if (wrap64 (x12 - 1)) < (x0.length : Int) then ((tree_Less.f ((rd_T108 x0 (wrap64 (x12 - 1))).f0) ((rd_T108 x0 (wrap64 (x12 - 1))).f1) ((rd_T108 x0 (wrap64 (x12 - 1))).f2) ((rd_T108 x10 x12).f0) ((rd_T108 x10 x12).f1) ((rd_T108 x10 x12).f2)).bind fun t106 => (tree_Check.j1 k x0 x10 x11 x12 (!t106) (MSI.put x102000 ((rd_T108 x10 x12).f1) (wrap64 ((MSI.get x102000 ((rd_T108 x10 x12).f1)) + 1))) ((rd_T108 x10 x12).f0) ((rd_T108 x10 x12).f1) ((rd_T108 x10 x12).f2))) else (none)) else (none)) else (tree_Check.j1 k x0 x10 x11 x12 false (MSI.put x102000 ((rd_T108 x10 x12).f1) (wrap64 ((MSI.get x102000 ((rd_T108 x10 x12).f1)) + 1))) ((rd_T108 x10 x12).f0) ((rd_T108 x10 x12).f1) ((rd_T108 x10 x12).f2))) else (some 1))) else (none)) else (none)) else (none)) else (none)) else (some 0)
def tree_Check.j1 : Nat → List (S108) → List (S108) → Int → Int → Bool → MSI → Int → ByteArray → ByteArray → Option (Int)
 | 0, _, _, _, _, _, _, _, _, _ => none
 | k + 1, x0, x10, x11, x12, x26, x102000, x104000, x104001, x104002 => if x26 = true then (some 150) else (if x104001.size ≤ 9223372036854775807 then (if (MSI.get x102000 x104001) > 1 then (some 6) else (tree_Check.l0 k x0 x10 x11 (wrap64 (x12 + 1)) x102000)) else (none))
end
def tree_Check.f (k : Nat) (l0 : List (S108)) : Option (Int) := if (l0.length : Int) > 1024 then (some 4) else (tree_Check.l0 k l0 l0 (l0.length : Int) 0 MSI.nil)
theorem tree_Check.mono_l : ∀ k, (∀ y0 y1 y2 y3 y4, LeO (tree_Check.l0 k y0 y1 y2 y3 y4) (tree_Check.l0 (k + 1) y0 y1 y2 y3 y4)) ∧ (∀ y0 y1 y2 y3 y4 y5 y6 y7 y8, LeO (tree_Check.j1 k y0 y1 y2 y3 y4 y5 y6 y7 y8) (tree_Check.j1 (k + 1) y0 y1 y2 y3 y4 y5 y6 y7 y8))
 | 0 => ⟨fun _ _ _ _ _ r h => by simp [tree_Check.l0] at h, fun _ _ _ _ _ _ _ _ _ r h => by simp [tree_Check.j1] at h⟩
 | k + 1 => by
  obtain ⟨ih0, ih1⟩ := tree_Check.mono_l k
  refine ⟨?_, ?_⟩
  ·intro y0 y1 y2 y3 y4
   unfold tree_Check.l0
   have m0_ := @ih0
   have m1_ := @ih1
   have m2_ := @tree_may.mono
   exact mz_
  ·intro y0 y1 y2 y3 y4 y5 y6 y7 y8
   unfold tree_Check.j1
   have m0_ := @ih0
   have m1_ := @ih1
   have m2_ := @tree_may.mono
   exact mz_
theorem tree_Check.mono : ∀ a0 k, LeO (tree_Check.f k a0) (tree_Check.f (k + 1) a0) := by
 intro a0 k
 obtain ⟨ih0, ih1⟩ := tree_Check.mono_l k
 unfold tree_Check.f
 have m0_ := @ih0
 have m1_ := @ih1
 have m2_ := @tree_may.mono
 exact mz_
def tree_Check.T10 : Bool × List (List Nat × List Nat) := (true, [([], []), ([0], [0]), ([1], [1]), ([2], [2]), ([2], [2]), ([4, 2], [2, 4]), ([3, 5, 2], [2, 3, 5]), ([6, 2], [2, 6]), ([2], [2]), ([7, 8, 2, 2], [2, 7, 8]), ([9, 2], [2, 9]), ([2, 10], [2, 10]), ([11, 9], [11])])
def tree_Check.B10 : List Nat := [0, 1, 3, 7, 7, 23, 63, 127, 7, 511, 1023, 2047, 4095]
theorem tree_Check.tab10 : rtab .any (opsOf Tryz.f150 10) = tree_Check.T10 := by kernel_rfl
theorem tree_Check.bits10 : waitsOk tree_Check.T10.2 tree_Check.B10 = true := by kernel_rfl
set_option maxHeartbeats 8000000 in
set_option maxRecDepth 100000 in
theorem tree_Check.calls (k : Nat) (A0 : Option Addr) (c0 : Nat) (l0 : List (S108)) (r : Int) (w : World) (hr0 : Kd.C k108 w A0 l0.length l0) (hc0 : l0.length ≤ c0) (hgv : GV w) (h : tree_Check.f k l0 = some r) :
  Calls Tryz.prog 150 #[.slice A0 l0.length c0] w fun e w' => e = .returned (.int .i64 r) ∧ Below w.heap.size w w' := by
 have hu108 := Tryz.underlying108
 have HR0 := Aside0.mk hr0
 have HC0 := Aside0.mk hc0
 clear hr0 hc0
 have HB := Aside0.mk (Below.refl w.heap.size w)
 have H : (if (l0.length : Int) > 1024 then (some 4) else (tree_Check.l0 k l0 l0 (l0.length : Int) 0 MSI.nil)) = some r := h
 clear h
 by_cases c2 : (l0.length : Int) > 1024
 ·rw [if_pos c2] at H
  have c2b0 := decide_eq_true c2
  have c2b1 : decide (1024 < l0.length) = true := decide_eq_true (by omega)
  clear c2
  obtain rfl := Option.some.inj H
  go_enter Tryz.func150, Tryz.ntmps150
  go_wp2
  go_ret
  exact ⟨z4_, hb_ HB.out⟩
 ·rw [if_neg c2] at H
  have c2b0 := decide_eq_false c2
  have c2b1 : decide (1024 < l0.length) = false := decide_eq_false (by omega)
  clear c2
  have H' := Aside0.mk H
  clear H
  go_enter Tryz.func150, Tryz.ntmps150
  go_wp2_with (first | ((with_reducible refine gate_dst (N := 9) rfl ?_); refine mkmap_event rfl (N := 9) rfl rfl ?_; intro gb101 hg w3 hbox hb; have HI101 := Aside0.mk (IsS176.made hbox (gw_ hg HB.out)); replace HB := Aside0.mk (below_step (hb_ HB.out) hb); clear hb hbox hg))
  go_loopg [12] k (fun kq v12 w' => ∃ (x12_1 : Int) (x102000_1 : MSI), v12 = .int .i64 x12_1 ∧ Aside0 (tree_Check.l0 kq l0 l0 (l0.length : Int) x12_1 x102000_1 = some r) ∧ Aside0 (kq ≤ k) ∧ Aside0 (IsS176 w w' gb101 x102000_1) ∧ Aside0 (Below w.heap.size w w'))
  case atStart => exact ⟨(0), (MSI.nil), z1_, H', ⟨Nat.le_refl _⟩, ⟨z23_⟩, ⟨z20_⟩⟩
  case round =>
   clear H'
   try clear c1
   try clear c2
   try clear c2b0
   try clear c2b1
   try clear p2
   obtain ⟨x12_1, x102000_1, rfl, HA, HK1, HI101, HB⟩ := hrel
   cases gk with
   | zero => exact absurd HA.out (by simp [tree_Check.l0])
   | succ k1 =>
    have H := HA.out
    clear HA
    simp only [tree_Check.l0] at H
    by_cases c4 : x12_1 < (l0.length : Int)
    ·rw [if_pos c4] at H
     have c4b0 := decide_eq_true c4
     clear c4
     by_cases c5 : 0 ≤ x12_1
     ·rw [if_pos c5] at H
      have c5b0 := decide_eq_true c5
      clear c5
      by_cases c6 : x12_1 < (l0.length : Int)
      ·rw [if_pos c6] at H
       have c6b0 := decide_eq_true c6
       clear c6
       by_cases c7 : ((rd_T108 l0 x12_1).f1).size ≤ 9223372036854775807
       ·rw [if_pos c7] at H
        have c7b0 := eq_true c7
        have c7b1 := decide_eq_true c7
        try have c7b2 := nl_ c7
        clear c7
        have c8b0 := eq_true (of_decide_eq_true z0_ : ((rd_T108 l0 x12_1).f1).size ≤ 9223372036854775807)
        by_cases c9 : x102000_1.n < 4611686018427387904
        ·rw [if_pos c9] at H
         have c9b0 := eq_true c9
         have c9b1 := decide_eq_true c9
         clear c9
         replace H := Option.bind_eq_some_iff.mp H
         obtain ⟨t104, A100, H⟩ := H
         have A10 := Aside0.mk A100
         clear A100
         by_cases c11 : t104 = true
         ·subst c11
          have H1 : (if x12_1 > 0 then (if 0 ≤ (wrap64 (x12_1 - 1)) then (if (wrap64 (x12_1 - 1)) < (l0.length : Int) then ((tree_Less.f ((rd_T108 l0 (wrap64 (x12_1 - 1))).f0) ((rd_T108 l0 (wrap64 (x12_1 - 1))).f1) ((rd_T108 l0 (wrap64 (x12_1 - 1))).f2) ((rd_T108 l0 x12_1).f0) ((rd_T108 l0 x12_1).f1) ((rd_T108 l0 x12_1).f2)).bind fun t106 => (tree_Check.j1 k1 l0 l0 (l0.length : Int) x12_1 (!t106) (MSI.put x102000_1 ((rd_T108 l0 x12_1).f1) (wrap64 ((MSI.get x102000_1 ((rd_T108 l0 x12_1).f1)) + 1))) ((rd_T108 l0 x12_1).f0) ((rd_T108 l0 x12_1).f1) ((rd_T108 l0 x12_1).f2))) else (none)) else (none)) else (tree_Check.j1 k1 l0 l0 (l0.length : Int) x12_1 false (MSI.put x102000_1 ((rd_T108 l0 x12_1).f1) (wrap64 ((MSI.get x102000_1 ((rd_T108 l0 x12_1).f1)) + 1))) ((rd_T108 l0 x12_1).f0) ((rd_T108 l0 x12_1).f1) ((rd_T108 l0 x12_1).f2))) = some r := by rw [if_pos rfl] at H; exact H
          clear H
          have H := H1
          clear H1
          have HC12 := Aside0.mk H
          clear H
          have p102 : 0 ≤ (x12_1 : Int) := of_decide_eq_true z0_
          have q102 : x12_1 < (l0.length : Int) := of_decide_eq_true z0_
          obtain ⟨ad102, e102, hx102_0, hx102_1, hx102_2⟩ := at_T108 HR0.out x12_1 p102 q102
          cases e102
          replace hx102_0 := (HB.out.cell (World.block_lt_of_cell? w _ hx102_0)).trans hx102_0
          replace hx102_1 := (HB.out.cell (World.block_lt_of_cell? w _ hx102_1)).trans hx102_1
          replace hx102_2 := (HB.out.cell (World.block_lt_of_cell? w _ hx102_2)).trans hx102_2
          replace p102 := eq_true p102
          replace q102 := eq_true q102
          go_upto_region 10 with (first | ((with_reducible refine gate_dst (N := 5) rfl ?_); refine be_ (cs := #[.int .i64 0, .string (⟨#[]⟩ : ByteArray), .string (⟨#[]⟩ : ByteArray)]) (t := 108) ?_; intro gb103 hg w13 hbox hb; have BK103 := Aside0.mk (hbox); have GW103 := Aside0.mk ((by rw [hg]; exact (below_size z20_) : w.heap.size ≤ gb103)); have GE103 := Aside0.mk ((by rw [hg]; exact (below_size z20_) : w.heap.size ≤ gb103)); replace HB := Aside0.mk (below_step z20_ hb); have NB101_103 := Aside0.mk ((by rw [hg]; exact Nat.ne_of_lt (IsS176.lt (show IsS176 w _ gb101 x102000_1 from z23_)) : gb101 ≠ gb103)); have NB103_101 := Aside0.mk ((by rw [hg]; exact Nat.ne_of_gt (IsS176.lt (show IsS176 w _ gb101 x102000_1 from z23_)) : gb103 ≠ gb101)); replace HI101 := Aside0.mk (IsS176.below z23_ hb); clear hb hbox hg; have hnb14 := NB103_101.out; have hnc14 := NB101_103.out; obtain ⟨hcz15_0, hcz15_1, hcz15_2, hfz15_0, hfz15_1, hfz15_2⟩ := bc3 BK103.out) | ((with_reducible refine gate_dst (N := 20) rfl ?_); refine IsS176.look (show IsS176 w _ gb101 x102000_1 from z14_) rfl rfl rfl rfl (of_decide_eq_true z0_ : ((rd_T108 l0 x12_1).f1).size ≤ 9223372036854775807) ?_) | (at_mapUpdate; refine IsS176.put_ (k := ((rd_T108 l0 x12_1).f1)) (n := (wrap64 ((MSI.get x102000_1 ((rd_T108 l0 x12_1).f1)) + 1))) (show IsS176 w _ gb101 x102000_1 from z14_) rfl rfl rfl rfl rfl (of_decide_eq_true z0_ : ((rd_T108 l0 x12_1).f1).size ≤ 9223372036854775807) (of_decide_eq_true z0_ : x102000_1.n < 4611686018427387904) (wrap64_wf _) ?_; intro w16 hi hg; replace BK103 := Aside0.mk (blk_grown (g := gb103) (o := .cells #[.int .i64 ((rd_T108 l0 x12_1).f0), .string ((rd_T108 l0 x12_1).f1), .string ((rd_T108 l0 x12_1).f2)] 108 (0, 0)) (by have b_ := BK103; exact zb_) hg (fun e_ => NB103_101.out (Option.some.inj e_))); replace HB := Aside0.mk (Below.grown z10_ hg ((below_size z10_)) (fun k_ e_ => (Option.some.inj e_) ▸ (IsS176.ge hi))); replace HI101 := Aside0.mk (hi); clear hi hg; obtain ⟨hcz17_0, hcz17_1, hcz17_2, hfz17_0, hfz17_1, hfz17_2⟩ := bc3 BK103.out) | ((with_reducible refine gate_callee (f := 192) rfl ?_); refine goesL_ (some 24) rfl rfl Tryz.func192 (by kernel_rfl) rfl #[.agg #[.int .i64 ((rd_T108 l0 x12_1).f0), .string ((rd_T108 l0 x12_1).f1), .string ((rd_T108 l0 x12_1).f2)]] rfl z2_ ?_; (with_reducible refine (tree_may.calls k1 ((rd_T108 l0 x12_1).f0) ((rd_T108 l0 x12_1).f1) ((rd_T108 l0 x12_1).f2) true _ ?side1 A10.out).mono ?_); (case side1 => exact GV.below hgv z10_); rintro e w18 ⟨rfl, hb⟩; refine ⟨_, rfl, ?_⟩; replace BK103 := Aside0.mk (bb_ BK103.out hb); replace HB := Aside0.mk (below_step z10_ hb); replace HI101 := Aside0.mk (IsS176.below z14_ hb); (try clear hb); (try clear hb2); (try clear hk); (try clear hi)))
          (try simp only [Act.put, List.setIfInBounds_toArray, List.set_cons_zero, List.set_cons_succ])
          go_cut [26] (fun v26 wc => ∃ (kq : Nat) (x26_11 : Bool), v26 = .bool x26_11 ∧ Aside0 (tree_Check.j1 kq l0 l0 (l0.length : Int) x12_1 x26_11 (MSI.put x102000_1 ((rd_T108 l0 x12_1).f1) (wrap64 ((MSI.get x102000_1 ((rd_T108 l0 x12_1).f1)) + 1))) ((rd_T108 l0 x12_1).f0) ((rd_T108 l0 x12_1).f1) ((rd_T108 l0 x12_1).f2) = some r) ∧ Aside0 (kq ≤ k1) ∧ Aside0 (wc.heap[gb103]? = some (.cells #[.int .i64 ((rd_T108 l0 x12_1).f0), .string ((rd_T108 l0 x12_1).f1), .string ((rd_T108 l0 x12_1).f2)] 108 (0, 0))) ∧ Aside0 (IsS176 w wc gb101 (MSI.put x102000_1 ((rd_T108 l0 x12_1).f1) (wrap64 ((MSI.get x102000_1 ((rd_T108 l0 x12_1).f1)) + 1)))) ∧ Aside0 (Below w.heap.size w wc))
          case first =>
           have H := HC12.out
           clear HC12
           by_cases c19 : x12_1 > 0
           ·rw [if_pos c19] at H
            have c19b0 := decide_eq_true c19
            clear c19
            (first | rw [c19b0] | (simp only [i64_w, i32_w]; rw [c19b0]) | skip)
            obtain ⟨ji20, hji20⟩ : ∃ j_ : Int, (wrap64 (x12_1 - 1)) = j_ := ⟨_, rfl⟩
            replace H : (if 0 ≤ (ji20) then (if (ji20) < (l0.length : Int) then ((tree_Less.f ((rd_T108 l0 (ji20)).f0) ((rd_T108 l0 (ji20)).f1) ((rd_T108 l0 (ji20)).f2) ((rd_T108 l0 x12_1).f0) ((rd_T108 l0 x12_1).f1) ((rd_T108 l0 x12_1).f2)).bind fun t106 => (tree_Check.j1 k1 l0 l0 (l0.length : Int) x12_1 (!t106) (MSI.put x102000_1 ((rd_T108 l0 x12_1).f1) (wrap64 ((MSI.get x102000_1 ((rd_T108 l0 x12_1).f1)) + 1))) ((rd_T108 l0 x12_1).f0) ((rd_T108 l0 x12_1).f1) ((rd_T108 l0 x12_1).f2))) else (none)) else (none)) = some r := by first | (rw [hji20] at H; exact H) | (simp only [hji20] at H ⊢; exact H)
            have hji20w : (IntKind.i64.wrap (x12_1 - 1)) = ji20 := (i64_w _).trans hji20
            by_cases c21 : 0 ≤ (ji20)
            ·rw [if_pos c21] at H
             have c21b0 := decide_eq_true c21
             clear c21
             by_cases c22 : (ji20) < (l0.length : Int)
             ·rw [if_pos c22] at H
              have c22b0 := decide_eq_true c22
              clear c22
              replace H := Option.bind_eq_some_iff.mp H
              obtain ⟨t106, A230, H⟩ := H
              have A23 := Aside0.mk A230
              clear A230
              have H' := Aside0.mk H
              clear H
              try go_wp2
              replace BK103 := Aside0.mk (blk_drew BK103.out)
              replace HI101 := Aside0.mk (IsS176.drew HI101.out)
              replace HB := Aside0.mk (below_drew1 HB.out)
              have p105 : 0 ≤ ((ji20) : Int) := of_decide_eq_true z0_
              have q105 : (ji20) < (l0.length : Int) := of_decide_eq_true z0_
              obtain ⟨ad105, e105, hx105_0, hx105_1, hx105_2⟩ := at_T108 HR0.out (ji20) p105 q105
              have hw105_2 := hx105_2
              have hw105_1 := hx105_1
              have hw105_0 := hx105_0
              obtain rfl : ad102 = ad105 := (by injection e105)
              replace hx105_0 := (HB.out.cell (World.block_lt_of_cell? w _ hx105_0)).trans hx105_0
              replace hx105_1 := (HB.out.cell (World.block_lt_of_cell? w _ hx105_1)).trans hx105_1
              replace hx105_2 := (HB.out.cell (World.block_lt_of_cell? w _ hx105_2)).trans hx105_2
              replace p105 := eq_true p105
              replace q105 := eq_true q105
              refine start_ (n := 13) (S := fun w' => w'.cell? ⟨gb103, 0, none⟩ = some (.int .i64 ((rd_T108 l0 x12_1).f0)) ∧ w'.cell? ⟨gb103, 1, none⟩ = some (.string ((rd_T108 l0 x12_1).f1)) ∧ w'.cell? ⟨gb103, 2, none⟩ = some (.string ((rd_T108 l0 x12_1).f2)) ∧ w'.cell? (ad102.add (((ji20)).toNat * 3)) = some (.int .i64 ((rd_T108 l0 (ji20)).f0)) ∧ w'.cell? ⟨(ad102.add (((ji20)).toNat * 3)).block, (ad102.add (((ji20)).toNat * 3)).off + 1, none⟩ = some (.string ((rd_T108 l0 (ji20)).f1)) ∧ w'.cell? ⟨(ad102.add (((ji20)).toNat * 3)).block, (ad102.add (((ji20)).toNat * 3)).off + 2, none⟩ = some (.string ((rd_T108 l0 (ji20)).f2))) (ds := []) (bs 13 0) (by kernel_rfl) rfl rfl ⟨(blk_cell BK103.out 0).trans rfl, (blk_cell BK103.out 1).trans rfl, (blk_cell BK103.out 2).trans rfl, ((HB.out.cell (World.block_lt_of_cell? w _ hw105_0)).trans hw105_0), ((HB.out.cell (World.block_lt_of_cell? w _ hw105_1)).trans hw105_1), ((HB.out.cell (World.block_lt_of_cell? w _ hw105_2)).trans hw105_2)⟩ (fun hHeld => ?_); refine with_tabW tree_Check.tab10 tree_Check.bits10 (fun HT_ HW_ => ?_)
              generalize w18.drew = w24 at BK103 HI101 HB hx105_0 hx105_1 hx105_2 hHeld ⊢
              refine pu_ (i := 0) (N := some 27) (bs 13 1) rfl rfl ?_
              refine pu_ (i := 1) (N := some 28) (bs 13 3) rfl rfl ?_
              refine pu_ (i := 2) (N := some 29) (bs 13 7) rfl rfl ?_
              refine pu_ (i := 3) (N := some 30) (bs 13 15) rfl rfl ?_
              refine pu_ (i := 4) (N := some 31) (bs 13 31) rfl rfl ?_
              refine pu_ (i := 5) (N := some 32) (bs 13 63) rfl rfl ?_
              refine pu_ (i := 6) (N := some 33) (bs 13 127) rfl rfl ?_
              refine tkW6_ (i := 7) (N := some 34) (bs 13 255) rfl rfl hHeld ?_
              refine tkW6_ (i := 8) (N := some 35) (bs 13 511) rfl rfl hHeld ?_
              refine one_ (i := 9) (N := some 36) (bs 13 1023) rfl rfl (one_of HT_.out (by kernel_rfl)) (by decide) (fun K hK => ?_)
              refine goes_ Tryz.func193 (by kernel_rfl) rfl #[.agg #[.int .i64 ((rd_T108 l0 (ji20)).f0), .string ((rd_T108 l0 (ji20)).f1), .string ((rd_T108 l0 (ji20)).f2)], .agg #[.int .i64 ((rd_T108 l0 x12_1).f0), .string ((rd_T108 l0 x12_1).f1), .string ((rd_T108 l0 x12_1).f2)]] (by rfl) rfl rfl (by (try simp only [List.map_toArray, List.map_cons, List.map_nil]); first | done | (simp only [hji20]; rfl) | rfl | (simp only [List.length_drop, List.length_take]; rfl)) ?_
              with_reducible refine (tree_Less.calls ((rd_T108 l0 (ji20)).f0) ((rd_T108 l0 (ji20)).f1) ((rd_T108 l0 (ji20)).f2) ((rd_T108 l0 x12_1).f0) ((rd_T108 l0 x12_1).f1) ((rd_T108 l0 x12_1).f2) t106 _ A23.out).mono ?_
              rintro e w25 ⟨rfl, hb⟩
              refine ⟨_, rfl, ?_⟩
              replace BK103 := Aside0.mk (bb_ BK103.out hb)
              replace HB := Aside0.mk (below_step z10_ hb)
              replace HI101 := Aside0.mk (IsS176.below z14_ hb)
              (try clear hb)
              (try clear hb2)
              (try clear hk)
              (try clear hi)
              refine hK.out _ _ ⟨(blk_cell BK103.out 0).trans rfl, (blk_cell BK103.out 1).trans rfl, (blk_cell BK103.out 2).trans rfl, ((HB.out.cell (World.block_lt_of_cell? w _ hw105_0)).trans hw105_0), ((HB.out.cell (World.block_lt_of_cell? w _ hw105_1)).trans hw105_1), ((HB.out.cell (World.block_lt_of_cell? w _ hw105_2)).trans hw105_2)⟩ (fun hHeld => ?_)
              clear hK K
              refine norm_ (a' := ?_) ?_ ?_
              rotate_left
              ·show Act.put _ (some 36) _ = _
               simp only [Act.put, List.setIfInBounds_toArray, List.set_cons_zero, List.set_cons_succ, i64_w, i32_w]
               rfl
              refine pu_ (i := 10) (N := some 37) (bs 13 2047) rfl rfl ?_
              refine pu_ (i := 11) (N := some 38) (bs 13 4095) rfl rfl ?_
              refine pu_ (i := 12) (N := some 26) (bs 13 8191) rfl rfl ?_
              refine done_ (done_of HT_.out (by kernel_rfl)) ?_
              try go_wp2
              (try subst hji20)
              go_meet
              case rel => exact ⟨_, (!t106), z1_, H', ⟨by have := HK1.out; first | omega | exact Nat.le_refl _⟩, ⟨bk_ BK103.out⟩, ⟨z14_⟩, ⟨z10_⟩⟩
             ·rw [if_neg c22] at H
              exact absurd H (by simp)
            ·rw [if_neg c21] at H
             exact absurd H (by simp)
           ·rw [if_neg c19] at H
            have c19b0 := decide_eq_false c19
            clear c19
            (first | rw [c19b0] | (simp only [i64_w, i32_w]; rw [c19b0]) | skip)
            have H' := Aside0.mk H
            clear H
            try go_wp2
            replace BK103 := Aside0.mk (blk_drew BK103.out)
            replace HI101 := Aside0.mk (IsS176.drew HI101.out)
            replace HB := Aside0.mk (below_drew1 HB.out)
            refine start_ (n := 13) (S := fun w' => True) (ds := []) (bs 13 0) (by kernel_rfl) rfl rfl trivial (fun hHeld => ?_); refine with_tabW tree_Check.tab10 tree_Check.bits10 (fun HT_ HW_ => ?_)
            generalize w18.drew = w26 at BK103 HI101 HB hHeld ⊢
            refine pu_ (i := 0) (N := some 27) (bs 13 1) rfl rfl ?_
            refine pu_ (i := 1) (N := some 28) (bs 13 3) rfl rfl ?_
            refine pu_ (i := 2) (N := some 29) (bs 13 7) rfl rfl ?_
            refine pn_ (i := 3) (N := some 30) (bs 13 15) rfl rfl ?_
            refine pn_ (i := 4) (N := some 31) (bs 13 31) rfl rfl ?_
            refine pn_ (i := 5) (N := some 32) (bs 13 63) rfl rfl ?_
            refine pn_ (i := 6) (N := some 33) (bs 13 127) rfl rfl ?_
            refine pn_ (i := 7) (N := some 34) (bs 13 255) rfl rfl ?_
            refine pn_ (i := 8) (N := some 35) (bs 13 511) rfl rfl ?_
            refine pn_ (i := 9) (N := some 36) (bs 13 1023) rfl rfl ?_
            refine pn_ (i := 10) (N := some 37) (bs 13 2047) rfl rfl ?_
            refine pu_ (i := 11) (N := some 38) (bs 13 4095) rfl rfl ?_
            refine pu_ (i := 12) (N := some 26) (bs 13 8191) rfl rfl ?_
            refine done_ (done_of HT_.out (by kernel_rfl)) ?_
            try go_wp2
            go_meet
            case rel => exact ⟨_, (false), z1_, H', ⟨by have := HK1.out; first | omega | exact Nat.le_refl _⟩, ⟨bk_ BK103.out⟩, ⟨z14_⟩, ⟨z10_⟩⟩
          case rest =>
           clear HC12
           try clear c1
           try clear p1
           try clear q1
           try clear hx1
           try clear c2
           try clear c2b0
           try clear c2b1
           try clear p2
           try clear c4
           try clear c4b0
           try clear c5
           try clear c5b0
           try clear c6
           try clear c6b0
           try clear p6
           try clear c7
           try clear c7b0
           try clear c7b1
           try clear c7b2
           try clear c8
           try clear c8b0
           try clear c9
           try clear c9b0
           try clear c9b1
           try clear p10
           try clear q10
           try clear hx10
           try clear c11
           try clear c14
           try clear c15
           try clear c19
           try clear c19b0
           try clear c21
           try clear c21b0
           try clear c22
           try clear c22b0
           try clear hcz15_0 hcz15_1 hcz15_2
           try clear hcz17_0 hcz17_1 hcz17_2
           try clear hfz15_0 hfz15_1 hfz15_2
           try clear hfz17_0 hfz17_1 hfz17_2
           try clear hx102_0
           try clear hx102_1
           try clear hx102_2
           try clear hx105_0
           try clear hx105_1
           try clear hx105_2
           try clear p102
           try clear p105
           try clear p2
           try clear q102
           try clear q105
           obtain ⟨kq, x26_11, rfl, HA, HJ11, BK103, HI101, HB⟩ := hcut
           cases kq with
           | zero => exact absurd HA.out (by simp [tree_Check.j1])
           | succ kj11 =>
            have H := HA.out
            clear HA
            simp only [tree_Check.j1] at H
            by_cases c27 : x26_11 = true
            ·subst c27
             have H1 : (some 150) = some r := by rw [if_pos rfl] at H; exact H
             clear H
             have H := H1
             clear H1
             obtain rfl := Option.some.inj H
             go_wp2
             go_ret
             exact ⟨z4_, z10_⟩
            ·replace c27 := Bool.eq_false_iff.mpr c27
             subst c27
             have H1 : (if ((rd_T108 l0 x12_1).f1).size ≤ 9223372036854775807 then (if (MSI.get (MSI.put x102000_1 ((rd_T108 l0 x12_1).f1) (wrap64 ((MSI.get x102000_1 ((rd_T108 l0 x12_1).f1)) + 1))) ((rd_T108 l0 x12_1).f1)) > 1 then (some 6) else (tree_Check.l0 kj11 l0 l0 (l0.length : Int) (wrap64 (x12_1 + 1)) (MSI.put x102000_1 ((rd_T108 l0 x12_1).f1) (wrap64 ((MSI.get x102000_1 ((rd_T108 l0 x12_1).f1)) + 1))))) else (none)) = some r := by rw [if_neg (show ¬ (false = true) by decide)] at H; exact H
             clear H
             have H := H1
             clear H1
             by_cases c28 : ((rd_T108 l0 x12_1).f1).size ≤ 9223372036854775807
             ·rw [if_pos c28] at H
              have c28b0 := eq_true c28
              have c28b1 := decide_eq_true c28
              try have c28b2 := nl_ c28
              clear c28
              by_cases c29 : (MSI.get (MSI.put x102000_1 ((rd_T108 l0 x12_1).f1) (wrap64 ((MSI.get x102000_1 ((rd_T108 l0 x12_1).f1)) + 1))) ((rd_T108 l0 x12_1).f1)) > 1
              ·rw [if_pos c29] at H
               have c29b0 := decide_eq_true c29
               clear c29
               obtain rfl := Option.some.inj H
               have hnb30 := NB103_101.out
               have hnc30 := NB101_103.out
               obtain ⟨hcz31_0, hcz31_1, hcz31_2, hfz31_0, hfz31_1, hfz31_2⟩ := bc3 BK103.out
               go_wp2_with (first | ((with_reducible refine gate_dst (N := 43) rfl ?_); refine IsS176.look (show IsS176 w _ gb101 (MSI.put x102000_1 ((rd_T108 l0 x12_1).f1) (wrap64 ((MSI.get x102000_1 ((rd_T108 l0 x12_1).f1)) + 1))) from z14_) rfl rfl rfl rfl (of_decide_eq_true z0_ : ((rd_T108 l0 x12_1).f1).size ≤ 9223372036854775807) ?_))
               go_ret
               exact ⟨z4_, z10_⟩
              ·rw [if_neg c29] at H
               have c29b0 := decide_eq_false c29
               clear c29
               have H' := Aside0.mk H
               clear H
               have hnb32 := NB103_101.out
               have hnc32 := NB101_103.out
               obtain ⟨hcz33_0, hcz33_1, hcz33_2, hfz33_0, hfz33_1, hfz33_2⟩ := bc3 BK103.out
               go_wp2_with (first | ((with_reducible refine gate_dst (N := 43) rfl ?_); refine IsS176.look (show IsS176 w _ gb101 (MSI.put x102000_1 ((rd_T108 l0 x12_1).f1) (wrap64 ((MSI.get x102000_1 ((rd_T108 l0 x12_1).f1)) + 1))) from z14_) rfl rfl rfl rfl (of_decide_eq_true z0_ : ((rd_T108 l0 x12_1).f1).size ≤ 9223372036854775807) ?_))
               go_roundg kj11
               case measure => have := HK1.out; have := HJ11.out; omega
               case rel => exact ⟨(wrap64 (x12_1 + 1)), ((MSI.put x102000_1 ((rd_T108 l0 x12_1).f1) (wrap64 ((MSI.get x102000_1 ((rd_T108 l0 x12_1).f1)) + 1)))), z1_, H', ⟨by have := HK1.out; have := HJ11.out; omega⟩, ⟨z14_⟩, ⟨z10_⟩⟩
             ·rw [if_neg c28] at H
              exact absurd H (by simp)
         ·replace c11 := Bool.eq_false_iff.mpr c11
          subst c11
          have H1 : (some 1) = some r := by rw [if_neg (show ¬ (false = true) by decide)] at H; exact H
          clear H
          have H := H1
          clear H1
          obtain rfl := Option.some.inj H
          have p102 : 0 ≤ (x12_1 : Int) := of_decide_eq_true z0_
          have q102 : x12_1 < (l0.length : Int) := of_decide_eq_true z0_
          obtain ⟨ad102, e102, hx102_0, hx102_1, hx102_2⟩ := at_T108 HR0.out x12_1 p102 q102
          cases e102
          replace hx102_0 := (HB.out.cell (World.block_lt_of_cell? w _ hx102_0)).trans hx102_0
          replace hx102_1 := (HB.out.cell (World.block_lt_of_cell? w _ hx102_1)).trans hx102_1
          replace hx102_2 := (HB.out.cell (World.block_lt_of_cell? w _ hx102_2)).trans hx102_2
          replace p102 := eq_true p102
          replace q102 := eq_true q102
          go_wp2_with (first | ((with_reducible refine gate_dst (N := 5) rfl ?_); refine be_ (cs := #[.int .i64 0, .string (⟨#[]⟩ : ByteArray), .string (⟨#[]⟩ : ByteArray)]) (t := 108) ?_; intro gb103 hg w34 hbox hb; have BK103 := Aside0.mk (hbox); have GW103 := Aside0.mk ((by rw [hg]; exact (below_size z20_) : w.heap.size ≤ gb103)); have GE103 := Aside0.mk ((by rw [hg]; exact (below_size z20_) : w.heap.size ≤ gb103)); replace HB := Aside0.mk (below_step z20_ hb); have NB101_103 := Aside0.mk ((by rw [hg]; exact Nat.ne_of_lt (IsS176.lt (show IsS176 w _ gb101 x102000_1 from z23_)) : gb101 ≠ gb103)); have NB103_101 := Aside0.mk ((by rw [hg]; exact Nat.ne_of_gt (IsS176.lt (show IsS176 w _ gb101 x102000_1 from z23_)) : gb103 ≠ gb101)); replace HI101 := Aside0.mk (IsS176.below z23_ hb); clear hb hbox hg; have hnb35 := NB103_101.out; have hnc35 := NB101_103.out; obtain ⟨hcz36_0, hcz36_1, hcz36_2, hfz36_0, hfz36_1, hfz36_2⟩ := bc3 BK103.out) | ((with_reducible refine gate_dst (N := 20) rfl ?_); refine IsS176.look (show IsS176 w _ gb101 x102000_1 from z14_) rfl rfl rfl rfl (of_decide_eq_true z0_ : ((rd_T108 l0 x12_1).f1).size ≤ 9223372036854775807) ?_) | (at_mapUpdate; refine IsS176.put_ (k := ((rd_T108 l0 x12_1).f1)) (n := (wrap64 ((MSI.get x102000_1 ((rd_T108 l0 x12_1).f1)) + 1))) (show IsS176 w _ gb101 x102000_1 from z14_) rfl rfl rfl rfl rfl (of_decide_eq_true z0_ : ((rd_T108 l0 x12_1).f1).size ≤ 9223372036854775807) (of_decide_eq_true z0_ : x102000_1.n < 4611686018427387904) (wrap64_wf _) ?_; intro w37 hi hg; replace BK103 := Aside0.mk (blk_grown (g := gb103) (o := .cells #[.int .i64 ((rd_T108 l0 x12_1).f0), .string ((rd_T108 l0 x12_1).f1), .string ((rd_T108 l0 x12_1).f2)] 108 (0, 0)) (by have b_ := BK103; exact zb_) hg (fun e_ => NB103_101.out (Option.some.inj e_))); replace HB := Aside0.mk (Below.grown z10_ hg ((below_size z10_)) (fun k_ e_ => (Option.some.inj e_) ▸ (IsS176.ge hi))); replace HI101 := Aside0.mk (hi); clear hi hg; obtain ⟨hcz38_0, hcz38_1, hcz38_2, hfz38_0, hfz38_1, hfz38_2⟩ := bc3 BK103.out) | ((with_reducible refine gate_callee (f := 192) rfl ?_); refine goesL_ (some 24) rfl rfl Tryz.func192 (by kernel_rfl) rfl #[.agg #[.int .i64 ((rd_T108 l0 x12_1).f0), .string ((rd_T108 l0 x12_1).f1), .string ((rd_T108 l0 x12_1).f2)]] rfl z2_ ?_; (with_reducible refine (tree_may.calls k1 ((rd_T108 l0 x12_1).f0) ((rd_T108 l0 x12_1).f1) ((rd_T108 l0 x12_1).f2) false _ ?side1 A10.out).mono ?_); (case side1 => exact GV.below hgv z10_); rintro e w39 ⟨rfl, hb⟩; refine ⟨_, rfl, ?_⟩; replace BK103 := Aside0.mk (bb_ BK103.out hb); replace HB := Aside0.mk (below_step z10_ hb); replace HI101 := Aside0.mk (IsS176.below z14_ hb); (try clear hb); (try clear hb2); (try clear hk); (try clear hi)))
          go_ret
          exact ⟨z4_, z10_⟩
        ·rw [if_neg c9] at H
         exact absurd H (by simp)
       ·rw [if_neg c7] at H
        exact absurd H (by simp)
      ·rw [if_neg c6] at H
       exact absurd H (by simp)
     ·rw [if_neg c5] at H
      exact absurd H (by simp)
    ·rw [if_neg c4] at H
     have c4b0 := decide_eq_false c4
     clear c4
     obtain rfl := Option.some.inj H
     go_wp2
     go_ret
     exact ⟨z4_, z20_⟩


def tree_Parse.l0 : Nat → ByteArray → List (S108) → Option ((List (S108)) × Int)
 | 0, _, _ => none
 | k + 1, x0, x4 => if x0.toList = ([] : List UInt8) then ((tree_Check.f k x4).bind fun t101 => (if t101 = 0 then (some (x4, 0)) else (some (([] : List (S108)), t101)))) else ((tree_mode.f k x0).bind fun bt102 => (if bt102.2.2 = 0 then ((strings_Cut.f bt102.2.1 (⟨#[0]⟩ : ByteArray)).bind fun bt105 => (if bt105.2.2 = true then (if (bt105.2.1.size : Int) < 20 then (some (([] : List (S108)), 3)) else (if 0 ≤ 20 then (if 20 ≤ (bt105.2.1.size : Int) then ((ident_Hex.f k (bt105.2.1.extract 0 20)).bind fun t108 => (if x4.length < 3518437208883 then (tree_Parse.l0 k (bt105.2.1.extract 20 bt105.2.1.size) (x4 ++ [(⟨bt102.1, bt105.1, t108⟩ : S108)])) else (none))) else (none)) else (none))) else (some (([] : List (S108)), 3)))) else (some (([] : List (S108)), bt102.2.2))))
def tree_Parse.f (k : Nat) (a0 : ByteArray) : Option ((List (S108)) × Int) := tree_Parse.l0 k a0 ([] : List (S108))
theorem tree_Parse.mono_l : ∀ k, (∀ y0 y1, LeO (tree_Parse.l0 k y0 y1) (tree_Parse.l0 (k + 1) y0 y1))
 | 0 => fun _ _ r h => by simp [tree_Parse.l0] at h
 | k + 1 => by
  have ih0 := tree_Parse.mono_l k
  ·intro y0 y1
   unfold tree_Parse.l0
   have m0_ := @ih0
   have m1_ := @ident_Hex.mono
   have m2_ := @tree_Check.mono
   have m3_ := @tree_mode.mono
   exact mz_
theorem tree_Parse.mono : ∀ a0 k, LeO (tree_Parse.f k a0) (tree_Parse.f (k + 1) a0) := by
 intro a0 k
 have ih0 := tree_Parse.mono_l k
 unfold tree_Parse.f
 have m0_ := @ih0
 have m1_ := @ident_Hex.mono
 have m2_ := @tree_Check.mono
 have m3_ := @tree_mode.mono
 exact mz_
set_option maxHeartbeats 8000000 in
set_option maxRecDepth 100000 in
theorem tree_Parse.calls (k : Nat) (a0 : ByteArray) (r1 : List (S108)) (r2 : Int) (w : World) (hgv : GV w) (h : tree_Parse.f k a0 = some (r1, r2)) :
  Calls Tryz.prog 94 #[.string a0] w fun e w' => ∃ v0_ : Value, e = .returned (.tuple #[v0_, .int .i64 r2]) ∧ Kd.R k108 108 w' w.heap.size (fun _ => True) v0_ r1 ∧ Below w.heap.size w w' := by
 have hu108 := Tryz.underlying108
 have HB := Aside0.mk (Below.refl w.heap.size w)
 have H : (tree_Parse.l0 k a0 ([] : List (S108))) = some (r1, r2) := h
 clear h
 have H' := Aside0.mk H
 clear H
 go_enter Tryz.func94, Tryz.ntmps94
 go_wp2
 go_loopg [0, 4] k (fun kq v0 v4 w' => ∃ (x0_1 : ByteArray) (x4_1 : List (S108)), v0 = .string x0_1 ∧ Aside0 (tree_Parse.l0 kq x0_1 x4_1 = some (r1, r2)) ∧ Aside0 (kq ≤ k) ∧ Aside0 (Kd.R k108 108 w' w.heap.size (fun _ => True) v4 x4_1) ∧ Aside0 (Below w.heap.size w w'))
 case atStart => exact ⟨(a0), (([] : List (S108))), z1_, H', ⟨Nat.le_refl _⟩, ⟨z6_⟩, ⟨hb_ HB.out⟩⟩
 case round =>
  clear H'
  obtain ⟨x0_1, x4_1, rfl, HA, HK1, HO_4, HB⟩ := hrel
  cases gk with
  | zero => exact absurd HA.out (by simp [tree_Parse.l0])
  | succ k1 =>
   have H := HA.out
   clear HA
   simp only [tree_Parse.l0] at H
   by_cases c2 : x0_1.toList = ([] : List UInt8)
   ·rw [if_pos c2] at H
    have c2b0 := beq_iff_eq.mpr c2
    have c2b1 := bne_eq_false_iff_eq.mpr c2
    clear c2
    replace H := Option.bind_eq_some_iff.mp H
    obtain ⟨t101, A30, H⟩ := H
    have A3 := Aside0.mk A30
    clear A30
    by_cases c4 : t101 = 0
    ·rw [if_pos c4] at H
     have c4b0 := beq_iff_eq.mpr c4
     have c4b1 := bne_eq_false_iff_eq.mpr c4
     clear c4
     simp only [Option.some.injEq, Prod.mk.injEq] at H
     obtain ⟨rfl, rfl⟩ := H
     obtain ⟨Ao5, co5, eo5⟩ := Kd.R_slice HO_4.out
     subst eo5
     go_wp2_with (first | ((with_reducible refine gate_callee (f := 150) rfl ?_); refine goesL_ (some 48) rfl rfl Tryz.func150 (by kernel_rfl) rfl #[.slice Ao5 x4_1.length co5] rfl z2_ ?_; (with_reducible refine (tree_Check.calls k1 _ _ x4_1 t101 _ ?side1 ?side2 ?side3 A3.out).mono ?_); (case side1 => repeat (first | exact (Kd.R_reads' HO_4.out).2.2 | (with_reducible refine Kd.C_alloc ?_ _) | (with_reducible refine Kd.C_drewN ?_ _) | (with_reducible refine Kd.C_drew ?_))); (case side2 => exact (Kd.R_reads' HO_4.out).2.1); (case side3 => exact GV.below hgv (hb_ HB.out)); rintro e w6 ⟨rfl, hb⟩; refine ⟨_, rfl, ?_⟩; replace HO_4 := Aside0.mk (Kd.R_below (rk_ HO_4.out) hb); replace HB := Aside0.mk (below_step (hb_ HB.out) hb); (try clear hb); (try clear hb2); (try clear hk); (try clear hi)))
     go_ret2
     exact ⟨_, z4_, rk_ HO_4.out, hb_ HB.out⟩
    ·rw [if_neg c4] at H
     have c4b0 := beq_eq_false_iff_ne.mpr c4
     have c4b1 := bne_iff_ne.mpr c4
     simp only [Option.some.injEq, Prod.mk.injEq] at H
     obtain ⟨rfl, rfl⟩ := H
     obtain ⟨Ao7, co7, eo7⟩ := Kd.R_slice HO_4.out
     subst eo7
     go_wp2_with (first | ((with_reducible refine gate_callee (f := 150) rfl ?_); refine goesL_ (some 48) rfl rfl Tryz.func150 (by kernel_rfl) rfl #[.slice Ao7 x4_1.length co7] rfl z2_ ?_; (with_reducible refine (tree_Check.calls k1 _ _ x4_1 t101 _ ?side1 ?side2 ?side3 A3.out).mono ?_); (case side1 => repeat (first | exact (Kd.R_reads' HO_4.out).2.2 | (with_reducible refine Kd.C_alloc ?_ _) | (with_reducible refine Kd.C_drewN ?_ _) | (with_reducible refine Kd.C_drew ?_))); (case side2 => exact (Kd.R_reads' HO_4.out).2.1); (case side3 => exact GV.below hgv (hb_ HB.out)); rintro e w8 ⟨rfl, hb⟩; refine ⟨_, rfl, ?_⟩; replace HO_4 := Aside0.mk (Kd.R_below (rk_ HO_4.out) hb); replace HB := Aside0.mk (below_step (hb_ HB.out) hb); (try clear hb); (try clear hb2); (try clear hk); (try clear hi)))
     go_ret2
     exact ⟨_, z4_, z6_, hb_ HB.out⟩
   ·rw [if_neg c2] at H
    have c2b0 := beq_eq_false_iff_ne.mpr c2
    have c2b1 := bne_iff_ne.mpr c2
    replace H := Option.bind_eq_some_iff.mp H
    obtain ⟨⟨t102, t103, t104⟩, A90, H⟩ := H
    replace H : (if t104 = 0 then ((strings_Cut.f t103 (⟨#[0]⟩ : ByteArray)).bind fun bt105 => (if bt105.2.2 = true then (if (bt105.2.1.size : Int) < 20 then (some (([] : List (S108)), 3)) else (if 0 ≤ 20 then (if 20 ≤ (bt105.2.1.size : Int) then ((ident_Hex.f k1 (bt105.2.1.extract 0 20)).bind fun t108 => (if x4_1.length < 3518437208883 then (tree_Parse.l0 k1 (bt105.2.1.extract 20 bt105.2.1.size) (x4_1 ++ [(⟨t102, bt105.1, t108⟩ : S108)])) else (none))) else (none)) else (none))) else (some (([] : List (S108)), 3)))) else (some (([] : List (S108)), t104))) = some (r1, r2) := H
    have A9 := Aside0.mk A90
    clear A90
    by_cases c10 : t104 = 0
    ·rw [if_pos c10] at H
     have c10b0 := beq_iff_eq.mpr c10
     have c10b1 := bne_eq_false_iff_eq.mpr c10
     clear c10
     replace H := Option.bind_eq_some_iff.mp H
     obtain ⟨⟨t105, t106, t107⟩, A110, H⟩ := H
     replace H : (if t107 = true then (if (t106.size : Int) < 20 then (some (([] : List (S108)), 3)) else (if 0 ≤ 20 then (if 20 ≤ (t106.size : Int) then ((ident_Hex.f k1 (t106.extract 0 20)).bind fun t108 => (if x4_1.length < 3518437208883 then (tree_Parse.l0 k1 (t106.extract 20 t106.size) (x4_1 ++ [(⟨t102, t105, t108⟩ : S108)])) else (none))) else (none)) else (none))) else (some (([] : List (S108)), 3))) = some (r1, r2) := H
     have A11 := Aside0.mk A110
     clear A110
     by_cases c12 : t107 = true
     ·subst c12
      have H1 : (if (t106.size : Int) < 20 then (some (([] : List (S108)), 3)) else (if 0 ≤ 20 then (if 20 ≤ (t106.size : Int) then ((ident_Hex.f k1 (t106.extract 0 20)).bind fun t108 => (if x4_1.length < 3518437208883 then (tree_Parse.l0 k1 (t106.extract 20 t106.size) (x4_1 ++ [(⟨t102, t105, t108⟩ : S108)])) else (none))) else (none)) else (none))) = some (r1, r2) := by rw [if_pos rfl] at H; exact H
      clear H
      have H := H1
      clear H1
      by_cases c13 : (t106.size : Int) < 20
      ·rw [if_pos c13] at H
       have c13b0 := decide_eq_true c13
       have c13b1 : decide (t106.size < 20) = true := decide_eq_true (by omega)
       clear c13
       simp only [Option.some.injEq, Prod.mk.injEq] at H
       obtain ⟨rfl, rfl⟩ := H
       go_wp2_with (first | ((with_reducible refine gate_callee (f := 148) rfl ?_); refine goesL_ (some 16) rfl rfl Tryz.func148 (by kernel_rfl) rfl #[.string x0_1] rfl z2_ ?_; (with_reducible refine (tree_mode.calls k1 x0_1 t102 t103 t104 _ A9.out).mono ?_); rintro e w' ⟨rfl, ⟨nd, rfl⟩⟩; refine ⟨_, rfl, ?_⟩) | ((with_reducible refine gate_callee (f := 82) rfl ?_); refine goesL_ (some 25) rfl rfl Tryz.func82 (by kernel_rfl) rfl #[.string t103, .string (⟨#[0]⟩ : ByteArray)] rfl z2_ ?_; (with_reducible refine (strings_Cut.calls t103 (⟨#[0]⟩ : ByteArray) t105 t106 true _ ?side1 A11.out).mono ?_); (case side1 => exact GV.below hgv (hb_ HB.out)); rintro e w' ⟨rfl, ⟨nd, rfl⟩⟩; refine ⟨_, rfl, ?_⟩))
       go_ret2
       exact ⟨_, z4_, z6_, hb_ HB.out⟩
      ·rw [if_neg c13] at H
       have c13b0 := decide_eq_false c13
       have c13b1 : decide (t106.size < 20) = false := decide_eq_false (by omega)
       clear c13
       by_cases c14 : 0 ≤ 20
       ·rw [if_pos c14] at H
        have c14b0 := eq_true c14
        have c14b1 := decide_eq_true c14
        clear c14
        by_cases c15 : 20 ≤ (t106.size : Int)
        ·rw [if_pos c15] at H
         have c15b0 := eq_true c15
         have c15b1 := decide_eq_true c15
         clear c15
         replace H := Option.bind_eq_some_iff.mp H
         obtain ⟨t108, A160, H⟩ := H
         have A16 := Aside0.mk A160
         clear A160
         by_cases c17 : x4_1.length < 3518437208883
         ·rw [if_pos c17] at H
          have LMc17 := Aside0.mk c17
          clear c17
          obtain ⟨y109, hy109⟩ : ∃ y_ : List (S108), y_ = (x4_1 ++ [(⟨t102, t105, t108⟩ : S108)]) := ⟨_, rfl⟩
          replace H : (tree_Parse.l0 k1 (t106.extract 20 t106.size) y109) = some (r1, r2) := by first | (rw [hy109]; with_reducible exact H) | (have H2_ := (Option.bind_some _ _).symm.trans H; rw [hy109]; with_reducible exact H2_) | (have H2_ := (Option.bind_some _ _).symm.trans H; with_reducible exact H2_) | with_reducible exact H | (rw [hy109]; exact H) | exact H
          have Ny109 := Aside0.mk hy109
          clear hy109
          have c18b0 := eq_true (of_decide_eq_true z0_ : 20 ≤ (t106.size : Int))
          have H' := Aside0.mk H
          clear H
          go_wp2_with (first | ((with_reducible refine gate_callee (f := 148) rfl ?_); refine goesL_ (some 16) rfl rfl Tryz.func148 (by kernel_rfl) rfl #[.string x0_1] rfl z2_ ?_; (with_reducible refine (tree_mode.calls k1 x0_1 t102 t103 t104 _ A9.out).mono ?_); rintro e w' ⟨rfl, ⟨nd, rfl⟩⟩; refine ⟨_, rfl, ?_⟩) | ((with_reducible refine gate_callee (f := 82) rfl ?_); refine goesL_ (some 25) rfl rfl Tryz.func82 (by kernel_rfl) rfl #[.string t103, .string (⟨#[0]⟩ : ByteArray)] rfl z2_ ?_; (with_reducible refine (strings_Cut.calls t103 (⟨#[0]⟩ : ByteArray) t105 t106 true _ ?side1 A11.out).mono ?_); (case side1 => exact GV.below hgv (hb_ HB.out)); rintro e w' ⟨rfl, ⟨nd, rfl⟩⟩; refine ⟨_, rfl, ?_⟩) | ((with_reducible refine gate_callee (f := 149) rfl ?_); refine goesL_ (some 41) rfl rfl Tryz.func149 (by kernel_rfl) rfl #[.string (t106.extract 0 20)] rfl z2_ ?_; (with_reducible refine (ident_Hex.calls k1 (t106.extract 0 20) t108 _ A16.out).mono ?_); rintro e w19 ⟨rfl, hb⟩; refine ⟨_, rfl, ?_⟩; replace HO_4 := Aside0.mk (Kd.R_below (rk_ HO_4.out) hb); replace HB := Aside0.mk (below_step (hb_ HB.out) hb); (try clear hb); (try clear hb2); (try clear hk); (try clear hi)) | ((with_reducible refine gate_builtin (b := .append) (xs := #[.tmp 36, .tmp 43]) rfl ?_); (try (refine gate_guard (by rfl) ?_; dsimp only)); at_builtin; refine Kd.R_append k108 (w0 := w) w.heap.size rfl (.tmp 36) (.tmp 43) 104 108 (.agg #[(.int .i64 0), (.string ⟨#[]⟩), (.string ⟨#[]⟩)]) 40 rfl Tryz.underlying104 info108 rfl (by decide) (by omega) u4 x4_1 (⟨t102, t105, t108⟩ : S108) [.int .i64 t102, .string t105, .string t108] (fun _ => True) (fun _ => False) rfl rfl ?aP (fun _ hk => hk.elim) ?aF ?aO ?aB ?aS ?aL ?_; (case aP => exact k108_mkM _ _ _ (⟨t102, t105, t108⟩ : S108)); (case aB => exact (hb_ HB.out)); (case aF => exact (fun _ _ => trivial)); (case aO => exact (rk_ HO_4.out)); (case aS => exact (below_size (hb_ HB.out))); (case aL => have := LMc17.out; omega); intro v110 w20 ho hb hg hat; rw [← Ny109.out] at ho; have n0_ := Aside0.mk (hb); have n1_ := Aside0.mk (ho); clear HB; clear HO_4; have HB := n0_; have HO111 := n1_; clear n0_ n1_; clear ho hb hg hat))
          go_roundg k1
          case measure => have := HK1.out; omega
          case rel => exact ⟨(t106.extract 20 t106.size), (y109), z1_, H', ⟨by have := HK1.out; omega⟩, ⟨by (with_reducible repeat (first | apply Kd.R_alloc | apply Kd.R_drewN | apply Kd.R_drew)); exact HO111.out⟩, ⟨hb_ HB.out⟩⟩
         ·rw [if_neg c17] at H
          exact absurd H (by simp)
        ·rw [if_neg c15] at H
         exact absurd H (by simp)
       ·rw [if_neg c14] at H
        exact absurd H (by simp)
     ·replace c12 := Bool.eq_false_iff.mpr c12
      subst c12
      have H1 : (some (([] : List (S108)), 3)) = some (r1, r2) := by rw [if_neg (show ¬ (false = true) by decide)] at H; exact H
      clear H
      have H := H1
      clear H1
      simp only [Option.some.injEq, Prod.mk.injEq] at H
      obtain ⟨rfl, rfl⟩ := H
      go_wp2_with (first | ((with_reducible refine gate_callee (f := 148) rfl ?_); refine goesL_ (some 16) rfl rfl Tryz.func148 (by kernel_rfl) rfl #[.string x0_1] rfl z2_ ?_; (with_reducible refine (tree_mode.calls k1 x0_1 t102 t103 t104 _ A9.out).mono ?_); rintro e w' ⟨rfl, ⟨nd, rfl⟩⟩; refine ⟨_, rfl, ?_⟩) | ((with_reducible refine gate_callee (f := 82) rfl ?_); refine goesL_ (some 25) rfl rfl Tryz.func82 (by kernel_rfl) rfl #[.string t103, .string (⟨#[0]⟩ : ByteArray)] rfl z2_ ?_; (with_reducible refine (strings_Cut.calls t103 (⟨#[0]⟩ : ByteArray) t105 t106 false _ ?side1 A11.out).mono ?_); (case side1 => exact GV.below hgv (hb_ HB.out)); rintro e w' ⟨rfl, ⟨nd, rfl⟩⟩; refine ⟨_, rfl, ?_⟩))
      go_ret2
      exact ⟨_, z4_, z6_, hb_ HB.out⟩
    ·rw [if_neg c10] at H
     have c10b0 := beq_eq_false_iff_ne.mpr c10
     have c10b1 := bne_iff_ne.mpr c10
     simp only [Option.some.injEq, Prod.mk.injEq] at H
     obtain ⟨rfl, rfl⟩ := H
     go_wp2_with (first | ((with_reducible refine gate_callee (f := 148) rfl ?_); refine goesL_ (some 16) rfl rfl Tryz.func148 (by kernel_rfl) rfl #[.string x0_1] rfl z2_ ?_; (with_reducible refine (tree_mode.calls k1 x0_1 t102 t103 t104 _ A9.out).mono ?_); rintro e w' ⟨rfl, ⟨nd, rfl⟩⟩; refine ⟨_, rfl, ?_⟩))
     go_ret2
     exact ⟨_, z4_, z6_, hb_ HB.out⟩


/-- A state of type 87 at block g of W; what its slices lead to came in by w0. -/
def IsS87 (w0 W : World) (g : Nat) (f0 : ByteArray) (f1 : Int) : Prop := W.heap[g]? = some (.cells #[.string f0, .int .i64 f1] 87 (0, 0)) ∧ w0.heap.size ≤ g
theorem IsS87.grown {w0 W : World} {g : Nat} {f0 : ByteArray} {f1 : Int} {W1 : World} {row : Option Nat} (h : IsS87 w0 W g f0 f1) (hw : W.grownBy W1 row) (hne : some g ≠ row) : IsS87 w0 W1 g f0 f1 := by
 obtain ⟨hb, hg⟩ := h
 exact ⟨blk_grown hb hw hne, hg⟩
theorem IsS87.fresh {w0 W : World} {g : Nat} {f0 : ByteArray} {f1 : Int} (h : IsS87 w0 W g f0 f1) : ∀ k, W.heap.size ≤ k → k ≠ g := by
 obtain ⟨hb, hg⟩ := h
 exact Kd.freshB hb
theorem IsS87.kept {w0 W : World} {g : Nat} {f0 : ByteArray} {f1 : Int} {W1 : World} {S : Nat → Prop} (h : IsS87 w0 W g f0 f1) (hk : Kept W W1 S) (hne : ¬ S g) : IsS87 w0 W1 g f0 f1 := by
 obtain ⟨hb, hg⟩ := h
 exact ⟨blk_kept hb hk hne, hg⟩
theorem IsS87.below {w0 W : World} {g : Nat} {f0 : ByteArray} {f1 : Int} {W1 : World} (h : IsS87 w0 W g f0 f1) (hw : Below W.heap.size W W1) : IsS87 w0 W1 g f0 f1 := h.grown (grown_of_below hw none) (by simp)
theorem IsS87.alloc {w0 W : World} {g : Nat} {f0 : ByteArray} {f1 : Int} (h : IsS87 w0 W g f0 f1) (o : Obj) : IsS87 w0 (W.alloc o) g f0 f1 := h.below (below_alloc (Below.refl _ _) o)
theorem IsS87.drewN {w0 W : World} {g : Nat} {f0 : ByteArray} {f1 : Int} (h : IsS87 w0 W g f0 f1) (m : Nat) : IsS87 w0 (W.drewN m) g f0 f1 := h
theorem IsS87.drew {w0 W : World} {g : Nat} {f0 : ByteArray} {f1 : Int} (h : IsS87 w0 W g f0 f1) : IsS87 w0 W.drew g f0 f1 := h
theorem IsS87.at_ {w0 W : World} {g : Nat} {f0 : ByteArray} {f1 : Int} {w' : World} {m : Nat} (hq : W.drewN m = w') (h : IsS87 w0 W g f0 f1) : IsS87 w0 w' g f0 f1 := by subst hq; exact IsS87.drewN h m
theorem IsS87.apart {w0 W : World} {g : Nat} {f0 : ByteArray} {f1 : Int} {α : Type} {d : Kd α} {e : Nat} {base : Nat} {ok : Nat → Prop} {v : Value} {xs : List α} (h : IsS87 w0 W g f0 f1) (ho : d.R e W base ok v xs) (ht : ∀ q, q ∈ e :: d.E → q ≠ 87) : d.R e W base (fun k => ok k ∧ k ≠ g) v xs := by
 obtain ⟨hb, hg⟩ := h
 exact Kd.R_types ho hb ht
theorem IsS87.own_ne {w0 W : World} {g : Nat} {f0 : ByteArray} {f1 : Int} {α : Type} {d : Kd α} {e : Nat} {base : Nat} {ok : Nat → Prop} {v : Value} {xs : List α} (h : IsS87 w0 W g f0 f1) (ho : d.R e W base ok v xs) (ht : e ≠ 87) : some g ≠ v.ownBlock := by
 obtain ⟨hb, hg⟩ := h
 exact Kd.R_ne ho hb ht
theorem IsS87.lt {w0 W : World} {g : Nat} {f0 : ByteArray} {f1 : Int} (h : IsS87 w0 W g f0 f1) : g < W.heap.size := by
 obtain ⟨hb, hg⟩ := h
 exact blk_lt hb
theorem IsS87.ge {w0 W : World} {g : Nat} {f0 : ByteArray} {f1 : Int} (h : IsS87 w0 W g f0 f1) : w0.heap.size ≤ g := by
 obtain ⟨hb, hg⟩ := h
 exact hg
theorem IsS87.far {w0 W : World} {g : Nat} {f0 : ByteArray} {f1 : Int} {p : Addr} (h : IsS87 w0 W g f0 f1) (hne : g ≠ p.block) (u : Value) : IsS87 w0 (W.setCell p u) g f0 f1 := by
 obtain ⟨hb, hg⟩ := h
 exact ⟨blk_far hb hne u, hg⟩
theorem cellS87_0 {W : World} {g : Nat} {f0 : ByteArray} {f1 : Int} (h : W.heap[g]? = some (.cells #[.string f0, .int .i64 f1] 87 (0, 0))) : W.cell? ⟨g, 0, none⟩ = some (.string f0) := (blk_cell h 0).trans rfl
theorem IsS87.set_0 {w0 W : World} {g : Nat} {f0 : ByteArray} {f1 : Int} (h : IsS87 w0 W g f0 f1) (x : ByteArray) : IsS87 w0 (W.setCell ⟨g, 0, none⟩ (.string x)) g x f1 := by
 obtain ⟨hb, hg⟩ := h
 exact ⟨by simpa using blk_set hb 0 (.string x), hg⟩
theorem cellS87_1 {W : World} {g : Nat} {f0 : ByteArray} {f1 : Int} (h : W.heap[g]? = some (.cells #[.string f0, .int .i64 f1] 87 (0, 0))) : W.cell? ⟨g, 1, none⟩ = some (.int .i64 f1) := (blk_cell h 1).trans rfl
theorem IsS87.set_1 {w0 W : World} {g : Nat} {f0 : ByteArray} {f1 : Int} (h : IsS87 w0 W g f0 f1) (x : Int) : IsS87 w0 (W.setCell ⟨g, 1, none⟩ (.int .i64 x)) g f0 x := by
 obtain ⟨hb, hg⟩ := h
 exact ⟨by simpa using blk_set hb 1 (.int .i64 x), hg⟩
theorem IsS87.new (w0 W : World) (f0 : ByteArray) (f1 : Int) (hB : Below w0.heap.size w0 W) : IsS87 w0 (W.alloc (.cells #[.string f0, .int .i64 f1] 87)) W.heap.size f0 f1 := ⟨by simpa using heap_alloc_new W _, hB.size⟩

def commit_reader_fail.f (s0_0 : ByteArray) (s0_1 : Int) (a1 : Int) : Option (ByteArray × Int) := if s0_1 = 0 then (some (s0_0, a1)) else (if a1 = 2 then (some (s0_0, a1)) else (some (s0_0, s0_1)))
set_option maxHeartbeats 8000000 in
set_option maxRecDepth 100000 in
theorem commit_reader_fail.calls (g : Nat) (s0_0 : ByteArray) (s0_1 : Int) (a1 : Int) (r1 : ByteArray) (r2 : Int) (w0 w : World) (hI : IsS87 w0 w g s0_0 s0_1) (hB : Below w0.heap.size w0 w) (h : commit_reader_fail.f s0_0 s0_1 a1 = some (r1, r2)) :
  Calls Tryz.prog 74 #[.pointer (some ⟨g, 0, none⟩), .int .i64 a1] w fun e w' => e = .returned (.tuple #[]) ∧ IsS87 w0 w' g r1 r2 ∧ Below w0.heap.size w0 w' ∧ KeepBut w w' g none := by
 have HI0 := Aside0.mk hI
 have HK := Aside0.mk (KeepBut.refl w g none)
 have HL := Aside0.mk hB.size
 clear hI
 have HW0 := Aside0.mk hB.size
 have HB := Aside0.mk hB
 clear hB
 have H : (if s0_1 = 0 then (some (s0_0, a1)) else (if a1 = 2 then (some (s0_0, a1)) else (some (s0_0, s0_1)))) = some (r1, r2) := h
 clear h
 by_cases c3 : s0_1 = 0
 ·rw [if_pos c3] at H
  have c3b0 := beq_iff_eq.mpr c3
  have c3b1 := bne_eq_false_iff_eq.mpr c3
  clear c3
  simp only [Option.some.injEq, Prod.mk.injEq] at H
  obtain ⟨rfl, rfl⟩ := H
  obtain ⟨HGz4, hgz4⟩ := HI0.out
  have hcz4_0 := cellS87_0 HGz4
  have hcz4_1 := cellS87_1 HGz4
  have hfz4_0 := blk_frozen HGz4 0
  have hfz4_1 := blk_frozen HGz4 1
  clear HGz4 hgz4
  go_enter Tryz.func74, Tryz.ntmps74
  go_wp2
  first | go_end0 | ((try simp only [Exit.inBlock, Exit.then]); refine bodyPost_ret (results_none rfl _ _ _) rfl ?_)
  exact ⟨z4_, z11_, z12_, z7_⟩
 ·rw [if_neg c3] at H
  have c3b0 := beq_eq_false_iff_ne.mpr c3
  have c3b1 := bne_iff_ne.mpr c3
  by_cases c5 : a1 = 2
  ·rw [if_pos c5] at H
   have c5b0 := beq_iff_eq.mpr c5
   have c5b1 := bne_eq_false_iff_eq.mpr c5
   clear c5
   simp only [Option.some.injEq, Prod.mk.injEq] at H
   obtain ⟨rfl, rfl⟩ := H
   obtain ⟨HGz6, hgz6⟩ := HI0.out
   have hcz6_0 := cellS87_0 HGz6
   have hcz6_1 := cellS87_1 HGz6
   have hfz6_0 := blk_frozen HGz6 0
   have hfz6_1 := blk_frozen HGz6 1
   clear HGz6 hgz6
   go_enter Tryz.func74, Tryz.ntmps74
   go_wp2
   first | go_end0 | ((try simp only [Exit.inBlock, Exit.then]); refine bodyPost_ret (results_none rfl _ _ _) rfl ?_)
   exact ⟨z4_, z11_, z12_, z7_⟩
  ·rw [if_neg c5] at H
   have c5b0 := beq_eq_false_iff_ne.mpr c5
   have c5b1 := bne_iff_ne.mpr c5
   simp only [Option.some.injEq, Prod.mk.injEq] at H
   obtain ⟨rfl, rfl⟩ := H
   obtain ⟨HGz7, hgz7⟩ := HI0.out
   have hcz7_0 := cellS87_0 HGz7
   have hcz7_1 := cellS87_1 HGz7
   have hfz7_0 := blk_frozen HGz7 0
   have hfz7_1 := blk_frozen HGz7 1
   clear HGz7 hgz7
   go_enter Tryz.func74, Tryz.ntmps74
   go_wp2
   first | go_end0 | ((try simp only [Exit.inBlock, Exit.then]); refine bodyPost_ret (results_none rfl _ _ _) rfl ?_)
   exact ⟨z4_, z11_, z12_, z7_⟩


def commit_reader_line.f (s0_0 : ByteArray) (s0_1 : Int) (a1 : ByteArray) : Option (ByteArray × ByteArray × Int) := (strings_Cut.f s0_0 (⟨#[10]⟩ : ByteArray)).bind fun bt106 => ((strings_CutPrefix.f bt106.1 a1).bind fun bt109 => (if bt106.2.2 = true then (if bt109.2 = true then (some (bt109.1, bt106.2.1, s0_1)) else ((commit_reader_fail.f s0_0 s0_1 2).bind fun bt111 => (some ((⟨#[]⟩ : ByteArray), bt111.1, bt111.2)))) else ((commit_reader_fail.f s0_0 s0_1 2).bind fun bt113 => (some ((⟨#[]⟩ : ByteArray), bt113.1, bt113.2)))))
set_option maxHeartbeats 8000000 in
set_option maxRecDepth 100000 in
theorem commit_reader_line.calls (g : Nat) (s0_0 : ByteArray) (s0_1 : Int) (a1 : ByteArray) (r1 : ByteArray) (r2 : ByteArray) (r3 : Int) (w0 w : World) (hI : IsS87 w0 w g s0_0 s0_1) (hB : Below w0.heap.size w0 w) (hgv : GV w0) (h : commit_reader_line.f s0_0 s0_1 a1 = some (r1, r2, r3)) :
  Calls Tryz.prog 73 #[.pointer (some ⟨g, 0, none⟩), .string a1] w fun e w' => e = .returned (.string r1) ∧ IsS87 w0 w' g r2 r3 ∧ Below w0.heap.size w0 w' ∧ KeepBut w w' g none := by
 have HI0 := Aside0.mk hI
 have HK := Aside0.mk (KeepBut.refl w g none)
 have HL := Aside0.mk hB.size
 clear hI
 have HW0 := Aside0.mk hB.size
 have HB := Aside0.mk hB
 clear hB
 have H : ((strings_Cut.f s0_0 (⟨#[10]⟩ : ByteArray)).bind fun bt106 => ((strings_CutPrefix.f bt106.1 a1).bind fun bt109 => (if bt106.2.2 = true then (if bt109.2 = true then (some (bt109.1, bt106.2.1, s0_1)) else ((commit_reader_fail.f s0_0 s0_1 2).bind fun bt111 => (some ((⟨#[]⟩ : ByteArray), bt111.1, bt111.2)))) else ((commit_reader_fail.f s0_0 s0_1 2).bind fun bt113 => (some ((⟨#[]⟩ : ByteArray), bt113.1, bt113.2)))))) = some (r1, r2, r3) := h
 clear h
 replace H := Option.bind_eq_some_iff.mp H
 obtain ⟨⟨t106, t107, t108⟩, A30, H⟩ := H
 replace H : ((strings_CutPrefix.f t106 a1).bind fun bt109 => (if t108 = true then (if bt109.2 = true then (some (bt109.1, t107, s0_1)) else ((commit_reader_fail.f s0_0 s0_1 2).bind fun bt111 => (some ((⟨#[]⟩ : ByteArray), bt111.1, bt111.2)))) else ((commit_reader_fail.f s0_0 s0_1 2).bind fun bt113 => (some ((⟨#[]⟩ : ByteArray), bt113.1, bt113.2))))) = some (r1, r2, r3) := H
 have A3 := Aside0.mk A30
 clear A30
 replace H := Option.bind_eq_some_iff.mp H
 obtain ⟨⟨t109, t110⟩, A40, H⟩ := H
 replace H : (if t108 = true then (if t110 = true then (some (t109, t107, s0_1)) else ((commit_reader_fail.f s0_0 s0_1 2).bind fun bt111 => (some ((⟨#[]⟩ : ByteArray), bt111.1, bt111.2)))) else ((commit_reader_fail.f s0_0 s0_1 2).bind fun bt113 => (some ((⟨#[]⟩ : ByteArray), bt113.1, bt113.2)))) = some (r1, r2, r3) := H
 have A4 := Aside0.mk A40
 clear A40
 by_cases c5 : t108 = true
 ·subst c5
  have H1 : (if t110 = true then (some (t109, t107, s0_1)) else ((commit_reader_fail.f s0_0 s0_1 2).bind fun bt111 => (some ((⟨#[]⟩ : ByteArray), bt111.1, bt111.2)))) = some (r1, r2, r3) := by rw [if_pos rfl] at H; exact H
  clear H
  have H := H1
  clear H1
  by_cases c6 : t110 = true
  ·subst c6
   have H1 : (some (t109, t107, s0_1)) = some (r1, r2, r3) := by rw [if_pos rfl] at H; exact H
   clear H
   have H := H1
   clear H1
   simp only [Option.some.injEq, Prod.mk.injEq] at H
   obtain ⟨rfl, rfl, rfl⟩ := H
   obtain ⟨HGz7, hgz7⟩ := HI0.out
   have hcz7_0 := cellS87_0 HGz7
   have hcz7_1 := cellS87_1 HGz7
   have hfz7_0 := blk_frozen HGz7 0
   have hfz7_1 := blk_frozen HGz7 1
   clear HGz7 hgz7
   go_enter Tryz.func73, Tryz.ntmps73
   go_wp2_with (first | ((with_reducible refine gate_callee (f := 82) rfl ?_); refine goesL_ (some 15) rfl rfl Tryz.func82 (by kernel_rfl) rfl #[.string s0_0, .string (⟨#[10]⟩ : ByteArray)] rfl z2_ ?_; (with_reducible refine (strings_Cut.calls s0_0 (⟨#[10]⟩ : ByteArray) t106 t107 true _ ?side1 A3.out).mono ?_); (case side1 => exact GV.below hgv z12_); rintro e w' ⟨rfl, ⟨nd, rfl⟩⟩; refine ⟨_, rfl, ?_⟩) | ((with_reducible refine gate_callee (f := 142) rfl ?_); refine goesL_ (some 22) rfl rfl Tryz.func142 (by kernel_rfl) rfl #[.string t106, .string a1] rfl z2_ ?_; (with_reducible refine (strings_CutPrefix.calls t106 a1 t109 true _ A4.out).mono ?_); rintro e w' ⟨rfl, ⟨nd, rfl⟩⟩; refine ⟨_, rfl, ?_⟩))
   go_ret
   exact ⟨z4_, z11_, z12_, z7_⟩
  ·replace c6 := Bool.eq_false_iff.mpr c6
   subst c6
   have H1 : ((commit_reader_fail.f s0_0 s0_1 2).bind fun bt111 => (some ((⟨#[]⟩ : ByteArray), bt111.1, bt111.2))) = some (r1, r2, r3) := by rw [if_neg (show ¬ (false = true) by decide)] at H; exact H
   clear H
   have H := H1
   clear H1
   replace H := Option.bind_eq_some_iff.mp H
   obtain ⟨⟨t111, t112⟩, A80, H⟩ := H
   replace H : (some ((⟨#[]⟩ : ByteArray), t111, t112)) = some (r1, r2, r3) := H
   have A8 := Aside0.mk A80
   clear A80
   simp only [Option.some.injEq, Prod.mk.injEq] at H
   obtain ⟨rfl, rfl, rfl⟩ := H
   obtain ⟨HGz9, hgz9⟩ := HI0.out
   have hcz9_0 := cellS87_0 HGz9
   have hcz9_1 := cellS87_1 HGz9
   have hfz9_0 := blk_frozen HGz9 0
   have hfz9_1 := blk_frozen HGz9 1
   clear HGz9 hgz9
   go_enter Tryz.func73, Tryz.ntmps73
   go_wp2_with (first | ((with_reducible refine gate_callee (f := 82) rfl ?_); refine goesL_ (some 15) rfl rfl Tryz.func82 (by kernel_rfl) rfl #[.string s0_0, .string (⟨#[10]⟩ : ByteArray)] rfl z2_ ?_; (with_reducible refine (strings_Cut.calls s0_0 (⟨#[10]⟩ : ByteArray) t106 t107 true _ ?side1 A3.out).mono ?_); (case side1 => exact GV.below hgv z12_); rintro e w' ⟨rfl, ⟨nd, rfl⟩⟩; refine ⟨_, rfl, ?_⟩) | ((with_reducible refine gate_callee (f := 142) rfl ?_); refine goesL_ (some 22) rfl rfl Tryz.func142 (by kernel_rfl) rfl #[.string t106, .string a1] rfl z2_ ?_; (with_reducible refine (strings_CutPrefix.calls t106 a1 t109 false _ A4.out).mono ?_); rintro e w' ⟨rfl, ⟨nd, rfl⟩⟩; refine ⟨_, rfl, ?_⟩) | ((with_reducible refine gate_callee (f := 74) rfl ?_); refine goesL_ (some 32) rfl rfl Tryz.func74 (by kernel_rfl) rfl #[.pointer (some ⟨g, 0, none⟩), .int .i64 2] rfl z2_ ?_; (with_reducible refine (commit_reader_fail.calls g s0_0 s0_1 2 t111 t112 w0 _ ?side1 ?side2 A8.out).mono ?_); (case side1 => repeat (first | (with_reducible first | exact HI0.out | apply IsS87.alloc | apply IsS87.drewN | apply IsS87.drew | apply IsS87.set_0 | apply IsS87.set_1) | exact HI0.out)); (case side2 => repeat (first | (with_reducible first | exact HB.out | apply below_alloc | apply pw_below_drewN | apply below_drew1 | refine below_set ?_ (IsS87.ge HI0.out)) | exact HB.out)); rintro e w10 ⟨rfl, hi, hb, hk⟩; refine ⟨_, rfl, ?_⟩; replace HK := Aside0.mk (KeepBut.trans z7_ hk (.inl rfl)); replace HB := Aside0.mk (hb); replace HI0 := Aside0.mk (hi); (try clear hb); (try clear hb2); (try clear hk); (try clear hi)))
   go_ret
   exact ⟨z4_, z11_, z12_, z7_⟩
 ·replace c5 := Bool.eq_false_iff.mpr c5
  subst c5
  have H1 : ((commit_reader_fail.f s0_0 s0_1 2).bind fun bt113 => (some ((⟨#[]⟩ : ByteArray), bt113.1, bt113.2))) = some (r1, r2, r3) := by rw [if_neg (show ¬ (false = true) by decide)] at H; exact H
  clear H
  have H := H1
  clear H1
  replace H := Option.bind_eq_some_iff.mp H
  obtain ⟨⟨t113, t114⟩, A110, H⟩ := H
  replace H : (some ((⟨#[]⟩ : ByteArray), t113, t114)) = some (r1, r2, r3) := H
  have A11 := Aside0.mk A110
  clear A110
  simp only [Option.some.injEq, Prod.mk.injEq] at H
  obtain ⟨rfl, rfl, rfl⟩ := H
  obtain ⟨HGz12, hgz12⟩ := HI0.out
  have hcz12_0 := cellS87_0 HGz12
  have hcz12_1 := cellS87_1 HGz12
  have hfz12_0 := blk_frozen HGz12 0
  have hfz12_1 := blk_frozen HGz12 1
  clear HGz12 hgz12
  go_enter Tryz.func73, Tryz.ntmps73
  go_wp2_with (first | ((with_reducible refine gate_callee (f := 82) rfl ?_); refine goesL_ (some 15) rfl rfl Tryz.func82 (by kernel_rfl) rfl #[.string s0_0, .string (⟨#[10]⟩ : ByteArray)] rfl z2_ ?_; (with_reducible refine (strings_Cut.calls s0_0 (⟨#[10]⟩ : ByteArray) t106 t107 false _ ?side1 A3.out).mono ?_); (case side1 => exact GV.below hgv z12_); rintro e w' ⟨rfl, ⟨nd, rfl⟩⟩; refine ⟨_, rfl, ?_⟩) | ((with_reducible refine gate_callee (f := 142) rfl ?_); refine goesL_ (some 22) rfl rfl Tryz.func142 (by kernel_rfl) rfl #[.string t106, .string a1] rfl z2_ ?_; (with_reducible refine (strings_CutPrefix.calls t106 a1 t109 t110 _ A4.out).mono ?_); rintro e w' ⟨rfl, ⟨nd, rfl⟩⟩; refine ⟨_, rfl, ?_⟩) | ((with_reducible refine gate_callee (f := 74) rfl ?_); refine goesL_ (some 32) rfl rfl Tryz.func74 (by kernel_rfl) rfl #[.pointer (some ⟨g, 0, none⟩), .int .i64 2] rfl z2_ ?_; (with_reducible refine (commit_reader_fail.calls g s0_0 s0_1 2 t113 t114 w0 _ ?side1 ?side2 A11.out).mono ?_); (case side1 => repeat (first | (with_reducible first | exact HI0.out | apply IsS87.alloc | apply IsS87.drewN | apply IsS87.drew | apply IsS87.set_0 | apply IsS87.set_1) | exact HI0.out)); (case side2 => repeat (first | (with_reducible first | exact HB.out | apply below_alloc | apply pw_below_drewN | apply below_drew1 | refine below_set ?_ (IsS87.ge HI0.out)) | exact HB.out)); rintro e w13 ⟨rfl, hi, hb, hk⟩; refine ⟨_, rfl, ?_⟩; replace HK := Aside0.mk (KeepBut.trans z7_ hk (.inl rfl)); replace HB := Aside0.mk (hb); replace HI0 := Aside0.mk (hi); (try clear hb); (try clear hb2); (try clear hk); (try clear hi)))
  go_ret
  exact ⟨z4_, z11_, z12_, z7_⟩


def commit_reader_id.f (k : Nat) (s0_0 : ByteArray) (s0_1 : Int) (a1 : ByteArray) : Option (ByteArray × ByteArray × Int) := (commit_reader_line.f s0_0 s0_1 a1).bind fun bt101 => ((ident_Is.f k bt101.1).bind fun t104 => (if t104 = true then (some (bt101.1, bt101.2.1, bt101.2.2)) else ((commit_reader_fail.f bt101.2.1 bt101.2.2 2).bind fun bt105 => (some (bt101.1, bt105.1, bt105.2)))))
theorem commit_reader_id.mono : ∀ a0 a1 a2 k, LeO (commit_reader_id.f k a0 a1 a2) (commit_reader_id.f (k + 1) a0 a1 a2) := by
 intro a0 a1 a2 k
 unfold commit_reader_id.f
 have m0_ := @ident_Is.mono
 exact mz_
set_option maxHeartbeats 8000000 in
set_option maxRecDepth 100000 in
theorem commit_reader_id.calls (k : Nat) (g : Nat) (s0_0 : ByteArray) (s0_1 : Int) (a1 : ByteArray) (r1 : ByteArray) (r2 : ByteArray) (r3 : Int) (w0 w : World) (hI : IsS87 w0 w g s0_0 s0_1) (hB : Below w0.heap.size w0 w) (hgv : GV w0) (h : commit_reader_id.f k s0_0 s0_1 a1 = some (r1, r2, r3)) :
  Calls Tryz.prog 70 #[.pointer (some ⟨g, 0, none⟩), .string a1] w fun e w' => e = .returned (.string r1) ∧ IsS87 w0 w' g r2 r3 ∧ Below w0.heap.size w0 w' ∧ KeepBut w w' g none := by
 have HI0 := Aside0.mk hI
 have HK := Aside0.mk (KeepBut.refl w g none)
 have HL := Aside0.mk hB.size
 clear hI
 have HW0 := Aside0.mk hB.size
 have HB := Aside0.mk hB
 clear hB
 have H : ((commit_reader_line.f s0_0 s0_1 a1).bind fun bt101 => ((ident_Is.f k bt101.1).bind fun t104 => (if t104 = true then (some (bt101.1, bt101.2.1, bt101.2.2)) else ((commit_reader_fail.f bt101.2.1 bt101.2.2 2).bind fun bt105 => (some (bt101.1, bt105.1, bt105.2)))))) = some (r1, r2, r3) := h
 clear h
 replace H := Option.bind_eq_some_iff.mp H
 obtain ⟨⟨t101, t102, t103⟩, A30, H⟩ := H
 replace H : ((ident_Is.f k t101).bind fun t104 => (if t104 = true then (some (t101, t102, t103)) else ((commit_reader_fail.f t102 t103 2).bind fun bt105 => (some (t101, bt105.1, bt105.2))))) = some (r1, r2, r3) := H
 have A3 := Aside0.mk A30
 clear A30
 replace H := Option.bind_eq_some_iff.mp H
 obtain ⟨t104, A40, H⟩ := H
 have A4 := Aside0.mk A40
 clear A40
 by_cases c5 : t104 = true
 ·subst c5
  have H1 : (some (t101, t102, t103)) = some (r1, r2, r3) := by rw [if_pos rfl] at H; exact H
  clear H
  have H := H1
  clear H1
  simp only [Option.some.injEq, Prod.mk.injEq] at H
  obtain ⟨rfl, rfl, rfl⟩ := H
  go_enter Tryz.func70, Tryz.ntmps70
  go_wp2_with (first | ((with_reducible refine gate_callee (f := 73) rfl ?_); refine goesL_ (some 8) rfl rfl Tryz.func73 (by kernel_rfl) rfl #[.pointer (some ⟨g, 0, none⟩), .string a1] rfl z2_ ?_; (with_reducible refine (commit_reader_line.calls g s0_0 s0_1 a1 t101 t102 t103 w0 _ ?side1 ?side2 ?side3 A3.out).mono ?_); (case side1 => repeat (first | (with_reducible first | exact HI0.out | apply IsS87.alloc | apply IsS87.drewN | apply IsS87.drew | apply IsS87.set_0 | apply IsS87.set_1) | exact HI0.out)); (case side2 => repeat (first | (with_reducible first | exact HB.out | apply below_alloc | apply pw_below_drewN | apply below_drew1 | refine below_set ?_ (IsS87.ge HI0.out)) | exact HB.out)); (case side3 => exact hgv); rintro e w6 ⟨rfl, hi, hb, hk⟩; refine ⟨_, rfl, ?_⟩; replace HK := Aside0.mk (KeepBut.trans z7_ hk (.inl rfl)); replace HB := Aside0.mk (hb); replace HI0 := Aside0.mk (hi); (try clear hb); (try clear hb2); (try clear hk); (try clear hi)) | ((with_reducible refine gate_callee (f := 65) rfl ?_); refine goesL_ (some 10) rfl rfl Tryz.func65 (by kernel_rfl) rfl #[.string t101] rfl z2_ ?_; (with_reducible refine (ident_Is.calls k t101 true _ A4.out).mono ?_); rintro e w' ⟨rfl, ⟨nd, rfl⟩⟩; refine ⟨_, rfl, ?_⟩))
  go_ret
  exact ⟨z4_, z11_, z12_, z7_⟩
 ·replace c5 := Bool.eq_false_iff.mpr c5
  subst c5
  have H1 : ((commit_reader_fail.f t102 t103 2).bind fun bt105 => (some (t101, bt105.1, bt105.2))) = some (r1, r2, r3) := by rw [if_neg (show ¬ (false = true) by decide)] at H; exact H
  clear H
  have H := H1
  clear H1
  replace H := Option.bind_eq_some_iff.mp H
  obtain ⟨⟨t105, t106⟩, A70, H⟩ := H
  replace H : (some (t101, t105, t106)) = some (r1, r2, r3) := H
  have A7 := Aside0.mk A70
  clear A70
  simp only [Option.some.injEq, Prod.mk.injEq] at H
  obtain ⟨rfl, rfl, rfl⟩ := H
  go_enter Tryz.func70, Tryz.ntmps70
  go_wp2_with (first | ((with_reducible refine gate_callee (f := 73) rfl ?_); refine goesL_ (some 8) rfl rfl Tryz.func73 (by kernel_rfl) rfl #[.pointer (some ⟨g, 0, none⟩), .string a1] rfl z2_ ?_; (with_reducible refine (commit_reader_line.calls g s0_0 s0_1 a1 t101 t102 t103 w0 _ ?side1 ?side2 ?side3 A3.out).mono ?_); (case side1 => repeat (first | (with_reducible first | exact HI0.out | apply IsS87.alloc | apply IsS87.drewN | apply IsS87.drew | apply IsS87.set_0 | apply IsS87.set_1) | exact HI0.out)); (case side2 => repeat (first | (with_reducible first | exact HB.out | apply below_alloc | apply pw_below_drewN | apply below_drew1 | refine below_set ?_ (IsS87.ge HI0.out)) | exact HB.out)); (case side3 => exact hgv); rintro e w8 ⟨rfl, hi, hb, hk⟩; refine ⟨_, rfl, ?_⟩; replace HK := Aside0.mk (KeepBut.trans z7_ hk (.inl rfl)); replace HB := Aside0.mk (hb); replace HI0 := Aside0.mk (hi); (try clear hb); (try clear hb2); (try clear hk); (try clear hi)) | ((with_reducible refine gate_callee (f := 65) rfl ?_); refine goesL_ (some 10) rfl rfl Tryz.func65 (by kernel_rfl) rfl #[.string t101] rfl z2_ ?_; (with_reducible refine (ident_Is.calls k t101 false _ A4.out).mono ?_); rintro e w' ⟨rfl, ⟨nd, rfl⟩⟩; refine ⟨_, rfl, ?_⟩) | ((with_reducible refine gate_callee (f := 74) rfl ?_); refine goesL_ (some 13) rfl rfl Tryz.func74 (by kernel_rfl) rfl #[.pointer (some ⟨g, 0, none⟩), .int .i64 2] rfl z2_ ?_; (with_reducible refine (commit_reader_fail.calls g t102 t103 2 t105 t106 w0 _ ?side1 ?side2 A7.out).mono ?_); (case side1 => repeat (first | (with_reducible first | exact HI0.out | apply IsS87.alloc | apply IsS87.drewN | apply IsS87.drew | apply IsS87.set_0 | apply IsS87.set_1) | exact HI0.out)); (case side2 => repeat (first | (with_reducible first | exact HB.out | apply below_alloc | apply pw_below_drewN | apply below_drew1 | refine below_set ?_ (IsS87.ge HI0.out)) | exact HB.out)); rintro e w9 ⟨rfl, hi, hb, hk⟩; refine ⟨_, rfl, ?_⟩; replace HK := Aside0.mk (KeepBut.trans z7_ hk (.inl rfl)); replace HB := Aside0.mk (hb); replace HI0 := Aside0.mk (hi); (try clear hb); (try clear hb2); (try clear hk); (try clear hi)))
  go_ret
  exact ⟨z4_, z11_, z12_, z7_⟩


def commit_reader_who.f (k : Nat) (s0_0 : ByteArray) (s0_1 : Int) (a1 : ByteArray) : Option (ByteArray × ByteArray × Int × Int × ByteArray × Int) := (commit_reader_line.f s0_0 s0_1 a1).bind fun bt108 => ((commit_ParseWho.f k bt108.1).bind fun bt111 => (if bt111.2.2.2.2 = 0 then (some (bt111.1, bt111.2.1, bt111.2.2.1, bt111.2.2.2.1, bt108.2.1, bt108.2.2)) else ((commit_reader_fail.f bt108.2.1 bt108.2.2 bt111.2.2.2.2).bind fun bt117 => (some (bt111.1, bt111.2.1, bt111.2.2.1, bt111.2.2.2.1, bt117.1, bt117.2)))))
theorem commit_reader_who.mono : ∀ a0 a1 a2 k, LeO (commit_reader_who.f k a0 a1 a2) (commit_reader_who.f (k + 1) a0 a1 a2) := by
 intro a0 a1 a2 k
 unfold commit_reader_who.f
 have m0_ := @commit_ParseWho.mono
 exact mz_
set_option maxHeartbeats 8000000 in
set_option maxRecDepth 100000 in
theorem commit_reader_who.calls (k : Nat) (g : Nat) (s0_0 : ByteArray) (s0_1 : Int) (a1 : ByteArray) (r1 : ByteArray) (r2 : ByteArray) (r3 : Int) (r4 : Int) (r5 : ByteArray) (r6 : Int) (w0 w : World) (hI : IsS87 w0 w g s0_0 s0_1) (hB : Below w0.heap.size w0 w) (hgv : GV w0) (h : commit_reader_who.f k s0_0 s0_1 a1 = some (r1, r2, r3, r4, r5, r6)) :
  Calls Tryz.prog 72 #[.pointer (some ⟨g, 0, none⟩), .string a1] w fun e w' => e = .returned (.agg #[.string r1, .string r2, .int .i64 r3, .int .i64 r4]) ∧ IsS87 w0 w' g r5 r6 ∧ Below w0.heap.size w0 w' ∧ KeepBut w w' g none := by
 have hu24 := Tryz.underlying24
 have HI0 := Aside0.mk hI
 have HK := Aside0.mk (KeepBut.refl w g none)
 have HL := Aside0.mk hB.size
 clear hI
 have HW0 := Aside0.mk hB.size
 have HB := Aside0.mk hB
 clear hB
 have H : ((commit_reader_line.f s0_0 s0_1 a1).bind fun bt108 => ((commit_ParseWho.f k bt108.1).bind fun bt111 => (if bt111.2.2.2.2 = 0 then (some (bt111.1, bt111.2.1, bt111.2.2.1, bt111.2.2.2.1, bt108.2.1, bt108.2.2)) else ((commit_reader_fail.f bt108.2.1 bt108.2.2 bt111.2.2.2.2).bind fun bt117 => (some (bt111.1, bt111.2.1, bt111.2.2.1, bt111.2.2.2.1, bt117.1, bt117.2)))))) = some (r1, r2, r3, r4, r5, r6) := h
 clear h
 replace H := Option.bind_eq_some_iff.mp H
 obtain ⟨⟨t108, t109, t110⟩, A30, H⟩ := H
 replace H : ((commit_ParseWho.f k t108).bind fun bt111 => (if bt111.2.2.2.2 = 0 then (some (bt111.1, bt111.2.1, bt111.2.2.1, bt111.2.2.2.1, t109, t110)) else ((commit_reader_fail.f t109 t110 bt111.2.2.2.2).bind fun bt117 => (some (bt111.1, bt111.2.1, bt111.2.2.1, bt111.2.2.2.1, bt117.1, bt117.2))))) = some (r1, r2, r3, r4, r5, r6) := H
 have A3 := Aside0.mk A30
 clear A30
 replace H := Option.bind_eq_some_iff.mp H
 obtain ⟨⟨t111, t112, t113, t114, t115⟩, A40, H⟩ := H
 replace H : (if t115 = 0 then (some (t111, t112, t113, t114, t109, t110)) else ((commit_reader_fail.f t109 t110 t115).bind fun bt117 => (some (t111, t112, t113, t114, bt117.1, bt117.2)))) = some (r1, r2, r3, r4, r5, r6) := H
 have A4 := Aside0.mk A40
 clear A40
 by_cases c5 : t115 = 0
 ·rw [if_pos c5] at H
  have c5b0 := beq_iff_eq.mpr c5
  have c5b1 := bne_eq_false_iff_eq.mpr c5
  clear c5
  simp only [Option.some.injEq, Prod.mk.injEq] at H
  obtain ⟨rfl, rfl, rfl, rfl, rfl, rfl⟩ := H
  go_enter Tryz.func72, Tryz.ntmps72
  go_wp2_with (first | ((with_reducible refine gate_dst (N := 4) rfl ?_); refine be_ (cs := #[.string (⟨#[]⟩ : ByteArray), .string (⟨#[]⟩ : ByteArray), .int .i64 0, .int .i64 0]) (t := 24) ?_; intro gb107 hg w6 hbox hb; replace HB := Aside0.mk (below_step z12_ hb); have BK107 := Aside0.mk (hbox); have GW107 := Aside0.mk ((by rw [hg]; exact (keep_size (w := w) (g := g) (row := none) z7_) : w.heap.size ≤ gb107)); have GE107 := Aside0.mk ((Nat.le_trans HW0.out (by rw [hg]; exact (keep_size (w := w) (g := g) (row := none) z7_) : w.heap.size ≤ gb107) : w0.heap.size ≤ gb107)); replace HK := Aside0.mk (KeepBut.trans z7_ (KeepBut.of_below hb g none) (.inl rfl)); have NB0_107 := Aside0.mk ((by rw [hg]; exact Nat.ne_of_lt (IsS87.lt (show IsS87 w0 _ g s0_0 s0_1 from z11_)) : g ≠ gb107)); have NB107_0 := Aside0.mk ((by rw [hg]; exact Nat.ne_of_gt (IsS87.lt (show IsS87 w0 _ g s0_0 s0_1 from z11_)) : gb107 ≠ g)); replace HI0 := Aside0.mk (IsS87.below z11_ hb); clear hb hbox hg) | ((with_reducible refine gate_callee (f := 73) rfl ?_); refine goesL_ (some 10) rfl rfl Tryz.func73 (by kernel_rfl) rfl #[.pointer (some ⟨g, 0, none⟩), .string a1] rfl z2_ ?_; (with_reducible refine (commit_reader_line.calls g s0_0 s0_1 a1 t108 t109 t110 w0 _ ?side1 ?side2 ?side3 A3.out).mono ?_); (case side1 => repeat (first | (with_reducible first | exact HI0.out | apply IsS87.alloc | apply IsS87.drewN | apply IsS87.drew | apply IsS87.set_0 | apply IsS87.set_1 | refine IsS87.far ?_ NB0_107.out _) | exact HI0.out)); (case side2 => repeat (first | (with_reducible first | exact HB.out | apply below_alloc | apply pw_below_drewN | apply below_drew1 | refine below_set ?_ (IsS87.ge HI0.out) | refine below_set ?_ GE107.out) | exact HB.out)); (case side3 => exact hgv); rintro e w7 ⟨rfl, hi, hb, hk⟩; refine ⟨_, rfl, ?_⟩; replace BK107 := Aside0.mk (KeepBut.blk hk (g' := gb107) (o := .cells #[.string (⟨#[]⟩ : ByteArray), .string (⟨#[]⟩ : ByteArray), .int .i64 0, .int .i64 0] 24 (0, 0)) (bk_ BK107.out) NB107_0.out (by simp)); replace HK := Aside0.mk (KeepBut.trans z15_ hk (.inl rfl)); replace HB := Aside0.mk (hb); replace HI0 := Aside0.mk (hi); (try clear hb); (try clear hb2); (try clear hk); (try clear hi)) | ((with_reducible refine gate_callee (f := 29) rfl ?_); refine goesL_ (some 11) rfl rfl Tryz.func29 (by kernel_rfl) rfl #[.string t108] rfl z2_ ?_; (with_reducible refine (commit_ParseWho.calls k t108 t111 t112 t113 t114 t115 _ ?side1 A4.out).mono ?_); (case side1 => exact GV.below hgv z26_); rintro e w8 ⟨rfl, hb⟩; refine ⟨_, rfl, ?_⟩; replace BK107 := Aside0.mk (bb_ BK107.out hb); replace HK := Aside0.mk (KeepBut.trans z15_ (KeepBut.of_below hb g none) (.inl rfl)); replace HB := Aside0.mk (below_step z26_ hb); replace HI0 := Aside0.mk (IsS87.below z21_ hb); (try clear hb); (try clear hb2); (try clear hk); (try clear hi)) | ((with_reducible refine gate_dst (N := 5) rfl ?_); refine be_ (cs := #[.string (⟨#[]⟩ : ByteArray), .string (⟨#[]⟩ : ByteArray), .int .i64 0, .int .i64 0]) (t := 24) ?_; intro gb116 hg w9 hbox hb; replace HB := Aside0.mk (below_step z26_ hb); have BK116 := Aside0.mk (hbox); have GW116 := Aside0.mk ((by rw [hg]; exact (keep_size (w := w) (g := g) (row := none) z15_) : w.heap.size ≤ gb116)); have GE116 := Aside0.mk ((Nat.le_trans HW0.out (by rw [hg]; exact (keep_size (w := w) (g := g) (row := none) z15_) : w.heap.size ≤ gb116) : w0.heap.size ≤ gb116)); replace HK := Aside0.mk (KeepBut.trans z15_ (KeepBut.of_below hb g none) (.inl rfl)); have NB107_116 := Aside0.mk (nl2_ hg BK107.out); have NB116_107 := Aside0.mk (ng2_ hg BK107.out); replace BK107 := Aside0.mk (bb_ BK107.out hb); have NB0_116 := Aside0.mk ((by rw [hg]; exact Nat.ne_of_lt (IsS87.lt (show IsS87 w0 _ g t109 t110 from z21_)) : g ≠ gb116)); have NB116_0 := Aside0.mk ((by rw [hg]; exact Nat.ne_of_gt (IsS87.lt (show IsS87 w0 _ g t109 t110 from z21_)) : gb116 ≠ g)); replace HI0 := Aside0.mk (IsS87.below z21_ hb); clear hb hbox hg; have hnb10 := NB116_107.out; have hnc10 := NB107_116.out; have hnb11 := NB116_0.out; have hnc11 := NB0_116.out; obtain ⟨hcz12_0, hcz12_1, hcz12_2, hcz12_3, hfz12_0, hfz12_1, hfz12_2, hfz12_3⟩ := bc4 BK116.out; have hnb13 := NB107_0.out; have hnc13 := NB0_107.out; obtain ⟨hcz14_0, hcz14_1, hcz14_2, hcz14_3, hfz14_0, hfz14_1, hfz14_2, hfz14_3⟩ := bc4 BK107.out))
  refine bodyPost_ret (results_cell_row rfl _ _ gb107 24 #[.string t111, .string t112, .int .i64 t113, .int .i64 t114] (0, 0) _ rfl (by have b_ := BK107; have f_ := NB107_116; exact zb_) Tryz.underlying24 rfl (by kernel_rfl)) rfl ?_
  exact ⟨z4_, by repeat (first | (with_reducible first | exact HI0.out | apply IsS87.alloc | apply IsS87.drewN | apply IsS87.drew | apply IsS87.set_0 | apply IsS87.set_1 | refine IsS87.far ?_ NB0_107.out _ | refine IsS87.far ?_ NB0_116.out _) | exact HI0.out), by repeat (first | (with_reducible first | exact HB.out | apply below_alloc | apply pw_below_drewN | apply below_drew1 | refine below_set ?_ (IsS87.ge HI0.out) | refine below_set ?_ GE107.out | refine below_set ?_ GE116.out) | exact HB.out), z37_⟩
 ·rw [if_neg c5] at H
  have c5b0 := beq_eq_false_iff_ne.mpr c5
  have c5b1 := bne_iff_ne.mpr c5
  replace H := Option.bind_eq_some_iff.mp H
  obtain ⟨⟨t117, t118⟩, A150, H⟩ := H
  replace H : (some (t111, t112, t113, t114, t117, t118)) = some (r1, r2, r3, r4, r5, r6) := H
  have A15 := Aside0.mk A150
  clear A150
  simp only [Option.some.injEq, Prod.mk.injEq] at H
  obtain ⟨rfl, rfl, rfl, rfl, rfl, rfl⟩ := H
  go_enter Tryz.func72, Tryz.ntmps72
  go_wp2_with (first | ((with_reducible refine gate_dst (N := 4) rfl ?_); refine be_ (cs := #[.string (⟨#[]⟩ : ByteArray), .string (⟨#[]⟩ : ByteArray), .int .i64 0, .int .i64 0]) (t := 24) ?_; intro gb107 hg w16 hbox hb; replace HB := Aside0.mk (below_step z12_ hb); have BK107 := Aside0.mk (hbox); have GW107 := Aside0.mk ((by rw [hg]; exact (keep_size (w := w) (g := g) (row := none) z7_) : w.heap.size ≤ gb107)); have GE107 := Aside0.mk ((Nat.le_trans HW0.out (by rw [hg]; exact (keep_size (w := w) (g := g) (row := none) z7_) : w.heap.size ≤ gb107) : w0.heap.size ≤ gb107)); replace HK := Aside0.mk (KeepBut.trans z7_ (KeepBut.of_below hb g none) (.inl rfl)); have NB0_107 := Aside0.mk ((by rw [hg]; exact Nat.ne_of_lt (IsS87.lt (show IsS87 w0 _ g s0_0 s0_1 from z11_)) : g ≠ gb107)); have NB107_0 := Aside0.mk ((by rw [hg]; exact Nat.ne_of_gt (IsS87.lt (show IsS87 w0 _ g s0_0 s0_1 from z11_)) : gb107 ≠ g)); replace HI0 := Aside0.mk (IsS87.below z11_ hb); clear hb hbox hg) | ((with_reducible refine gate_callee (f := 73) rfl ?_); refine goesL_ (some 10) rfl rfl Tryz.func73 (by kernel_rfl) rfl #[.pointer (some ⟨g, 0, none⟩), .string a1] rfl z2_ ?_; (with_reducible refine (commit_reader_line.calls g s0_0 s0_1 a1 t108 t109 t110 w0 _ ?side1 ?side2 ?side3 A3.out).mono ?_); (case side1 => repeat (first | (with_reducible first | exact HI0.out | apply IsS87.alloc | apply IsS87.drewN | apply IsS87.drew | apply IsS87.set_0 | apply IsS87.set_1 | refine IsS87.far ?_ NB0_107.out _) | exact HI0.out)); (case side2 => repeat (first | (with_reducible first | exact HB.out | apply below_alloc | apply pw_below_drewN | apply below_drew1 | refine below_set ?_ (IsS87.ge HI0.out) | refine below_set ?_ GE107.out) | exact HB.out)); (case side3 => exact hgv); rintro e w17 ⟨rfl, hi, hb, hk⟩; refine ⟨_, rfl, ?_⟩; replace BK107 := Aside0.mk (KeepBut.blk hk (g' := gb107) (o := .cells #[.string (⟨#[]⟩ : ByteArray), .string (⟨#[]⟩ : ByteArray), .int .i64 0, .int .i64 0] 24 (0, 0)) (bk_ BK107.out) NB107_0.out (by simp)); replace HK := Aside0.mk (KeepBut.trans z15_ hk (.inl rfl)); replace HB := Aside0.mk (hb); replace HI0 := Aside0.mk (hi); (try clear hb); (try clear hb2); (try clear hk); (try clear hi)) | ((with_reducible refine gate_callee (f := 29) rfl ?_); refine goesL_ (some 11) rfl rfl Tryz.func29 (by kernel_rfl) rfl #[.string t108] rfl z2_ ?_; (with_reducible refine (commit_ParseWho.calls k t108 t111 t112 t113 t114 t115 _ ?side1 A4.out).mono ?_); (case side1 => exact GV.below hgv z26_); rintro e w18 ⟨rfl, hb⟩; refine ⟨_, rfl, ?_⟩; replace BK107 := Aside0.mk (bb_ BK107.out hb); replace HK := Aside0.mk (KeepBut.trans z15_ (KeepBut.of_below hb g none) (.inl rfl)); replace HB := Aside0.mk (below_step z26_ hb); replace HI0 := Aside0.mk (IsS87.below z21_ hb); (try clear hb); (try clear hb2); (try clear hk); (try clear hi)) | ((with_reducible refine gate_dst (N := 5) rfl ?_); refine be_ (cs := #[.string (⟨#[]⟩ : ByteArray), .string (⟨#[]⟩ : ByteArray), .int .i64 0, .int .i64 0]) (t := 24) ?_; intro gb116 hg w19 hbox hb; replace HB := Aside0.mk (below_step z26_ hb); have BK116 := Aside0.mk (hbox); have GW116 := Aside0.mk ((by rw [hg]; exact (keep_size (w := w) (g := g) (row := none) z15_) : w.heap.size ≤ gb116)); have GE116 := Aside0.mk ((Nat.le_trans HW0.out (by rw [hg]; exact (keep_size (w := w) (g := g) (row := none) z15_) : w.heap.size ≤ gb116) : w0.heap.size ≤ gb116)); replace HK := Aside0.mk (KeepBut.trans z15_ (KeepBut.of_below hb g none) (.inl rfl)); have NB107_116 := Aside0.mk (nl2_ hg BK107.out); have NB116_107 := Aside0.mk (ng2_ hg BK107.out); replace BK107 := Aside0.mk (bb_ BK107.out hb); have NB0_116 := Aside0.mk ((by rw [hg]; exact Nat.ne_of_lt (IsS87.lt (show IsS87 w0 _ g t109 t110 from z21_)) : g ≠ gb116)); have NB116_0 := Aside0.mk ((by rw [hg]; exact Nat.ne_of_gt (IsS87.lt (show IsS87 w0 _ g t109 t110 from z21_)) : gb116 ≠ g)); replace HI0 := Aside0.mk (IsS87.below z21_ hb); clear hb hbox hg; have hnb20 := NB116_107.out; have hnc20 := NB107_116.out; have hnb21 := NB116_0.out; have hnc21 := NB0_116.out; obtain ⟨hcz22_0, hcz22_1, hcz22_2, hcz22_3, hfz22_0, hfz22_1, hfz22_2, hfz22_3⟩ := bc4 BK116.out) | ((with_reducible refine gate_callee (f := 74) rfl ?_); refine goesL_ (some 18) rfl rfl Tryz.func74 (by kernel_rfl) rfl #[.pointer (some ⟨g, 0, none⟩), .int .i64 t115] rfl z2_ ?_; (with_reducible refine (commit_reader_fail.calls g t109 t110 t115 t117 t118 w0 _ ?side1 ?side2 A15.out).mono ?_); (case side1 => repeat (first | (with_reducible first | exact HI0.out | apply IsS87.alloc | apply IsS87.drewN | apply IsS87.drew | apply IsS87.set_0 | apply IsS87.set_1 | refine IsS87.far ?_ NB0_107.out _ | refine IsS87.far ?_ NB0_116.out _) | exact HI0.out)); (case side2 => repeat (first | (with_reducible first | exact HB.out | apply below_alloc | apply pw_below_drewN | apply below_drew1 | refine below_set ?_ (IsS87.ge HI0.out) | refine below_set ?_ GE107.out | refine below_set ?_ GE116.out) | exact HB.out)); rintro e w23 ⟨rfl, hi, hb, hk⟩; refine ⟨_, rfl, ?_⟩; replace BK107 := Aside0.mk (KeepBut.blk hk (g' := gb107) (o := .cells #[.string (⟨#[]⟩ : ByteArray), .string (⟨#[]⟩ : ByteArray), .int .i64 0, .int .i64 0] 24 (0, 0)) (by have b_ := BK107; have f_ := NB107_116; exact zb_) NB107_0.out (by simp)); replace BK116 := Aside0.mk (KeepBut.blk hk (g' := gb116) (o := .cells #[.string t111, .string t112, .int .i64 t113, .int .i64 t114] 24 (0, 0)) (by have b_ := BK116; exact zb_) NB116_0.out (by simp)); replace HK := Aside0.mk (KeepBut.trans z37_ hk (.inl rfl)); replace HB := Aside0.mk (hb); replace HI0 := Aside0.mk (hi); (try clear hb); (try clear hb2); (try clear hk); (try clear hi); obtain ⟨hcz24_0, hcz24_1, hcz24_2, hcz24_3, hfz24_0, hfz24_1, hfz24_2, hfz24_3⟩ := bc4 BK116.out; have hnb25 := NB107_0.out; have hnc25 := NB0_107.out; obtain ⟨hcz26_0, hcz26_1, hcz26_2, hcz26_3, hfz26_0, hfz26_1, hfz26_2, hfz26_3⟩ := bc4 BK107.out))
  refine bodyPost_ret (results_cell_row rfl _ _ gb107 24 #[.string t111, .string t112, .int .i64 t113, .int .i64 t114] (0, 0) _ rfl (by have b_ := BK107; exact zb_) Tryz.underlying24 rfl (by kernel_rfl)) rfl ?_
  exact ⟨z4_, by repeat (first | (with_reducible first | exact HI0.out | apply IsS87.alloc | apply IsS87.drewN | apply IsS87.drew | apply IsS87.set_0 | apply IsS87.set_1 | refine IsS87.far ?_ NB0_107.out _ | refine IsS87.far ?_ NB0_116.out _) | exact HI0.out), by repeat (first | (with_reducible first | exact HB.out | apply below_alloc | apply pw_below_drewN | apply below_drew1 | refine below_set ?_ (IsS87.ge HI0.out) | refine below_set ?_ GE107.out | refine below_set ?_ GE116.out) | exact HB.out), z37_⟩


mutual
def commit_Parse.j1 : Nat → ByteArray → Int → ByteArray → List ByteArray → ByteArray → ByteArray → Int → Int → ByteArray → ByteArray → Int → Int → ByteArray → Option (ByteArray × List ByteArray × ByteArray × ByteArray × Int × Int × ByteArray × ByteArray × Int × Int × ByteArray × Int)
 | 0, _, _, _, _, _, _, _, _, _, _, _, _, _ => none
 | k + 1, x103000, x103001, x107000, x107001, x107002, x107003, x107004, x107005, x107006, x107007, x107008, x107009, x107010 => (commit_reader_who.f k x103000 x103001 (⟨#[97, 117, 116, 104, 111, 114, 32]⟩ : ByteArray)).bind fun bt114 => ((commit_reader_who.f k bt114.2.2.2.2.1 bt114.2.2.2.2.2 (⟨#[99, 111, 109, 109, 105, 116, 116, 101, 114, 32]⟩ : ByteArray)).bind fun bt120 => ((commit_reader_line.f bt120.2.2.2.2.1 bt120.2.2.2.2.2 (⟨#[]⟩ : ByteArray)).bind fun bt126 => (if bt126.1.toList = ([] : List UInt8) then (commit_Parse.j2 k bt126.2.1 bt126.2.2 x107000 x107001 bt114.1 bt114.2.1 bt114.2.2.1 bt114.2.2.2.1 bt120.1 bt120.2.1 bt120.2.2.1 bt120.2.2.2.1 x107010) else ((commit_reader_fail.f bt126.2.1 bt126.2.2 2).bind fun bt129 => (commit_Parse.j2 k bt129.1 bt129.2 x107000 x107001 bt114.1 bt114.2.1 bt114.2.2.1 bt114.2.2.2.1 bt120.1 bt120.2.1 bt120.2.2.1 bt120.2.2.2.1 x107010)))))
def commit_Parse.j2 : Nat → ByteArray → Int → ByteArray → List ByteArray → ByteArray → ByteArray → Int → Int → ByteArray → ByteArray → Int → Int → ByteArray → Option (ByteArray × List ByteArray × ByteArray × ByteArray × Int × Int × ByteArray × ByteArray × Int × Int × ByteArray × Int)
 | 0, _, _, _, _, _, _, _, _, _, _, _, _, _ => none
 | k + 1, x103000, x103001, x107000, x107001, x107002, x107003, x107004, x107005, x107006, x107007, x107008, x107009, x107010 => if x103001 = 0 then ((commit_Check.f k x107000 x107001 x107002 x107003 x107004 x107005 x107006 x107007 x107008 x107009 x103000).bind fun t131 => (if t131 = 0 then (some (x107000, x107001, x107002, x107003, x107004, x107005, x107006, x107007, x107008, x107009, x103000, 0)) else (some ((⟨#[]⟩ : ByteArray), ([] : List ByteArray), (⟨#[]⟩ : ByteArray), (⟨#[]⟩ : ByteArray), 0, 0, (⟨#[]⟩ : ByteArray), (⟨#[]⟩ : ByteArray), 0, 0, (⟨#[]⟩ : ByteArray), t131)))) else (some ((⟨#[]⟩ : ByteArray), ([] : List ByteArray), (⟨#[]⟩ : ByteArray), (⟨#[]⟩ : ByteArray), 0, 0, (⟨#[]⟩ : ByteArray), (⟨#[]⟩ : ByteArray), 0, 0, (⟨#[]⟩ : ByteArray), x103001))
def commit_Parse.l0 : Nat → ByteArray → Int → ByteArray → List ByteArray → ByteArray → ByteArray → Int → Int → ByteArray → ByteArray → Int → Int → ByteArray → Option (ByteArray × List ByteArray × ByteArray × ByteArray × Int × Int × ByteArray × ByteArray × Int × Int × ByteArray × Int)
 | 0, _, _, _, _, _, _, _, _, _, _, _, _, _ => none
 | k + 1, x103000, x103001, x107000, x107001, x107002, x107003, x107004, x107005, x107006, x107007, x107008, x107009, x107010 => if x103001 = 0 then ((strings_HasPrefix.f x103000 (⟨#[112, 97, 114, 101, 110, 116, 32]⟩ : ByteArray)).bind fun t107 => (if t107 = true then ((commit_reader_id.f k x103000 x103001 (⟨#[112, 97, 114, 101, 110, 116, 32]⟩ : ByteArray)).bind fun bt108 => (if x107001.length < 8796093022208 then (commit_Parse.l0 k bt108.2.1 bt108.2.2 x107000 (x107001 ++ [bt108.1]) x107002 x107003 x107004 x107005 x107006 x107007 x107008 x107009 x107010) else (none))) else (commit_Parse.j1 k x103000 x103001 x107000 x107001 x107002 x107003 x107004 x107005 x107006 x107007 x107008 x107009 x107010))) else (commit_Parse.j1 k x103000 x103001 x107000 x107001 x107002 x107003 x107004 x107005 x107006 x107007 x107008 x107009 x107010)
end
def commit_Parse.f (k : Nat) (a0 : ByteArray) : Option (ByteArray × List ByteArray × ByteArray × ByteArray × Int × Int × ByteArray × ByteArray × Int × Int × ByteArray × Int) := (commit_reader_id.f k a0 0 (⟨#[116, 114, 101, 101, 32]⟩ : ByteArray)).bind fun bt103 => (commit_Parse.l0 k bt103.2.1 bt103.2.2 bt103.1 ([] : List ByteArray) (⟨#[]⟩ : ByteArray) (⟨#[]⟩ : ByteArray) 0 0 (⟨#[]⟩ : ByteArray) (⟨#[]⟩ : ByteArray) 0 0 (⟨#[]⟩ : ByteArray))
theorem commit_Parse.mono_l : ∀ k, (∀ y0 y1 y2 y3 y4 y5 y6 y7 y8 y9 y10 y11 y12, LeO (commit_Parse.j1 k y0 y1 y2 y3 y4 y5 y6 y7 y8 y9 y10 y11 y12) (commit_Parse.j1 (k + 1) y0 y1 y2 y3 y4 y5 y6 y7 y8 y9 y10 y11 y12)) ∧ (∀ y0 y1 y2 y3 y4 y5 y6 y7 y8 y9 y10 y11 y12, LeO (commit_Parse.j2 k y0 y1 y2 y3 y4 y5 y6 y7 y8 y9 y10 y11 y12) (commit_Parse.j2 (k + 1) y0 y1 y2 y3 y4 y5 y6 y7 y8 y9 y10 y11 y12)) ∧ (∀ y0 y1 y2 y3 y4 y5 y6 y7 y8 y9 y10 y11 y12, LeO (commit_Parse.l0 k y0 y1 y2 y3 y4 y5 y6 y7 y8 y9 y10 y11 y12) (commit_Parse.l0 (k + 1) y0 y1 y2 y3 y4 y5 y6 y7 y8 y9 y10 y11 y12))
 | 0 => ⟨fun _ _ _ _ _ _ _ _ _ _ _ _ _ r h => by simp [commit_Parse.j1] at h, fun _ _ _ _ _ _ _ _ _ _ _ _ _ r h => by simp [commit_Parse.j2] at h, fun _ _ _ _ _ _ _ _ _ _ _ _ _ r h => by simp [commit_Parse.l0] at h⟩
 | k + 1 => by
  obtain ⟨ih0, ih1, ih2⟩ := commit_Parse.mono_l k
  refine ⟨?_, ?_, ?_⟩
  ·intro y0 y1 y2 y3 y4 y5 y6 y7 y8 y9 y10 y11 y12
   unfold commit_Parse.j1
   have m0_ := @ih0
   have m1_ := @ih1
   have m2_ := @ih2
   have m3_ := @commit_Check.mono
   have m4_ := @commit_reader_id.mono
   have m5_ := @commit_reader_who.mono
   exact mz_
  ·intro y0 y1 y2 y3 y4 y5 y6 y7 y8 y9 y10 y11 y12
   unfold commit_Parse.j2
   have m0_ := @ih0
   have m1_ := @ih1
   have m2_ := @ih2
   have m3_ := @commit_Check.mono
   have m4_ := @commit_reader_id.mono
   have m5_ := @commit_reader_who.mono
   exact mz_
  ·intro y0 y1 y2 y3 y4 y5 y6 y7 y8 y9 y10 y11 y12
   unfold commit_Parse.l0
   have m0_ := @ih0
   have m1_ := @ih1
   have m2_ := @ih2
   have m3_ := @commit_Check.mono
   have m4_ := @commit_reader_id.mono
   have m5_ := @commit_reader_who.mono
   exact mz_
theorem commit_Parse.mono : ∀ a0 k, LeO (commit_Parse.f k a0) (commit_Parse.f (k + 1) a0) := by
 intro a0 k
 obtain ⟨ih0, ih1, ih2⟩ := commit_Parse.mono_l k
 unfold commit_Parse.f
 have m0_ := @ih0
 have m1_ := @ih1
 have m2_ := @ih2
 have m3_ := @commit_Check.mono
 have m4_ := @commit_reader_id.mono
 have m5_ := @commit_reader_who.mono
 exact mz_
def commit_Parse.T4 : Bool × List (List Nat × List Nat) := (true, [([], []), ([0], [0]), ([], []), ([2], [2]), ([3], [3]), ([1, 4, 3], [1, 4]), ([0, 1, 2, 3, 4, 5], []), ([6, 5, 5, 0, 1, 2, 3, 4, 5], [5, 6])])
def commit_Parse.B4 : List Nat := [0, 1, 0, 4, 12, 31, 63, 127]
theorem commit_Parse.tab4 : rtab .any (opsOf Tryz.f20 4) = commit_Parse.T4 := by kernel_rfl
theorem commit_Parse.bits4 : waitsOk commit_Parse.T4.2 commit_Parse.B4 = true := by kernel_rfl
set_option maxHeartbeats 8000000 in
set_option maxRecDepth 100000 in
theorem commit_Parse.calls (k : Nat) (a0 : ByteArray) (r1 : ByteArray) (r2 : List ByteArray) (r3 : ByteArray) (r4 : ByteArray) (r5 : Int) (r6 : Int) (r7 : ByteArray) (r8 : ByteArray) (r9 : Int) (r10 : Int) (r11 : ByteArray) (r12 : Int) (w : World) (hgv : GV w) (h : commit_Parse.f k a0 = some (r1, r2, r3, r4, r5, r6, r7, r8, r9, r10, r11, r12)) :
  Calls Tryz.prog 20 #[.string a0] w fun e w' => ∃ v1_ : Value, e = .returned (.tuple #[.agg #[.string r1, v1_, .string r3, .string r4, .int .i64 r5, .int .i64 r6, .string r7, .string r8, .int .i64 r9, .int .i64 r10, .string r11], .int .i64 r12]) ∧ Kd.R Kd.string 9 w' w.heap.size (fun _ => True) v1_ r2 ∧ Below w.heap.size w w' := by
 have hu26 := Tryz.underlying26
 have hu87 := Tryz.underlying87
 have hu24 := Tryz.underlying24
 have HB := Aside0.mk (Below.refl w.heap.size w)
 have H : ((commit_reader_id.f k a0 0 (⟨#[116, 114, 101, 101, 32]⟩ : ByteArray)).bind fun bt103 => (commit_Parse.l0 k bt103.2.1 bt103.2.2 bt103.1 ([] : List ByteArray) (⟨#[]⟩ : ByteArray) (⟨#[]⟩ : ByteArray) 0 0 (⟨#[]⟩ : ByteArray) (⟨#[]⟩ : ByteArray) 0 0 (⟨#[]⟩ : ByteArray))) = some (r1, r2, r3, r4, r5, r6, r7, r8, r9, r10, r11, r12) := h
 clear h
 replace H := Option.bind_eq_some_iff.mp H
 obtain ⟨⟨t103, t104, t105⟩, A20, H⟩ := H
 replace H : (commit_Parse.l0 k t104 t105 t103 ([] : List ByteArray) (⟨#[]⟩ : ByteArray) (⟨#[]⟩ : ByteArray) 0 0 (⟨#[]⟩ : ByteArray) (⟨#[]⟩ : ByteArray) 0 0 (⟨#[]⟩ : ByteArray)) = some (r1, r2, r3, r4, r5, r6, r7, r8, r9, r10, r11, r12) := H
 have A2 := Aside0.mk A20
 clear A20
 have HC3 := Aside0.mk H
 clear H
 go_enter Tryz.func20, Tryz.ntmps20
 go_upto_block 0 with (first | ((with_reducible refine gate_dst (N := 2) rfl ?_); refine be_ (cs := #[.string (⟨#[]⟩ : ByteArray), .slice none 0 0, .string (⟨#[]⟩ : ByteArray), .string (⟨#[]⟩ : ByteArray), .int .i64 0, .int .i64 0, .string (⟨#[]⟩ : ByteArray), .string (⟨#[]⟩ : ByteArray), .int .i64 0, .int .i64 0, .string (⟨#[]⟩ : ByteArray)]) (t := 26) ?_; intro gb101 hg w4 hbox hb; have BK101 := Aside0.mk (hbox); have GW101 := Aside0.mk (gw_ hg HB.out); have GE101 := Aside0.mk (gw_ hg HB.out); replace HB := Aside0.mk (below_step (hb_ HB.out) hb); clear hb hbox hg) | ((with_reducible refine gate_dst (N := 8) rfl ?_); refine be_ (cs := #[.string a0, .int .i64 0]) (t := 87) ?_; intro gb102 hg w5 hbox hb; have BK102 := Aside0.mk (hbox); have GW102 := Aside0.mk ((by rw [hg]; exact (below_size (hs_)) : w.heap.size ≤ gb102)); have GE102 := Aside0.mk ((by rw [hg]; exact (below_size (hs_)) : w.heap.size ≤ gb102)); replace HB := Aside0.mk (below_step (hs_) hb); have NB101_102 := Aside0.mk (nl2_ hg BK101.out); have NB102_101 := Aside0.mk (ng2_ hg BK101.out); replace BK101 := Aside0.mk (bb_ BK101.out hb); clear hb hbox hg) | ((with_reducible refine gate_callee (f := 70) rfl ?_); refine goesL_ (some 10) rfl rfl Tryz.func70 (by kernel_rfl) rfl #[.pointer (some ⟨gb102, 0, none⟩), .string (⟨#[116, 114, 101, 101, 32]⟩ : ByteArray)] rfl z2_ ?_; (with_reducible refine (commit_reader_id.calls k gb102 a0 0 (⟨#[116, 114, 101, 101, 32]⟩ : ByteArray) t103 t104 t105 w _ ?side1 ?side2 ?side3 A2.out).mono ?_); (case side1 => exact (show IsS87 w _ gb102 a0 0 from ⟨(bk_ BK102.out), GE102.out⟩)); (case side2 => repeat (first | (with_reducible first | exact HB.out | apply below_alloc | apply pw_below_drewN | apply below_drew1 | refine below_set ?_ (IsS87.ge HI102.out) | refine below_set ?_ GE101.out) | exact HB.out)); (case side3 => exact hgv); rintro e w6 ⟨rfl, hi, hb, hk⟩; refine ⟨_, rfl, ?_⟩; replace BK101 := Aside0.mk (KeepBut.blk hk (g' := gb101) (o := .cells #[.string (⟨#[]⟩ : ByteArray), .slice none 0 0, .string (⟨#[]⟩ : ByteArray), .string (⟨#[]⟩ : ByteArray), .int .i64 0, .int .i64 0, .string (⟨#[]⟩ : ByteArray), .string (⟨#[]⟩ : ByteArray), .int .i64 0, .int .i64 0, .string (⟨#[]⟩ : ByteArray)] 26 (0, 0)) (bk_ BK101.out) NB101_102.out (by simp)); replace HB := Aside0.mk (hb); replace BK102 := Aside0.mk (hi.1); (try clear hb); (try clear hb2); (try clear hk); (try clear hi)) | ((with_reducible refine gate_dst (N := 5) rfl ?_); refine be_ (cs := #[.string (⟨#[]⟩ : ByteArray), .slice none 0 0, .string (⟨#[]⟩ : ByteArray), .string (⟨#[]⟩ : ByteArray), .int .i64 0, .int .i64 0, .string (⟨#[]⟩ : ByteArray), .string (⟨#[]⟩ : ByteArray), .int .i64 0, .int .i64 0, .string (⟨#[]⟩ : ByteArray)]) (t := 26) ?_; intro gb106 hg w7 hbox hb; have BK106 := Aside0.mk (hbox); have GW106 := Aside0.mk ((by rw [hg]; exact (below_size (hs_)) : w.heap.size ≤ gb106)); have GE106 := Aside0.mk ((by rw [hg]; exact (below_size (hs_)) : w.heap.size ≤ gb106)); replace HB := Aside0.mk (below_step (hs_) hb); have NB101_106 := Aside0.mk (nl2_ hg BK101.out); have NB106_101 := Aside0.mk (ng2_ hg BK101.out); replace BK101 := Aside0.mk (bb_ BK101.out hb); have NB102_106 := Aside0.mk (nl2_ hg BK102.out); have NB106_102 := Aside0.mk (ng2_ hg BK102.out); replace BK102 := Aside0.mk (bb_ BK102.out hb); clear hb hbox hg; have hnb8 := NB106_101.out; have hnc8 := NB101_106.out; have hnb9 := NB106_102.out; have hnc9 := NB102_106.out; obtain ⟨hcz10_0, hcz10_1, hcz10_2, hcz10_3, hcz10_4, hcz10_5, hcz10_6, hcz10_7, hcz10_8, hcz10_9, hcz10_10, hfz10_0, hfz10_1, hfz10_2, hfz10_3, hfz10_4, hfz10_5, hfz10_6, hfz10_7, hfz10_8, hfz10_9, hfz10_10⟩ := bc11 BK106.out))
 (try simp only [Act.put, List.setIfInBounds_toArray, List.set_cons_zero, List.set_cons_succ])
 go_cut [] (fun wc => ∃ (kq : Nat) (x103000_2 : ByteArray) (x103001_2 : Int) (x107001_2 : List ByteArray) (u107001 : Value), Aside0 (commit_Parse.j1 kq x103000_2 x103001_2 t103 x107001_2 (⟨#[]⟩ : ByteArray) (⟨#[]⟩ : ByteArray) 0 0 (⟨#[]⟩ : ByteArray) (⟨#[]⟩ : ByteArray) 0 0 (⟨#[]⟩ : ByteArray) = some (r1, r2, r3, r4, r5, r6, r7, r8, r9, r10, r11, r12)) ∧ Aside0 (kq ≤ k) ∧ Aside0 (Kd.R Kd.string 9 wc w.heap.size (fun _ => True) u107001 x107001_2) ∧ Aside0 (wc.heap[gb101]? = some (.cells #[.string (⟨#[]⟩ : ByteArray), (.slice none 0 0), .string (⟨#[]⟩ : ByteArray), .string (⟨#[]⟩ : ByteArray), .int .i64 0, .int .i64 0, .string (⟨#[]⟩ : ByteArray), .string (⟨#[]⟩ : ByteArray), .int .i64 0, .int .i64 0, .string (⟨#[]⟩ : ByteArray)] 26 (0, 0))) ∧ Aside0 (wc.heap[gb102]? = some (.cells #[.string x103000_2, .int .i64 x103001_2] 87 (0, 0))) ∧ Aside0 (wc.heap[gb106]? = some (.cells #[.string t103, u107001, .string (⟨#[]⟩ : ByteArray), .string (⟨#[]⟩ : ByteArray), .int .i64 0, .int .i64 0, .string (⟨#[]⟩ : ByteArray), .string (⟨#[]⟩ : ByteArray), .int .i64 0, .int .i64 0, .string (⟨#[]⟩ : ByteArray)] 26 (0, 0))) ∧ Aside0 (Below w.heap.size w wc))
 case first =>
  have H := HC3.out
  clear HC3
  have H' := Aside0.mk H
  clear H
  go_wp2
  go_loopg [] k (fun kq w' => ∃ (x103000_1 : ByteArray) (x103001_1 : Int) (x107001_1 : List ByteArray) (u107001 : Value), Aside0 (commit_Parse.l0 kq x103000_1 x103001_1 t103 x107001_1 (⟨#[]⟩ : ByteArray) (⟨#[]⟩ : ByteArray) 0 0 (⟨#[]⟩ : ByteArray) (⟨#[]⟩ : ByteArray) 0 0 (⟨#[]⟩ : ByteArray) = some (r1, r2, r3, r4, r5, r6, r7, r8, r9, r10, r11, r12)) ∧ Aside0 (kq ≤ k) ∧ Aside0 (Kd.R Kd.string 9 w' w.heap.size (fun _ => True) u107001 x107001_1) ∧ Aside0 (w'.heap[gb101]? = some (.cells #[.string (⟨#[]⟩ : ByteArray), (.slice none 0 0), .string (⟨#[]⟩ : ByteArray), .string (⟨#[]⟩ : ByteArray), .int .i64 0, .int .i64 0, .string (⟨#[]⟩ : ByteArray), .string (⟨#[]⟩ : ByteArray), .int .i64 0, .int .i64 0, .string (⟨#[]⟩ : ByteArray)] 26 (0, 0))) ∧ Aside0 (w'.heap[gb102]? = some (.cells #[.string x103000_1, .int .i64 x103001_1] 87 (0, 0))) ∧ Aside0 (w'.heap[gb106]? = some (.cells #[.string t103, u107001, .string (⟨#[]⟩ : ByteArray), .string (⟨#[]⟩ : ByteArray), .int .i64 0, .int .i64 0, .string (⟨#[]⟩ : ByteArray), .string (⟨#[]⟩ : ByteArray), .int .i64 0, .int .i64 0, .string (⟨#[]⟩ : ByteArray)] 26 (0, 0))) ∧ Aside0 (Below w.heap.size w w'))
  case atStart => exact ⟨(t104), (t105), (([] : List ByteArray)), (.slice none 0 0), H', ⟨Nat.le_refl _⟩, ⟨z6_⟩, ⟨by have b_ := BK101; have f_ := NB101_106; exact zb_⟩, ⟨by have b_ := BK102; have f_ := NB102_106; exact zb_⟩, ⟨by have b_ := BK106; exact zb_⟩, ⟨hs_⟩⟩
  case round =>
   clear H'
   try clear c2
   try clear p2
   try clear c7
   try clear c8
   try clear c9
   try clear hcz10_0 hcz10_1 hcz10_10 hcz10_2 hcz10_3 hcz10_4 hcz10_5 hcz10_6 hcz10_7 hcz10_8 hcz10_9 hfz10_0 hfz10_1 hfz10_10 hfz10_2 hfz10_3 hfz10_4 hfz10_5 hfz10_6 hfz10_7 hfz10_8 hfz10_9
   obtain ⟨x103000_1, x103001_1, x107001_1, u107001, HA, HK1, HO_107001, BK101, BK102, BK106, HB⟩ := hrel
   cases gk with
   | zero => exact absurd HA.out (by simp [commit_Parse.l0])
   | succ k1 =>
    have H := HA.out
    clear HA
    simp only [commit_Parse.l0] at H
    by_cases c11 : x103001_1 = 0
    ·rw [if_pos c11] at H
     have c11b0 := beq_iff_eq.mpr c11
     have c11b1 := bne_eq_false_iff_eq.mpr c11
     clear c11
     (first | rw [c11b0] | (simp only [i64_w, i32_w]; rw [c11b0]) | skip)
     (try rw [c11b8])
     replace H := Option.bind_eq_some_iff.mp H
     obtain ⟨t107, A120, H⟩ := H
     have A12 := Aside0.mk A120
     clear A120
     by_cases c13 : t107 = true
     ·subst c13
      have H1 : ((commit_reader_id.f k1 x103000_1 x103001_1 (⟨#[112, 97, 114, 101, 110, 116, 32]⟩ : ByteArray)).bind fun bt108 => (if x107001_1.length < 8796093022208 then (commit_Parse.l0 k1 bt108.2.1 bt108.2.2 t103 (x107001_1 ++ [bt108.1]) (⟨#[]⟩ : ByteArray) (⟨#[]⟩ : ByteArray) 0 0 (⟨#[]⟩ : ByteArray) (⟨#[]⟩ : ByteArray) 0 0 (⟨#[]⟩ : ByteArray)) else (none))) = some (r1, r2, r3, r4, r5, r6, r7, r8, r9, r10, r11, r12) := by rw [if_pos rfl] at H; exact H
      clear H
      have H := H1
      clear H1
      replace H := Option.bind_eq_some_iff.mp H
      obtain ⟨⟨t108, t109, t110⟩, A140, H⟩ := H
      replace H : (if x107001_1.length < 8796093022208 then (commit_Parse.l0 k1 t109 t110 t103 (x107001_1 ++ [t108]) (⟨#[]⟩ : ByteArray) (⟨#[]⟩ : ByteArray) 0 0 (⟨#[]⟩ : ByteArray) (⟨#[]⟩ : ByteArray) 0 0 (⟨#[]⟩ : ByteArray)) else (none)) = some (r1, r2, r3, r4, r5, r6, r7, r8, r9, r10, r11, r12) := H
      have A14 := Aside0.mk A140
      clear A140
      by_cases c15 : x107001_1.length < 8796093022208
      ·rw [if_pos c15] at H
       have LMc15 := Aside0.mk c15
       clear c15
       obtain ⟨y111, hy111⟩ : ∃ y_ : List ByteArray, y_ = (x107001_1 ++ [t108]) := ⟨_, rfl⟩
       replace H : (commit_Parse.l0 k1 t109 t110 t103 y111 (⟨#[]⟩ : ByteArray) (⟨#[]⟩ : ByteArray) 0 0 (⟨#[]⟩ : ByteArray) (⟨#[]⟩ : ByteArray) 0 0 (⟨#[]⟩ : ByteArray)) = some (r1, r2, r3, r4, r5, r6, r7, r8, r9, r10, r11, r12) := by first | (rw [hy111]; with_reducible exact H) | (have H2_ := (Option.bind_some _ _).symm.trans H; rw [hy111]; with_reducible exact H2_) | (have H2_ := (Option.bind_some _ _).symm.trans H; with_reducible exact H2_) | with_reducible exact H | (rw [hy111]; exact H) | exact H
       have Ny111 := Aside0.mk hy111
       clear hy111
       have H' := Aside0.mk H
       clear H
       have hnb16 := NB102_101.out
       have hnc16 := NB101_102.out
       have hnb17 := NB102_106.out
       have hnc17 := NB106_102.out
       obtain ⟨hcz18_0, hcz18_1, hfz18_0, hfz18_1⟩ := bc2 BK102.out
       try go_wp2_with (first | (go_at_call 71; (with_reducible refine (strings_HasPrefix.calls x103000_1 (⟨#[112, 97, 114, 101, 110, 116, 32]⟩ : ByteArray) true _ A12.out).mono ?_); rintro e w' ⟨rfl, ⟨nd, rfl⟩⟩; (try (rw [drewN_self wr]; generalize hq_ : World.drewN wr _ = wr; have n0_ : Aside0 (Kd.R Kd.string 9 wr w.heap.size (fun _ => True) u107001 x107001_1) := ⟨by rw [← hq_]; exact (rk_ HO_107001.out)⟩; have n1_ : Aside0 (wr.heap[gb101]? = some (.cells #[.string (⟨#[]⟩ : ByteArray), .slice none 0 0, .string (⟨#[]⟩ : ByteArray), .string (⟨#[]⟩ : ByteArray), .int .i64 0, .int .i64 0, .string (⟨#[]⟩ : ByteArray), .string (⟨#[]⟩ : ByteArray), .int .i64 0, .int .i64 0, .string (⟨#[]⟩ : ByteArray)] 26 (0, 0))) := ⟨by rw [← hq_]; exact (bk_ BK101.out)⟩; have n2_ : Aside0 (wr.heap[gb102]? = some (.cells #[.string x103000_1, .int .i64 x103001_1] 87 (0, 0))) := ⟨by rw [← hq_]; exact (bk_ BK102.out)⟩; have n3_ : Aside0 (wr.heap[gb106]? = some (.cells #[.string t103, u107001, .string (⟨#[]⟩ : ByteArray), .string (⟨#[]⟩ : ByteArray), .int .i64 0, .int .i64 0, .string (⟨#[]⟩ : ByteArray), .string (⟨#[]⟩ : ByteArray), .int .i64 0, .int .i64 0, .string (⟨#[]⟩ : ByteArray)] 26 (0, 0))) := ⟨by rw [← hq_]; exact (bk_ BK106.out)⟩; have n4_ : Aside0 (Below w.heap.size w wr) := ⟨by rw [← hq_]; exact (hs_)⟩; clear HO_107001 BK101 BK102 BK106 HB hq_; have HO_107001 := n0_; have BK101 := n1_; have BK102 := n2_; have BK106 := n3_; have HB := n4_; clear n0_ n1_ n2_ n3_ n4_))))
       replace HO_107001 := Aside0.mk (Kd.R_drew HO_107001.out)
       replace BK101 := Aside0.mk (blk_drew BK101.out)
       replace BK102 := Aside0.mk (blk_drew BK102.out)
       replace BK106 := Aside0.mk (blk_drew BK106.out)
       replace HB := Aside0.mk (below_drew1 HB.out)
       refine start_ (n := 8) (S := fun w' => w'.cell? ⟨gb106, 0, none⟩ = some (.string t103) ∧ w'.cell? ⟨gb106, 1, none⟩ = some (u107001) ∧ w'.cell? ⟨gb106, 2, none⟩ = some (.string (⟨#[]⟩ : ByteArray)) ∧ w'.cell? ⟨gb106, 3, none⟩ = some (.string (⟨#[]⟩ : ByteArray)) ∧ w'.cell? ⟨gb106, 4, none⟩ = some (.int .i64 0) ∧ w'.cell? ⟨gb106, 5, none⟩ = some (.int .i64 0) ∧ w'.cell? ⟨gb106, 6, none⟩ = some (.string (⟨#[]⟩ : ByteArray)) ∧ w'.cell? ⟨gb106, 7, none⟩ = some (.string (⟨#[]⟩ : ByteArray)) ∧ w'.cell? ⟨gb106, 8, none⟩ = some (.int .i64 0) ∧ w'.cell? ⟨gb106, 9, none⟩ = some (.int .i64 0) ∧ w'.cell? ⟨gb106, 10, none⟩ = some (.string (⟨#[]⟩ : ByteArray))) (ds := [7]) (bs 8 0) (by kernel_rfl) rfl rfl ⟨(blk_cell BK106.out 0).trans rfl, (blk_cell BK106.out 1).trans rfl, (blk_cell BK106.out 2).trans rfl, (blk_cell BK106.out 3).trans rfl, (blk_cell BK106.out 4).trans rfl, (blk_cell BK106.out 5).trans rfl, (blk_cell BK106.out 6).trans rfl, (blk_cell BK106.out 7).trans rfl, (blk_cell BK106.out 8).trans rfl, (blk_cell BK106.out 9).trans rfl, (blk_cell BK106.out 10).trans rfl⟩ (fun hHeld => ?_); refine with_tabW commit_Parse.tab4 commit_Parse.bits4 (fun HT_ HW_ => ?_)
       generalize wr.drew = w19 at HO_107001 BK101 BK102 BK106 HB hHeld ⊢
       refine pu_ (i := 0) (N := some 24) (bs 8 1) rfl rfl ?_
       refine pu_ (i := 2) (N := some 26) (bs 8 5) rfl rfl ?_
       refine tkW11_ (i := 1) (N := some 25) (bs 8 7) rfl rfl hHeld ?_
       refine one_ (i := 3) (N := some 27) (bs 8 15) rfl rfl (one_of HT_.out (by kernel_rfl)) (by decide) (fun K hK => ?_)
       refine goes_ Tryz.func70 (by kernel_rfl) rfl #[.pointer (some ⟨gb102, 0, none⟩), .string (⟨#[112, 97, 114, 101, 110, 116, 32]⟩ : ByteArray)] (by rfl) rfl rfl z2_ ?_
       with_reducible refine (commit_reader_id.calls k1 gb102 x103000_1 x103001_1 (⟨#[112, 97, 114, 101, 110, 116, 32]⟩ : ByteArray) t108 t109 t110 w _ ?side1 ?side2 ?side3 A14.out).mono ?_
       (case side1 => exact (show IsS87 w _ gb102 x103000_1 x103001_1 from ⟨(bk_ BK102.out), GE102.out⟩))
       (case side2 => repeat (first | (with_reducible first | exact HB.out | apply below_alloc | apply pw_below_drewN | apply below_drew1 | refine below_set ?_ (IsS87.ge HI102.out) | refine below_set ?_ GE101.out | refine below_set ?_ GE106.out) | exact HB.out))
       (case side3 => exact hgv)
       rintro e w20 ⟨rfl, hi, hb, hk⟩
       refine ⟨_, rfl, ?_⟩
       replace HO_107001 := Aside0.mk (Kd.R_mono (Kd.R_keep (IsS87.apart (show IsS87 w _ gb102 x103000_1 x103001_1 from by exact (show IsS87 w _ gb102 x103000_1 x103001_1 from ⟨(bk_ BK102.out), GE102.out⟩)) (rk_ HO_107001.out) (by decide)) hk (fun _ h => h.2)) (fun _ h => h.1))
       replace BK101 := Aside0.mk (KeepBut.blk hk (g' := gb101) (o := .cells #[.string (⟨#[]⟩ : ByteArray), .slice none 0 0, .string (⟨#[]⟩ : ByteArray), .string (⟨#[]⟩ : ByteArray), .int .i64 0, .int .i64 0, .string (⟨#[]⟩ : ByteArray), .string (⟨#[]⟩ : ByteArray), .int .i64 0, .int .i64 0, .string (⟨#[]⟩ : ByteArray)] 26 (0, 0)) (bk_ BK101.out) NB101_102.out (by simp))
       replace BK106 := Aside0.mk (KeepBut.blk hk (g' := gb106) (o := .cells #[.string t103, u107001, .string (⟨#[]⟩ : ByteArray), .string (⟨#[]⟩ : ByteArray), .int .i64 0, .int .i64 0, .string (⟨#[]⟩ : ByteArray), .string (⟨#[]⟩ : ByteArray), .int .i64 0, .int .i64 0, .string (⟨#[]⟩ : ByteArray)] 26 (0, 0)) (bk_ BK106.out) NB106_102.out (by simp))
       replace HB := Aside0.mk (hb)
       replace BK102 := Aside0.mk (hi.1)
       (try clear hb)
       (try clear hb2)
       (try clear hk)
       (try clear hi)
       refine hK.out _ _ ⟨(blk_cell BK106.out 0).trans rfl, (blk_cell BK106.out 1).trans rfl, (blk_cell BK106.out 2).trans rfl, (blk_cell BK106.out 3).trans rfl, (blk_cell BK106.out 4).trans rfl, (blk_cell BK106.out 5).trans rfl, (blk_cell BK106.out 6).trans rfl, (blk_cell BK106.out 7).trans rfl, (blk_cell BK106.out 8).trans rfl, (blk_cell BK106.out 9).trans rfl, (blk_cell BK106.out 10).trans rfl⟩ (fun hHeld => ?_)
       clear hK K
       refine norm_ (a' := ?_) ?_ ?_
       rotate_left
       ·show Act.put _ (some 27) _ = _
        simp only [Act.put, List.setIfInBounds_toArray, List.set_cons_zero, List.set_cons_succ, i64_w, i32_w]
        rfl
       refine one_ (i := 4) (N := some 28) (bs 8 31) rfl rfl (one_of HT_.out (by kernel_rfl)) (by decide) (fun K hK => ?_)
       refine value_ (w1 := ?_) (v := ?_) (by rfl) rfl ?_ ?_
       rotate_left 2
       ·go_simp
        constructor
        ·rfl
        ·rfl
       refine hK.out _ _ ⟨(blk_cell (blk_alloc BK106.out _) 0).trans rfl, (blk_cell (blk_alloc BK106.out _) 1).trans rfl, (blk_cell (blk_alloc BK106.out _) 2).trans rfl, (blk_cell (blk_alloc BK106.out _) 3).trans rfl, (blk_cell (blk_alloc BK106.out _) 4).trans rfl, (blk_cell (blk_alloc BK106.out _) 5).trans rfl, (blk_cell (blk_alloc BK106.out _) 6).trans rfl, (blk_cell (blk_alloc BK106.out _) 7).trans rfl, (blk_cell (blk_alloc BK106.out _) 8).trans rfl, (blk_cell (blk_alloc BK106.out _) 9).trans rfl, (blk_cell (blk_alloc BK106.out _) 10).trans rfl⟩ (fun hHeld => ?_)
       clear hK K
       refine norm_ (a' := ?_) ?_ ?_
       rotate_left
       ·show Act.put _ (some 28) _ = _
        simp only [Act.put, List.setIfInBounds_toArray, List.set_cons_zero, List.set_cons_succ, i64_w, i32_w]
        rfl
       refine one_ (i := 5) (N := some 29) (bs 8 63) rfl rfl (one_of HT_.out (by kernel_rfl)) (by decide) (fun K hK => ?_)
       refine Kd.R_append_step Kd.string (w0 := w) w.heap.size (by rfl) (.tmp 25) (.tmp 28) 22 9 (.string ⟨#[]⟩) 16 rfl Tryz.underlying22 info9 rfl (by decide) (by omega) u107001 x107001_1 t108 [.string t108] (fun _ => True) (fun _ => False) rfl rfl ?aP (fun _ hk => hk.elim) ?aF ?aO ?aB ?aS ?aL ?_
       (case aP => exact rfl)
       (case aB => exact (hs_))
       (case aF => exact (fun _ _ => trivial))
       (case aO => exact (rk_ HO_107001.out))
       (case aS => exact (below_size (hs_)))
       (case aL => have := LMc15.out; omega)
       intro v112 w21 ho hb hg hat
       rw [← Ny111.out] at ho
       have n0_ := Aside0.mk (blk_grown (g := gb101) (o := .cells #[.string (⟨#[]⟩ : ByteArray), .slice none 0 0, .string (⟨#[]⟩ : ByteArray), .string (⟨#[]⟩ : ByteArray), .int .i64 0, .int .i64 0, .string (⟨#[]⟩ : ByteArray), .string (⟨#[]⟩ : ByteArray), .int .i64 0, .int .i64 0, .string (⟨#[]⟩ : ByteArray)] 26 (0, 0)) (bk_ BK101.out) hg (Kd.R_ne HO_107001.out BK101.out (by decide)))
       have n1_ := Aside0.mk (blk_grown (g := gb102) (o := .cells #[.string t109, .int .i64 t110] 87 (0, 0)) (bk_ BK102.out) hg (Kd.R_ne HO_107001.out BK102.out (by decide)))
       have n2_ := Aside0.mk (blk_grown (g := gb106) (o := .cells #[.string t103, u107001, .string (⟨#[]⟩ : ByteArray), .string (⟨#[]⟩ : ByteArray), .int .i64 0, .int .i64 0, .string (⟨#[]⟩ : ByteArray), .string (⟨#[]⟩ : ByteArray), .int .i64 0, .int .i64 0, .string (⟨#[]⟩ : ByteArray)] 26 (0, 0)) (bk_ BK106.out) hg (Kd.R_ne HO_107001.out BK106.out (by decide)))
       have n3_ := Aside0.mk (hb)
       have n4_ := Aside0.mk (ho)
       clear BK101
       clear BK102
       clear BK106
       clear HB
       clear HO_107001
       have BK101 := n0_
       have BK102 := n1_
       have BK106 := n2_
       have HB := n3_
       have HO113 := n4_
       clear n0_ n1_ n2_ n3_ n4_
       clear ho hb hg hat
       obtain ⟨Ao22, co22, eo22⟩ := Kd.R_slice HO113.out
       (first | subst eo22 | (injection eo22 with f1_ f2_ f3_; have f4_ := f1_.symm; have f5_ := f3_.symm; clear f1_ f2_ f3_; subst f4_; subst f5_))
       refine hK.out _ _ ⟨(blk_cell BK106.out 0).trans rfl, (blk_cell BK106.out 1).trans rfl, (blk_cell BK106.out 2).trans rfl, (blk_cell BK106.out 3).trans rfl, (blk_cell BK106.out 4).trans rfl, (blk_cell BK106.out 5).trans rfl, (blk_cell BK106.out 6).trans rfl, (blk_cell BK106.out 7).trans rfl, (blk_cell BK106.out 8).trans rfl, (blk_cell BK106.out 9).trans rfl, (blk_cell BK106.out 10).trans rfl⟩ (fun hHeld => ?_)
       clear hK K
       refine norm_ (a' := ?_) ?_ ?_
       rotate_left
       ·show Act.put _ (some 29) _ = _
        simp only [Act.put, List.setIfInBounds_toArray, List.set_cons_zero, List.set_cons_succ, i64_w, i32_w]
        rfl
       refine pu_ (i := 6) (N := some 30) (bs 8 127) rfl rfl ?_
       refine last_ (i := 7) (N := none) (bs 8 255) rfl rfl (one_of HT_.out (by kernel_rfl)) (by decide) (fun K hK => ?_)
       have hs23 : w21.cell? ⟨gb106, 1, none⟩ = some (u107001) := (blk_cell BK106.out 1).trans rfl
       have hfs23 := blk_frozen BK106.out 1
       have hns23_0 := NB101_106.out
       have hns23_1 := NB102_106.out
       have hms23_0 := NB106_101.out
       have hms23_1 := NB106_102.out
       refine skip_ (w1 := ?_) (by rfl) rfl ?_ ?_
       rotate_left
       ·go_simp
        rfl
       refine hK.out _ _ ?_
       clear hK K
       refine done_ (done_of HT_.out (by kernel_rfl)) ?_
       try go_wp2
       go_roundg k1
       case measure => have := HK1.out; omega
       case rel => exact ⟨(t109), (t110), (y111), (.slice Ao22 y111.length co22), H', ⟨by have := HK1.out; omega⟩, ⟨by (with_reducible repeat (first | apply Kd.R_alloc | apply Kd.R_drewN | apply Kd.R_drew)); exact Kd.R_mono (Kd.R_far (p := ⟨gb106, 1, none⟩) (Kd.R_types HO113.out BK106.out (by decide)) (fun _ hk => hk.2) (.slice Ao22 y111.length co22)) (fun _ hk => trivial)⟩, ⟨by have b_ := BK101; have f_ := NB101_106; exact zb_⟩, ⟨by have b_ := BK102; have f_ := NB102_106; exact zb_⟩, ⟨by have b_ := BK106; exact zb_⟩, ⟨hs_⟩⟩
      ·rw [if_neg c15] at H
       exact absurd H (by simp)
     ·replace c13 := Bool.eq_false_iff.mpr c13
      subst c13
      have H1 : (commit_Parse.j1 k1 x103000_1 x103001_1 t103 x107001_1 (⟨#[]⟩ : ByteArray) (⟨#[]⟩ : ByteArray) 0 0 (⟨#[]⟩ : ByteArray) (⟨#[]⟩ : ByteArray) 0 0 (⟨#[]⟩ : ByteArray)) = some (r1, r2, r3, r4, r5, r6, r7, r8, r9, r10, r11, r12) := by rw [if_neg (show ¬ (false = true) by decide)] at H; exact H
      clear H
      have H := H1
      clear H1
      have H' := Aside0.mk H
      clear H
      have hnb24 := NB102_101.out
      have hnc24 := NB101_102.out
      have hnb25 := NB102_106.out
      have hnc25 := NB106_102.out
      obtain ⟨hcz26_0, hcz26_1, hfz26_0, hfz26_1⟩ := bc2 BK102.out
      go_wp2_with (first | (go_at_call 71; (with_reducible refine (strings_HasPrefix.calls x103000_1 (⟨#[112, 97, 114, 101, 110, 116, 32]⟩ : ByteArray) false _ A12.out).mono ?_); rintro e w' ⟨rfl, ⟨nd, rfl⟩⟩))
      go_meet
      case rel => exact ⟨_, (x103000_1), (x103001_1), (x107001_1), (u107001), H', ⟨by have := HK1.out; first | omega | exact Nat.le_refl _⟩, ⟨z32_⟩, ⟨bk_ BK101.out⟩, ⟨bk_ BK102.out⟩, ⟨bk_ BK106.out⟩, ⟨hs_⟩⟩
    ·rw [if_neg c11] at H
     have c11b0 := beq_eq_false_iff_ne.mpr c11
     have c11b1 := bne_iff_ne.mpr c11
     (first | rw [c11b0] | (simp only [i64_w, i32_w]; rw [c11b0]) | skip)
     (try rw [c11b8])
     have H' := Aside0.mk H
     clear H
     have hnb27 := NB102_101.out
     have hnc27 := NB101_102.out
     have hnb28 := NB102_106.out
     have hnc28 := NB106_102.out
     obtain ⟨hcz29_0, hcz29_1, hfz29_0, hfz29_1⟩ := bc2 BK102.out
     go_wp2
     go_meet
     case rel => exact ⟨_, (x103000_1), (x103001_1), (x107001_1), (u107001), H', ⟨by have := HK1.out; first | omega | exact Nat.le_refl _⟩, ⟨z32_⟩, ⟨bk_ BK101.out⟩, ⟨bk_ BK102.out⟩, ⟨bk_ BK106.out⟩, ⟨hs_⟩⟩
 case rest =>
  clear HC3
  try clear c1
  try clear c2
  try clear p2
  try clear c7
  try clear c8
  try clear c9
  try clear c11
  try clear c11b0
  try clear c11b1
  try clear c13
  try clear c15
  try clear c16
  try clear c17
  try clear c20
  try clear c24
  try clear c25
  try clear c27
  try clear c28
  try clear hcz10_0 hcz10_1 hcz10_10 hcz10_2 hcz10_3 hcz10_4 hcz10_5 hcz10_6 hcz10_7 hcz10_8 hcz10_9
  try clear hcz18_0 hcz18_1
  try clear hcz26_0 hcz26_1
  try clear hcz29_0 hcz29_1
  try clear hfz10_0 hfz10_1 hfz10_10 hfz10_2 hfz10_3 hfz10_4 hfz10_5 hfz10_6 hfz10_7 hfz10_8 hfz10_9
  try clear hfz18_0 hfz18_1
  try clear hfz26_0 hfz26_1
  try clear hfz29_0 hfz29_1
  try clear p2
  obtain ⟨kq, x103000_2, x103001_2, x107001_2, u107001, HA, HJ2, HO_107001, BK101, BK102, BK106, HB⟩ := hcut
  cases kq with
  | zero => exact absurd HA.out (by simp [commit_Parse.j1])
  | succ kj2 =>
   have H := HA.out
   clear HA
   simp only [commit_Parse.j1] at H
   replace H := Option.bind_eq_some_iff.mp H
   obtain ⟨⟨t114, t115, t116, t117, t118, t119⟩, A300, H⟩ := H
   replace H : ((commit_reader_who.f kj2 t118 t119 (⟨#[99, 111, 109, 109, 105, 116, 116, 101, 114, 32]⟩ : ByteArray)).bind fun bt120 => ((commit_reader_line.f bt120.2.2.2.2.1 bt120.2.2.2.2.2 (⟨#[]⟩ : ByteArray)).bind fun bt126 => (if bt126.1.toList = ([] : List UInt8) then (commit_Parse.j2 kj2 bt126.2.1 bt126.2.2 t103 x107001_2 t114 t115 t116 t117 bt120.1 bt120.2.1 bt120.2.2.1 bt120.2.2.2.1 (⟨#[]⟩ : ByteArray)) else ((commit_reader_fail.f bt126.2.1 bt126.2.2 2).bind fun bt129 => (commit_Parse.j2 kj2 bt129.1 bt129.2 t103 x107001_2 t114 t115 t116 t117 bt120.1 bt120.2.1 bt120.2.2.1 bt120.2.2.2.1 (⟨#[]⟩ : ByteArray)))))) = some (r1, r2, r3, r4, r5, r6, r7, r8, r9, r10, r11, r12) := H
   have A30 := Aside0.mk A300
   clear A300
   replace H := Option.bind_eq_some_iff.mp H
   obtain ⟨⟨t120, t121, t122, t123, t124, t125⟩, A310, H⟩ := H
   replace H : ((commit_reader_line.f t124 t125 (⟨#[]⟩ : ByteArray)).bind fun bt126 => (if bt126.1.toList = ([] : List UInt8) then (commit_Parse.j2 kj2 bt126.2.1 bt126.2.2 t103 x107001_2 t114 t115 t116 t117 t120 t121 t122 t123 (⟨#[]⟩ : ByteArray)) else ((commit_reader_fail.f bt126.2.1 bt126.2.2 2).bind fun bt129 => (commit_Parse.j2 kj2 bt129.1 bt129.2 t103 x107001_2 t114 t115 t116 t117 t120 t121 t122 t123 (⟨#[]⟩ : ByteArray))))) = some (r1, r2, r3, r4, r5, r6, r7, r8, r9, r10, r11, r12) := H
   have A31 := Aside0.mk A310
   clear A310
   replace H := Option.bind_eq_some_iff.mp H
   obtain ⟨⟨t126, t127, t128⟩, A320, H⟩ := H
   replace H : (if t126.toList = ([] : List UInt8) then (commit_Parse.j2 kj2 t127 t128 t103 x107001_2 t114 t115 t116 t117 t120 t121 t122 t123 (⟨#[]⟩ : ByteArray)) else ((commit_reader_fail.f t127 t128 2).bind fun bt129 => (commit_Parse.j2 kj2 bt129.1 bt129.2 t103 x107001_2 t114 t115 t116 t117 t120 t121 t122 t123 (⟨#[]⟩ : ByteArray)))) = some (r1, r2, r3, r4, r5, r6, r7, r8, r9, r10, r11, r12) := H
   have A32 := Aside0.mk A320
   clear A320
   have HC33 := Aside0.mk H
   clear H
   go_upto_if 39 with (first | ((with_reducible refine gate_callee (f := 72) rfl ?_); refine goesL_ (some 32) rfl rfl Tryz.func72 (by kernel_rfl) rfl #[.pointer (some ⟨gb102, 0, none⟩), .string (⟨#[97, 117, 116, 104, 111, 114, 32]⟩ : ByteArray)] rfl z2_ ?_; (with_reducible refine (commit_reader_who.calls kj2 gb102 x103000_2 x103001_2 (⟨#[97, 117, 116, 104, 111, 114, 32]⟩ : ByteArray) t114 t115 t116 t117 t118 t119 w _ ?side1 ?side2 ?side3 A30.out).mono ?_); (case side1 => exact (show IsS87 w _ gb102 x103000_2 x103001_2 from ⟨(bk_ BK102.out), GE102.out⟩)); (case side2 => repeat (first | (with_reducible first | exact HB.out | apply below_alloc | apply pw_below_drewN | apply below_drew1 | refine below_set ?_ (IsS87.ge HI102.out) | refine below_set ?_ GE101.out | refine below_set ?_ GE106.out) | exact HB.out)); (case side3 => exact hgv); rintro e w34 ⟨rfl, hi, hb, hk⟩; refine ⟨_, rfl, ?_⟩; replace HO_107001 := Aside0.mk (Kd.R_mono (Kd.R_keep (IsS87.apart (show IsS87 w _ gb102 x103000_2 x103001_2 from by exact (show IsS87 w _ gb102 x103000_2 x103001_2 from ⟨(bk_ BK102.out), GE102.out⟩)) (rk_ HO_107001.out) (by decide)) hk (fun _ h => h.2)) (fun _ h => h.1)); replace BK101 := Aside0.mk (KeepBut.blk hk (g' := gb101) (o := .cells #[.string (⟨#[]⟩ : ByteArray), .slice none 0 0, .string (⟨#[]⟩ : ByteArray), .string (⟨#[]⟩ : ByteArray), .int .i64 0, .int .i64 0, .string (⟨#[]⟩ : ByteArray), .string (⟨#[]⟩ : ByteArray), .int .i64 0, .int .i64 0, .string (⟨#[]⟩ : ByteArray)] 26 (0, 0)) (bk_ BK101.out) NB101_102.out (by simp)); replace BK106 := Aside0.mk (KeepBut.blk hk (g' := gb106) (o := .cells #[.string t103, u107001, .string (⟨#[]⟩ : ByteArray), .string (⟨#[]⟩ : ByteArray), .int .i64 0, .int .i64 0, .string (⟨#[]⟩ : ByteArray), .string (⟨#[]⟩ : ByteArray), .int .i64 0, .int .i64 0, .string (⟨#[]⟩ : ByteArray)] 26 (0, 0)) (bk_ BK106.out) NB106_102.out (by simp)); replace HB := Aside0.mk (hb); replace BK102 := Aside0.mk (hi.1); (try clear hb); (try clear hb2); (try clear hk); (try clear hi)) | ((with_reducible refine gate_callee (f := 72) rfl ?_); refine goesL_ (some 34) rfl rfl Tryz.func72 (by kernel_rfl) rfl #[.pointer (some ⟨gb102, 0, none⟩), .string (⟨#[99, 111, 109, 109, 105, 116, 116, 101, 114, 32]⟩ : ByteArray)] rfl z2_ ?_; (with_reducible refine (commit_reader_who.calls kj2 gb102 t118 t119 (⟨#[99, 111, 109, 109, 105, 116, 116, 101, 114, 32]⟩ : ByteArray) t120 t121 t122 t123 t124 t125 w _ ?side1 ?side2 ?side3 A31.out).mono ?_); (case side1 => exact (show IsS87 w _ gb102 t118 t119 from ⟨(bk_ BK102.out), GE102.out⟩)); (case side2 => repeat (first | (with_reducible first | exact HB.out | apply below_alloc | apply pw_below_drewN | apply below_drew1 | refine below_set ?_ (IsS87.ge HI102.out) | refine below_set ?_ GE101.out | refine below_set ?_ GE106.out) | exact HB.out)); (case side3 => exact hgv); rintro e w35 ⟨rfl, hi, hb, hk⟩; refine ⟨_, rfl, ?_⟩; replace HO_107001 := Aside0.mk (Kd.R_mono (Kd.R_keep (IsS87.apart (show IsS87 w _ gb102 t118 t119 from by exact (show IsS87 w _ gb102 t118 t119 from ⟨(bk_ BK102.out), GE102.out⟩)) (rk_ HO_107001.out) (by decide)) hk (fun _ h => h.2)) (fun _ h => h.1)); replace BK101 := Aside0.mk (KeepBut.blk hk (g' := gb101) (o := .cells #[.string (⟨#[]⟩ : ByteArray), .slice none 0 0, .string (⟨#[]⟩ : ByteArray), .string (⟨#[]⟩ : ByteArray), .int .i64 0, .int .i64 0, .string (⟨#[]⟩ : ByteArray), .string (⟨#[]⟩ : ByteArray), .int .i64 0, .int .i64 0, .string (⟨#[]⟩ : ByteArray)] 26 (0, 0)) (bk_ BK101.out) NB101_102.out (by simp)); replace BK106 := Aside0.mk (KeepBut.blk hk (g' := gb106) (o := .cells #[.string t103, u107001, .string (⟨#[]⟩ : ByteArray), .string (⟨#[]⟩ : ByteArray), .int .i64 0, .int .i64 0, .string (⟨#[]⟩ : ByteArray), .string (⟨#[]⟩ : ByteArray), .int .i64 0, .int .i64 0, .string (⟨#[]⟩ : ByteArray)] 26 (0, 0)) (bk_ BK106.out) NB106_102.out (by simp)); replace HB := Aside0.mk (hb); replace BK102 := Aside0.mk (hi.1); (try clear hb); (try clear hb2); (try clear hk); (try clear hi); have hnb36 := NB106_101.out; have hnc36 := NB101_106.out; have hnb37 := NB106_102.out; have hnc37 := NB102_106.out; obtain ⟨hcz38_0, hcz38_1, hcz38_2, hcz38_3, hcz38_4, hcz38_5, hcz38_6, hcz38_7, hcz38_8, hcz38_9, hcz38_10, hfz38_0, hfz38_1, hfz38_2, hfz38_3, hfz38_4, hfz38_5, hfz38_6, hfz38_7, hfz38_8, hfz38_9, hfz38_10⟩ := bc11 BK106.out) | ((with_reducible refine gate_callee (f := 73) rfl ?_); refine goesL_ (some 38) rfl rfl Tryz.func73 (by kernel_rfl) rfl #[.pointer (some ⟨gb102, 0, none⟩), .string (⟨#[]⟩ : ByteArray)] rfl z2_ ?_; (with_reducible refine (commit_reader_line.calls gb102 t124 t125 (⟨#[]⟩ : ByteArray) t126 t127 t128 w _ ?side1 ?side2 ?side3 A32.out).mono ?_); (case side1 => exact (show IsS87 w _ gb102 t124 t125 from ⟨(by have b_ := BK102; have f_ := NB102_106; exact zb_), GE102.out⟩)); (case side2 => repeat (first | (with_reducible first | exact HB.out | apply below_alloc | apply pw_below_drewN | apply below_drew1 | refine below_set ?_ (IsS87.ge HI102.out) | refine below_set ?_ GE101.out | refine below_set ?_ GE106.out) | exact HB.out)); (case side3 => exact hgv); rintro e w39 ⟨rfl, hi, hb, hk⟩; refine ⟨_, rfl, ?_⟩; replace HO_107001 := Aside0.mk (Kd.R_mono (Kd.R_keep (IsS87.apart (show IsS87 w _ gb102 t124 t125 from by exact (show IsS87 w _ gb102 t124 t125 from ⟨(by have b_ := BK102; have f_ := NB102_106; exact zb_), GE102.out⟩)) (by (with_reducible repeat (first | apply Kd.R_alloc | apply Kd.R_drewN | apply Kd.R_drew)); exact (Kd.R_mono (Kd.R_far (p := ⟨gb106, 9, none⟩) (Kd.R_far (p := ⟨gb106, 8, none⟩) (Kd.R_far (p := ⟨gb106, 7, none⟩) (Kd.R_far (p := ⟨gb106, 6, none⟩) (Kd.R_far (p := ⟨gb106, 5, none⟩) (Kd.R_far (p := ⟨gb106, 4, none⟩) (Kd.R_far (p := ⟨gb106, 3, none⟩) (Kd.R_far (p := ⟨gb106, 2, none⟩) (Kd.R_types HO_107001.out BK106.out (by decide)) (fun _ hk => hk.2) (.string t114)) (fun _ hk => hk.2) (.string t115)) (fun _ hk => hk.2) (.int .i64 t116)) (fun _ hk => hk.2) (.int .i64 t117)) (fun _ hk => hk.2) (.string t120)) (fun _ hk => hk.2) (.string t121)) (fun _ hk => hk.2) (.int .i64 t122)) (fun _ hk => hk.2) (.int .i64 t123)) (fun _ h_ => h_.1))) (by decide)) hk (fun _ h => h.2)) (fun _ h => h.1)); replace BK101 := Aside0.mk (KeepBut.blk hk (g' := gb101) (o := .cells #[.string (⟨#[]⟩ : ByteArray), .slice none 0 0, .string (⟨#[]⟩ : ByteArray), .string (⟨#[]⟩ : ByteArray), .int .i64 0, .int .i64 0, .string (⟨#[]⟩ : ByteArray), .string (⟨#[]⟩ : ByteArray), .int .i64 0, .int .i64 0, .string (⟨#[]⟩ : ByteArray)] 26 (0, 0)) (by have b_ := BK101; have f_ := NB101_106; exact zb_) NB101_102.out (by simp)); replace BK106 := Aside0.mk (KeepBut.blk hk (g' := gb106) (o := .cells #[.string t103, u107001, .string t114, .string t115, .int .i64 t116, .int .i64 t117, .string t120, .string t121, .int .i64 t122, .int .i64 t123, .string (⟨#[]⟩ : ByteArray)] 26 (0, 0)) (by have b_ := BK106; exact zb_) NB106_102.out (by simp)); replace HB := Aside0.mk (hb); replace BK102 := Aside0.mk (hi.1); (try clear hb); (try clear hb2); (try clear hk); (try clear hi)))
   (try simp only [Act.put, List.setIfInBounds_toArray, List.set_cons_zero, List.set_cons_succ])
   go_cut [] (fun wc => ∃ (kq : Nat) (x103000_32 : ByteArray) (x103001_32 : Int), Aside0 (commit_Parse.j2 kq x103000_32 x103001_32 t103 x107001_2 t114 t115 t116 t117 t120 t121 t122 t123 (⟨#[]⟩ : ByteArray) = some (r1, r2, r3, r4, r5, r6, r7, r8, r9, r10, r11, r12)) ∧ Aside0 (kq ≤ kj2) ∧ Aside0 (Kd.R Kd.string 9 wc w.heap.size (fun _ => True) u107001 x107001_2) ∧ Aside0 (wc.heap[gb101]? = some (.cells #[.string (⟨#[]⟩ : ByteArray), (.slice none 0 0), .string (⟨#[]⟩ : ByteArray), .string (⟨#[]⟩ : ByteArray), .int .i64 0, .int .i64 0, .string (⟨#[]⟩ : ByteArray), .string (⟨#[]⟩ : ByteArray), .int .i64 0, .int .i64 0, .string (⟨#[]⟩ : ByteArray)] 26 (0, 0))) ∧ Aside0 (wc.heap[gb102]? = some (.cells #[.string x103000_32, .int .i64 x103001_32] 87 (0, 0))) ∧ Aside0 (wc.heap[gb106]? = some (.cells #[.string t103, u107001, .string t114, .string t115, .int .i64 t116, .int .i64 t117, .string t120, .string t121, .int .i64 t122, .int .i64 t123, .string (⟨#[]⟩ : ByteArray)] 26 (0, 0))) ∧ Aside0 (Below w.heap.size w wc))
   case first =>
    have H := HC33.out
    clear HC33
    by_cases c40 : t126.toList = ([] : List UInt8)
    ·rw [if_pos c40] at H
     have c40b0 := beq_iff_eq.mpr c40
     have c40b1 := bne_eq_false_iff_eq.mpr c40
     (try (have c40b8 : (!t126.toList.isEmpty) = false := (by have h_ := c40b1; rw [ne_nil_bool] at h_; exact h_)))
     (try (have c40b9 : t126.toList.isEmpty = true := (by have h_ := c40b1; rw [ne_nil_bool] at h_; simpa using h_)))
     clear c40
     (first | rw [c40b0] | (simp only [i64_w, i32_w]; rw [c40b0]) | skip)
     (try rw [c40b8])
     have H' := Aside0.mk H
     clear H
     go_wp2
     go_meet
     case rel => exact ⟨_, (t127), (t128), H', ⟨by have := HJ2.out; first | omega | exact Nat.le_refl _⟩, ⟨z32_⟩, ⟨bk_ BK101.out⟩, ⟨bk_ BK102.out⟩, ⟨bk_ BK106.out⟩, ⟨hs_⟩⟩
    ·rw [if_neg c40] at H
     have c40b0 := beq_eq_false_iff_ne.mpr c40
     have c40b1 := bne_iff_ne.mpr c40
     (try (have c40b8 : (!t126.toList.isEmpty) = true := (by have h_ := c40b1; rw [ne_nil_bool] at h_; exact h_)))
     (try (have c40b9 : t126.toList.isEmpty = false := (by have h_ := c40b1; rw [ne_nil_bool] at h_; simpa using h_)))
     (first | rw [c40b0] | (simp only [i64_w, i32_w]; rw [c40b0]) | skip)
     (try rw [c40b8])
     replace H := Option.bind_eq_some_iff.mp H
     obtain ⟨⟨t129, t130⟩, A410, H⟩ := H
     replace H : (commit_Parse.j2 kj2 t129 t130 t103 x107001_2 t114 t115 t116 t117 t120 t121 t122 t123 (⟨#[]⟩ : ByteArray)) = some (r1, r2, r3, r4, r5, r6, r7, r8, r9, r10, r11, r12) := H
     have A41 := Aside0.mk A410
     clear A410
     have H' := Aside0.mk H
     clear H
     go_wp2_with (first | ((with_reducible refine gate_callee (f := 74) rfl ?_); refine goesL_ (some 41) rfl rfl Tryz.func74 (by kernel_rfl) rfl #[.pointer (some ⟨gb102, 0, none⟩), .int .i64 2] rfl z2_ ?_; (with_reducible refine (commit_reader_fail.calls gb102 t127 t128 2 t129 t130 w _ ?side1 ?side2 A41.out).mono ?_); (case side1 => exact (show IsS87 w _ gb102 t127 t128 from ⟨(bk_ BK102.out), GE102.out⟩)); (case side2 => repeat (first | (with_reducible first | exact HB.out | apply below_alloc | apply pw_below_drewN | apply below_drew1 | refine below_set ?_ (IsS87.ge HI102.out) | refine below_set ?_ GE101.out | refine below_set ?_ GE106.out) | exact HB.out)); rintro e w42 ⟨rfl, hi, hb, hk⟩; refine ⟨_, rfl, ?_⟩; replace HO_107001 := Aside0.mk (Kd.R_mono (Kd.R_keep (IsS87.apart (show IsS87 w _ gb102 t127 t128 from by exact (show IsS87 w _ gb102 t127 t128 from ⟨(bk_ BK102.out), GE102.out⟩)) (rk_ HO_107001.out) (by decide)) hk (fun _ h => h.2)) (fun _ h => h.1)); replace BK101 := Aside0.mk (KeepBut.blk hk (g' := gb101) (o := .cells #[.string (⟨#[]⟩ : ByteArray), .slice none 0 0, .string (⟨#[]⟩ : ByteArray), .string (⟨#[]⟩ : ByteArray), .int .i64 0, .int .i64 0, .string (⟨#[]⟩ : ByteArray), .string (⟨#[]⟩ : ByteArray), .int .i64 0, .int .i64 0, .string (⟨#[]⟩ : ByteArray)] 26 (0, 0)) (bk_ BK101.out) NB101_102.out (by simp)); replace BK106 := Aside0.mk (KeepBut.blk hk (g' := gb106) (o := .cells #[.string t103, u107001, .string t114, .string t115, .int .i64 t116, .int .i64 t117, .string t120, .string t121, .int .i64 t122, .int .i64 t123, .string (⟨#[]⟩ : ByteArray)] 26 (0, 0)) (bk_ BK106.out) NB106_102.out (by simp)); replace HB := Aside0.mk (hb); replace BK102 := Aside0.mk (hi.1); (try clear hb); (try clear hb2); (try clear hk); (try clear hi)))
     go_meet
     case rel => exact ⟨_, (t129), (t130), H', ⟨by have := HJ2.out; first | omega | exact Nat.le_refl _⟩, ⟨z32_⟩, ⟨bk_ BK101.out⟩, ⟨bk_ BK102.out⟩, ⟨bk_ BK106.out⟩, ⟨hs_⟩⟩
   case rest =>
    clear HC33
    try clear c1
    try clear c2
    try clear p2
    try clear c3
    try clear c4
    try clear c7
    try clear c8
    try clear c9
    try clear c11
    try clear c11b0
    try clear c11b1
    try clear c13
    try clear c15
    try clear c16
    try clear c17
    try clear c20
    try clear c24
    try clear c25
    try clear c27
    try clear c28
    try clear c36
    try clear c37
    try clear c40
    try clear c40b0
    try clear c40b1
    try clear hcz10_0 hcz10_1 hcz10_10 hcz10_2 hcz10_3 hcz10_4 hcz10_5 hcz10_6 hcz10_7 hcz10_8 hcz10_9
    try clear hcz18_0 hcz18_1
    try clear hcz26_0 hcz26_1
    try clear hcz29_0 hcz29_1
    try clear hcz38_0 hcz38_1 hcz38_10 hcz38_2 hcz38_3 hcz38_4 hcz38_5 hcz38_6 hcz38_7 hcz38_8 hcz38_9
    try clear hfz10_0 hfz10_1 hfz10_10 hfz10_2 hfz10_3 hfz10_4 hfz10_5 hfz10_6 hfz10_7 hfz10_8 hfz10_9
    try clear hfz18_0 hfz18_1
    try clear hfz26_0 hfz26_1
    try clear hfz29_0 hfz29_1
    try clear hfz38_0 hfz38_1 hfz38_10 hfz38_2 hfz38_3 hfz38_4 hfz38_5 hfz38_6 hfz38_7 hfz38_8 hfz38_9
    try clear p2
    obtain ⟨kq, x103000_32, x103001_32, HA, HJ32, HO_107001, BK101, BK102, BK106, HB⟩ := hcut
    cases kq with
    | zero => exact absurd HA.out (by simp [commit_Parse.j2])
    | succ kj32 =>
     have H := HA.out
     clear HA
     simp only [commit_Parse.j2] at H
     by_cases c43 : x103001_32 = 0
     ·rw [if_pos c43] at H
      have c43b0 := beq_iff_eq.mpr c43
      have c43b1 := bne_eq_false_iff_eq.mpr c43
      clear c43
      replace H := Option.bind_eq_some_iff.mp H
      obtain ⟨t131, A440, H⟩ := H
      have A44 := Aside0.mk A440
      clear A440
      by_cases c45 : t131 = 0
      ·rw [if_pos c45] at H
       have c45b0 := beq_iff_eq.mpr c45
       have c45b1 := bne_eq_false_iff_eq.mpr c45
       clear c45
       simp only [Option.some.injEq, Prod.mk.injEq] at H
       obtain ⟨rfl, rfl, rfl, rfl, rfl, rfl, rfl, rfl, rfl, rfl, rfl, rfl⟩ := H
       have hnb46 := NB102_101.out
       have hnc46 := NB101_102.out
       have hnb47 := NB102_106.out
       have hnc47 := NB106_102.out
       obtain ⟨hcz48_0, hcz48_1, hfz48_0, hfz48_1⟩ := bc2 BK102.out
       have hnb49 := NB106_101.out
       have hnc49 := NB101_106.out
       obtain ⟨hcz50_0, hcz50_1, hcz50_2, hcz50_3, hcz50_4, hcz50_5, hcz50_6, hcz50_7, hcz50_8, hcz50_9, hcz50_10, hfz50_0, hfz50_1, hfz50_2, hfz50_3, hfz50_4, hfz50_5, hfz50_6, hfz50_7, hfz50_8, hfz50_9, hfz50_10⟩ := bc11 BK106.out
       obtain ⟨Ao51, co51, eo51⟩ := Kd.R_slice HO_107001.out
       subst eo51
       go_wp2_with (first | ((with_reducible refine gate_callee (f := 18) rfl ?_); refine goesL_ (some 54) rfl rfl Tryz.func18 (by kernel_rfl) rfl #[.agg #[.string t103, .slice Ao51 x107001_2.length co51, .string t114, .string t115, .int .i64 t116, .int .i64 t117, .string t120, .string t121, .int .i64 t122, .int .i64 t123, .string x103000_32]] rfl z2_ ?_; (with_reducible refine (commit_Check.calls kj32 t103 _ _ x107001_2 t114 t115 t116 t117 t120 t121 t122 t123 x103000_32 t131 _ ?side1 ?side2 ?side3 A44.out).mono ?_); (case side1 => refine (Kd.R_reads' (e := 9) (base := w.heap.size) (ok := fun k_ => True) (n := x107001_2.length) (c := co51) ?_).2.2; exact (by (with_reducible repeat (first | apply Kd.R_alloc | apply Kd.R_drewN | apply Kd.R_drew)); exact (Kd.R_mono (Kd.R_far (p := ⟨gb106, 10, none⟩) (Kd.R_types HO_107001.out BK106.out (by decide)) (fun _ hk => hk.2) (.string x103000_32)) (fun _ h_ => h_.1)))); (case side2 => exact (Kd.R_reads' HO_107001.out).2.1); (case side3 => exact GV.below hgv (hs_)); rintro e w52 ⟨rfl, hb⟩; refine ⟨_, rfl, ?_⟩; replace HO_107001 := Aside0.mk (Kd.R_below (by (with_reducible repeat (first | apply Kd.R_alloc | apply Kd.R_drewN | apply Kd.R_drew)); exact (Kd.R_mono (Kd.R_far (p := ⟨gb106, 10, none⟩) (Kd.R_types HO_107001.out BK106.out (by decide)) (fun _ hk => hk.2) (.string x103000_32)) (fun _ h_ => h_.1))) hb); replace BK101 := Aside0.mk (blk_below (g := gb101) (o := .cells #[.string (⟨#[]⟩ : ByteArray), .slice none 0 0, .string (⟨#[]⟩ : ByteArray), .string (⟨#[]⟩ : ByteArray), .int .i64 0, .int .i64 0, .string (⟨#[]⟩ : ByteArray), .string (⟨#[]⟩ : ByteArray), .int .i64 0, .int .i64 0, .string (⟨#[]⟩ : ByteArray)] 26 (0, 0)) (by have b_ := BK101; have f_ := NB101_106; exact zb_) hb); replace BK102 := Aside0.mk (blk_below (g := gb102) (o := .cells #[.string x103000_32, .int .i64 x103001_32] 87 (0, 0)) (by have b_ := BK102; have f_ := NB102_106; exact zb_) hb); replace BK106 := Aside0.mk (blk_below (g := gb106) (o := .cells #[.string t103, .slice Ao51 x107001_2.length co51, .string t114, .string t115, .int .i64 t116, .int .i64 t117, .string t120, .string t121, .int .i64 t122, .int .i64 t123, .string x103000_32] 26 (0, 0)) (by have b_ := BK106; exact zb_) hb); replace HB := Aside0.mk (below_step (hs_) hb); (try clear hb); (try clear hb2); (try clear hk); (try clear hi); obtain ⟨hcz53_0, hcz53_1, hfz53_0, hfz53_1⟩ := bc2 BK102.out; obtain ⟨hcz54_0, hcz54_1, hcz54_2, hcz54_3, hcz54_4, hcz54_5, hcz54_6, hcz54_7, hcz54_8, hcz54_9, hcz54_10, hfz54_0, hfz54_1, hfz54_2, hfz54_3, hfz54_4, hfz54_5, hfz54_6, hfz54_7, hfz54_8, hfz54_9, hfz54_10⟩ := bc11 BK106.out; obtain ⟨hcz55_0, hcz55_1, hcz55_2, hcz55_3, hcz55_4, hcz55_5, hcz55_6, hcz55_7, hcz55_8, hcz55_9, hcz55_10, hfz55_0, hfz55_1, hfz55_2, hfz55_3, hfz55_4, hfz55_5, hfz55_6, hfz55_7, hfz55_8, hfz55_9, hfz55_10⟩ := bc11 BK101.out))
       refine bodyPost_ret (results_ct rfl _ _ gb101 26 #[.string t103, .slice Ao51 x107001_2.length co51, .string t114, .string t115, .int .i64 t116, .int .i64 t117, .string t120, .string t121, .int .i64 t122, .int .i64 t123, .string x103000_32] (0, 0) _ rfl (by have b_ := BK101; have f_ := NB101_102; exact zb_) Tryz.underlying26 rfl (by kernel_rfl)) rfl ?_
       exact ⟨_, z4_, by (with_reducible repeat (first | apply Kd.R_alloc | apply Kd.R_drewN | apply Kd.R_drew)); exact Kd.R_mono (Kd.R_far (p := ⟨gb101, 10, none⟩) (Kd.R_far (p := ⟨gb101, 9, none⟩) (Kd.R_far (p := ⟨gb101, 8, none⟩) (Kd.R_far (p := ⟨gb101, 7, none⟩) (Kd.R_far (p := ⟨gb101, 6, none⟩) (Kd.R_far (p := ⟨gb101, 5, none⟩) (Kd.R_far (p := ⟨gb101, 4, none⟩) (Kd.R_far (p := ⟨gb101, 3, none⟩) (Kd.R_far (p := ⟨gb101, 2, none⟩) (Kd.R_far (p := ⟨gb101, 1, none⟩) (Kd.R_far (p := ⟨gb101, 0, none⟩) (Kd.R_far (p := ⟨gb102, 1, none⟩) (Kd.R_types (Kd.R_types HO_107001.out BK102.out (by decide)) BK101.out (by decide)) (fun _ hk => hk.1.2) (.int .i64 t131)) (fun _ hk => hk.2) (.string t103)) (fun _ hk => hk.2) (.slice Ao51 x107001_2.length co51)) (fun _ hk => hk.2) (.string t114)) (fun _ hk => hk.2) (.string t115)) (fun _ hk => hk.2) (.int .i64 t116)) (fun _ hk => hk.2) (.int .i64 t117)) (fun _ hk => hk.2) (.string t120)) (fun _ hk => hk.2) (.string t121)) (fun _ hk => hk.2) (.int .i64 t122)) (fun _ hk => hk.2) (.int .i64 t123)) (fun _ hk => hk.2) (.string x103000_32)) (fun _ hk => trivial), hs_⟩
      ·rw [if_neg c45] at H
       have c45b0 := beq_eq_false_iff_ne.mpr c45
       have c45b1 := bne_iff_ne.mpr c45
       simp only [Option.some.injEq, Prod.mk.injEq] at H
       obtain ⟨rfl, rfl, rfl, rfl, rfl, rfl, rfl, rfl, rfl, rfl, rfl, rfl⟩ := H
       have hnb56 := NB102_101.out
       have hnc56 := NB101_102.out
       have hnb57 := NB102_106.out
       have hnc57 := NB106_102.out
       obtain ⟨hcz58_0, hcz58_1, hfz58_0, hfz58_1⟩ := bc2 BK102.out
       have hnb59 := NB106_101.out
       have hnc59 := NB101_106.out
       obtain ⟨hcz60_0, hcz60_1, hcz60_2, hcz60_3, hcz60_4, hcz60_5, hcz60_6, hcz60_7, hcz60_8, hcz60_9, hcz60_10, hfz60_0, hfz60_1, hfz60_2, hfz60_3, hfz60_4, hfz60_5, hfz60_6, hfz60_7, hfz60_8, hfz60_9, hfz60_10⟩ := bc11 BK106.out
       obtain ⟨Ao61, co61, eo61⟩ := Kd.R_slice HO_107001.out
       subst eo61
       try go_wp2_with (first | ((with_reducible refine gate_callee (f := 18) rfl ?_); refine goesL_ (some 54) rfl rfl Tryz.func18 (by kernel_rfl) rfl #[.agg #[.string t103, .slice Ao61 x107001_2.length co61, .string t114, .string t115, .int .i64 t116, .int .i64 t117, .string t120, .string t121, .int .i64 t122, .int .i64 t123, .string x103000_32]] rfl z2_ ?_; (with_reducible refine (commit_Check.calls kj32 t103 _ _ x107001_2 t114 t115 t116 t117 t120 t121 t122 t123 x103000_32 t131 _ ?side1 ?side2 ?side3 A44.out).mono ?_); (case side1 => refine (Kd.R_reads' (e := 9) (base := w.heap.size) (ok := fun k_ => True) (n := x107001_2.length) (c := co61) ?_).2.2; exact (by (with_reducible repeat (first | apply Kd.R_alloc | apply Kd.R_drewN | apply Kd.R_drew)); exact (Kd.R_mono (Kd.R_far (p := ⟨gb106, 10, none⟩) (Kd.R_types HO_107001.out BK106.out (by decide)) (fun _ hk => hk.2) (.string x103000_32)) (fun _ h_ => h_.1)))); (case side2 => exact (Kd.R_reads' HO_107001.out).2.1); (case side3 => exact GV.below hgv (hs_)); rintro e w62 ⟨rfl, hb⟩; refine ⟨_, rfl, ?_⟩; replace HO_107001 := Aside0.mk (Kd.R_below (by (with_reducible repeat (first | apply Kd.R_alloc | apply Kd.R_drewN | apply Kd.R_drew)); exact (Kd.R_mono (Kd.R_far (p := ⟨gb106, 10, none⟩) (Kd.R_types HO_107001.out BK106.out (by decide)) (fun _ hk => hk.2) (.string x103000_32)) (fun _ h_ => h_.1))) hb); replace BK101 := Aside0.mk (blk_below (g := gb101) (o := .cells #[.string (⟨#[]⟩ : ByteArray), .slice none 0 0, .string (⟨#[]⟩ : ByteArray), .string (⟨#[]⟩ : ByteArray), .int .i64 0, .int .i64 0, .string (⟨#[]⟩ : ByteArray), .string (⟨#[]⟩ : ByteArray), .int .i64 0, .int .i64 0, .string (⟨#[]⟩ : ByteArray)] 26 (0, 0)) (by have b_ := BK101; have f_ := NB101_106; exact zb_) hb); replace BK102 := Aside0.mk (blk_below (g := gb102) (o := .cells #[.string x103000_32, .int .i64 x103001_32] 87 (0, 0)) (by have b_ := BK102; have f_ := NB102_106; exact zb_) hb); replace BK106 := Aside0.mk (blk_below (g := gb106) (o := .cells #[.string t103, .slice Ao61 x107001_2.length co61, .string t114, .string t115, .int .i64 t116, .int .i64 t117, .string t120, .string t121, .int .i64 t122, .int .i64 t123, .string x103000_32] 26 (0, 0)) (by have b_ := BK106; exact zb_) hb); replace HB := Aside0.mk (below_step (hs_) hb); (try clear hb); (try clear hb2); (try clear hk); (try clear hi); obtain ⟨hcz63_0, hcz63_1, hfz63_0, hfz63_1⟩ := bc2 BK102.out))
       have n0_ : Aside0 (Kd.R Kd.string 9 (w62.setCell ⟨gb102, 1, none⟩ (.int .i64 t131)) w.heap.size (fun _ => True) (.slice Ao61 x107001_2.length co61) x107001_2) := ⟨by (with_reducible repeat (first | apply Kd.R_alloc | apply Kd.R_drewN | apply Kd.R_drew)); exact Kd.R_mono (Kd.R_far (p := ⟨gb102, 1, none⟩) (Kd.R_types HO_107001.out BK102.out (by decide)) (fun _ hk => hk.2) (.int .i64 t131)) (fun _ hk => trivial)⟩
       have n1_ : Aside0 ((w62.setCell ⟨gb102, 1, none⟩ (.int .i64 t131)).heap[gb101]? = some (.cells #[.string (⟨#[]⟩ : ByteArray), .slice none 0 0, .string (⟨#[]⟩ : ByteArray), .string (⟨#[]⟩ : ByteArray), .int .i64 0, .int .i64 0, .string (⟨#[]⟩ : ByteArray), .string (⟨#[]⟩ : ByteArray), .int .i64 0, .int .i64 0, .string (⟨#[]⟩ : ByteArray)] 26 (0, 0))) := ⟨by have b_ := BK101; have f_ := NB101_102; exact zb_⟩
       have n2_ : Aside0 ((w62.setCell ⟨gb102, 1, none⟩ (.int .i64 t131)).heap[gb102]? = some (.cells #[.string x103000_32, .int .i64 t131] 87 (0, 0))) := ⟨by have b_ := BK102; exact zb_⟩
       have n3_ : Aside0 ((w62.setCell ⟨gb102, 1, none⟩ (.int .i64 t131)).heap[gb106]? = some (.cells #[.string t103, .slice Ao61 x107001_2.length co61, .string t114, .string t115, .int .i64 t116, .int .i64 t117, .string t120, .string t121, .int .i64 t122, .int .i64 t123, .string x103000_32] 26 (0, 0))) := ⟨by have b_ := BK106; have f_ := NB106_102; exact zb_⟩
       have n4_ : Aside0 (Below w.heap.size w (w62.setCell ⟨gb102, 1, none⟩ (.int .i64 t131))) := ⟨hs_⟩
       (try clear HO_107001)
       (try clear BK101)
       (try clear BK102)
       (try clear BK106)
       (try clear HB)
       generalize (w62.setCell ⟨gb102, 1, none⟩ (.int .i64 t131)) = w64 at n0_ n1_ n2_ n3_ n4_ ⊢
       have HO_107001 := n0_
       have BK101 := n1_
       have BK102 := n2_
       have BK106 := n3_
       have HB := n4_
       clear n0_ n1_ n2_ n3_ n4_
       replace HO_107001 := Aside0.mk (Kd.R_drew HO_107001.out)
       replace BK101 := Aside0.mk (blk_drew BK101.out)
       replace BK102 := Aside0.mk (blk_drew BK102.out)
       replace BK106 := Aside0.mk (blk_drew BK106.out)
       replace HB := Aside0.mk (below_drew1 HB.out)
       refine start_ (n := 7) (S := fun w' => w'.cell? ⟨gb102, 0, none⟩ = some (.string x103000_32) ∧ w'.cell? ⟨gb102, 1, none⟩ = some (.int .i64 t131)) (ds := []) (bs 7 0) (by kernel_rfl) rfl rfl ⟨(blk_cell BK102.out 0).trans rfl, (blk_cell BK102.out 1).trans rfl⟩ (fun hHeld => ?_)
       generalize w64.drew = w65 at HO_107001 BK101 BK102 BK106 HB hHeld ⊢
       refine pk_ (i := 0) (N := some 62) (bs 7 1) rfl rfl ?_
       refine pk_ (i := 1) (N := some 63) (bs 7 3) rfl rfl ?_
       refine pk_ (i := 2) (N := some 64) (bs 7 7) rfl rfl ?_
       refine pk_ (i := 3) (N := some 65) (bs 7 15) rfl rfl ?_
       refine tkK2_ (i := 4) (N := some 66) (bs 7 31) rfl rfl hHeld ?_
       refine one_ (i := 5) (N := none) (bs 7 63) rfl rfl (by kernel_rfl) (by decide) (fun K hK => ?_)
       have hs66 : w65.cell? ⟨gb101, 0, none⟩ = some (.string (⟨#[]⟩ : ByteArray)) := (blk_cell BK101.out 0).trans rfl
       have hfs66 := blk_frozen BK101.out 0
       have hns66_1 := NB102_101.out
       have hns66_2 := NB106_101.out
       have hms66_1 := NB101_102.out
       have hms66_2 := NB101_106.out
       have hs67 : w65.cell? ⟨gb101, 1, none⟩ = some (.slice none 0 0) := (blk_cell BK101.out 1).trans rfl
       have hfs67 := blk_frozen BK101.out 1
       have hns67_1 := NB102_101.out
       have hns67_2 := NB106_101.out
       have hms67_1 := NB101_102.out
       have hms67_2 := NB101_106.out
       have hs68 : w65.cell? ⟨gb101, 2, none⟩ = some (.string (⟨#[]⟩ : ByteArray)) := (blk_cell BK101.out 2).trans rfl
       have hfs68 := blk_frozen BK101.out 2
       have hns68_1 := NB102_101.out
       have hns68_2 := NB106_101.out
       have hms68_1 := NB101_102.out
       have hms68_2 := NB101_106.out
       have hs69 : w65.cell? ⟨gb101, 3, none⟩ = some (.string (⟨#[]⟩ : ByteArray)) := (blk_cell BK101.out 3).trans rfl
       have hfs69 := blk_frozen BK101.out 3
       have hns69_1 := NB102_101.out
       have hns69_2 := NB106_101.out
       have hms69_1 := NB101_102.out
       have hms69_2 := NB101_106.out
       have hs70 : w65.cell? ⟨gb101, 4, none⟩ = some (.int .i64 0) := (blk_cell BK101.out 4).trans rfl
       have hfs70 := blk_frozen BK101.out 4
       have hns70_1 := NB102_101.out
       have hns70_2 := NB106_101.out
       have hms70_1 := NB101_102.out
       have hms70_2 := NB101_106.out
       have hs71 : w65.cell? ⟨gb101, 5, none⟩ = some (.int .i64 0) := (blk_cell BK101.out 5).trans rfl
       have hfs71 := blk_frozen BK101.out 5
       have hns71_1 := NB102_101.out
       have hns71_2 := NB106_101.out
       have hms71_1 := NB101_102.out
       have hms71_2 := NB101_106.out
       have hs72 : w65.cell? ⟨gb101, 6, none⟩ = some (.string (⟨#[]⟩ : ByteArray)) := (blk_cell BK101.out 6).trans rfl
       have hfs72 := blk_frozen BK101.out 6
       have hns72_1 := NB102_101.out
       have hns72_2 := NB106_101.out
       have hms72_1 := NB101_102.out
       have hms72_2 := NB101_106.out
       have hs73 : w65.cell? ⟨gb101, 7, none⟩ = some (.string (⟨#[]⟩ : ByteArray)) := (blk_cell BK101.out 7).trans rfl
       have hfs73 := blk_frozen BK101.out 7
       have hns73_1 := NB102_101.out
       have hns73_2 := NB106_101.out
       have hms73_1 := NB101_102.out
       have hms73_2 := NB101_106.out
       have hs74 : w65.cell? ⟨gb101, 8, none⟩ = some (.int .i64 0) := (blk_cell BK101.out 8).trans rfl
       have hfs74 := blk_frozen BK101.out 8
       have hns74_1 := NB102_101.out
       have hns74_2 := NB106_101.out
       have hms74_1 := NB101_102.out
       have hms74_2 := NB101_106.out
       have hs75 : w65.cell? ⟨gb101, 9, none⟩ = some (.int .i64 0) := (blk_cell BK101.out 9).trans rfl
       have hfs75 := blk_frozen BK101.out 9
       have hns75_1 := NB102_101.out
       have hns75_2 := NB106_101.out
       have hms75_1 := NB101_102.out
       have hms75_2 := NB101_106.out
       have hs76 : w65.cell? ⟨gb101, 10, none⟩ = some (.string (⟨#[]⟩ : ByteArray)) := (blk_cell BK101.out 10).trans rfl
       have hfs76 := blk_frozen BK101.out 10
       have hns76_1 := NB102_101.out
       have hns76_2 := NB106_101.out
       have hms76_1 := NB101_102.out
       have hms76_2 := NB101_106.out
       refine skip_ (w1 := ?_) (by rfl) rfl ?_ ?_
       rotate_left
       ·go_simp
        rfl
       refine hK.out _ _ ⟨((cell_far (p := ⟨gb101, _, none⟩) NB102_101.out _).trans (((cell_far (p := ⟨gb101, _, none⟩) NB102_101.out _).trans (((cell_far (p := ⟨gb101, _, none⟩) NB102_101.out _).trans (((cell_far (p := ⟨gb101, _, none⟩) NB102_101.out _).trans (((cell_far (p := ⟨gb101, _, none⟩) NB102_101.out _).trans (((cell_far (p := ⟨gb101, _, none⟩) NB102_101.out _).trans (((cell_far (p := ⟨gb101, _, none⟩) NB102_101.out _).trans (((cell_far (p := ⟨gb101, _, none⟩) NB102_101.out _).trans (((cell_far (p := ⟨gb101, _, none⟩) NB102_101.out _).trans (((cell_far (p := ⟨gb101, _, none⟩) NB102_101.out _).trans (((cell_far (p := ⟨gb101, _, none⟩) NB102_101.out _).trans (hHeld.1)))))))))))))))))))))), ((cell_far (p := ⟨gb101, _, none⟩) NB102_101.out _).trans (((cell_far (p := ⟨gb101, _, none⟩) NB102_101.out _).trans (((cell_far (p := ⟨gb101, _, none⟩) NB102_101.out _).trans (((cell_far (p := ⟨gb101, _, none⟩) NB102_101.out _).trans (((cell_far (p := ⟨gb101, _, none⟩) NB102_101.out _).trans (((cell_far (p := ⟨gb101, _, none⟩) NB102_101.out _).trans (((cell_far (p := ⟨gb101, _, none⟩) NB102_101.out _).trans (((cell_far (p := ⟨gb101, _, none⟩) NB102_101.out _).trans (((cell_far (p := ⟨gb101, _, none⟩) NB102_101.out _).trans (((cell_far (p := ⟨gb101, _, none⟩) NB102_101.out _).trans (((cell_far (p := ⟨gb101, _, none⟩) NB102_101.out _).trans (hHeld.2))))))))))))))))))))))⟩ (fun hHeld => ?_)
       clear hK K
       refine pk_ (i := 6) (N := some 3) (bs 7 127) rfl rfl ?_
       refine done_ (by kernel_rfl) ?_
       try go_wp2
       refine bodyPost_ret (results_ct rfl _ _ gb101 26 #[.string (⟨#[]⟩ : ByteArray), .slice none 0 0, .string (⟨#[]⟩ : ByteArray), .string (⟨#[]⟩ : ByteArray), .int .i64 0, .int .i64 0, .string (⟨#[]⟩ : ByteArray), .string (⟨#[]⟩ : ByteArray), .int .i64 0, .int .i64 0, .string (⟨#[]⟩ : ByteArray)] (0, 0) _ rfl (by have b_ := BK101; exact zb_) Tryz.underlying26 rfl (by kernel_rfl)) rfl ?_
       exact ⟨_, z4_, z6_, hs_⟩
     ·rw [if_neg c43] at H
      have c43b0 := beq_eq_false_iff_ne.mpr c43
      have c43b1 := bne_iff_ne.mpr c43
      simp only [Option.some.injEq, Prod.mk.injEq] at H
      obtain ⟨rfl, rfl, rfl, rfl, rfl, rfl, rfl, rfl, rfl, rfl, rfl, rfl⟩ := H
      have hnb77 := NB102_101.out
      have hnc77 := NB101_102.out
      have hnb78 := NB102_106.out
      have hnc78 := NB106_102.out
      obtain ⟨hcz79_0, hcz79_1, hfz79_0, hfz79_1⟩ := bc2 BK102.out
      have hnb80 := NB106_101.out
      have hnc80 := NB101_106.out
      obtain ⟨hcz81_0, hcz81_1, hcz81_2, hcz81_3, hcz81_4, hcz81_5, hcz81_6, hcz81_7, hcz81_8, hcz81_9, hcz81_10, hfz81_0, hfz81_1, hfz81_2, hfz81_3, hfz81_4, hfz81_5, hfz81_6, hfz81_7, hfz81_8, hfz81_9, hfz81_10⟩ := bc11 BK106.out
      try go_wp2
      have n0_ : Aside0 (Kd.R Kd.string 9 (wc.setCell ⟨gb106, 10, none⟩ (.string x103000_32)) w.heap.size (fun _ => True) u107001 x107001_2) := ⟨by (with_reducible repeat (first | apply Kd.R_alloc | apply Kd.R_drewN | apply Kd.R_drew)); exact Kd.R_mono (Kd.R_far (p := ⟨gb106, 10, none⟩) (Kd.R_types HO_107001.out BK106.out (by decide)) (fun _ hk => hk.2) (.string x103000_32)) (fun _ hk => trivial)⟩
      have n1_ : Aside0 ((wc.setCell ⟨gb106, 10, none⟩ (.string x103000_32)).heap[gb101]? = some (.cells #[.string (⟨#[]⟩ : ByteArray), .slice none 0 0, .string (⟨#[]⟩ : ByteArray), .string (⟨#[]⟩ : ByteArray), .int .i64 0, .int .i64 0, .string (⟨#[]⟩ : ByteArray), .string (⟨#[]⟩ : ByteArray), .int .i64 0, .int .i64 0, .string (⟨#[]⟩ : ByteArray)] 26 (0, 0))) := ⟨by have b_ := BK101; have f_ := NB101_106; exact zb_⟩
      have n2_ : Aside0 ((wc.setCell ⟨gb106, 10, none⟩ (.string x103000_32)).heap[gb102]? = some (.cells #[.string x103000_32, .int .i64 x103001_32] 87 (0, 0))) := ⟨by have b_ := BK102; have f_ := NB102_106; exact zb_⟩
      have n3_ : Aside0 ((wc.setCell ⟨gb106, 10, none⟩ (.string x103000_32)).heap[gb106]? = some (.cells #[.string t103, u107001, .string t114, .string t115, .int .i64 t116, .int .i64 t117, .string t120, .string t121, .int .i64 t122, .int .i64 t123, .string x103000_32] 26 (0, 0))) := ⟨by have b_ := BK106; exact zb_⟩
      have n4_ : Aside0 (Below w.heap.size w (wc.setCell ⟨gb106, 10, none⟩ (.string x103000_32))) := ⟨hs_⟩
      (try clear HO_107001)
      (try clear BK101)
      (try clear BK102)
      (try clear BK106)
      (try clear HB)
      generalize (wc.setCell ⟨gb106, 10, none⟩ (.string x103000_32)) = w82 at n0_ n1_ n2_ n3_ n4_ ⊢
      have HO_107001 := n0_
      have BK101 := n1_
      have BK102 := n2_
      have BK106 := n3_
      have HB := n4_
      clear n0_ n1_ n2_ n3_ n4_
      replace HO_107001 := Aside0.mk (Kd.R_drew HO_107001.out)
      replace BK101 := Aside0.mk (blk_drew BK101.out)
      replace BK102 := Aside0.mk (blk_drew BK102.out)
      replace BK106 := Aside0.mk (blk_drew BK106.out)
      replace HB := Aside0.mk (below_drew1 HB.out)
      refine start_ (n := 7) (S := fun w' => w'.cell? ⟨gb102, 0, none⟩ = some (.string x103000_32) ∧ w'.cell? ⟨gb102, 1, none⟩ = some (.int .i64 x103001_32)) (ds := []) (bs 7 0) (by kernel_rfl) rfl rfl ⟨(blk_cell BK102.out 0).trans rfl, (blk_cell BK102.out 1).trans rfl⟩ (fun hHeld => ?_)
      generalize w82.drew = w83 at HO_107001 BK101 BK102 BK106 HB hHeld ⊢
      refine pk_ (i := 0) (N := some 62) (bs 7 1) rfl rfl ?_
      refine pk_ (i := 1) (N := some 63) (bs 7 3) rfl rfl ?_
      refine pk_ (i := 2) (N := some 64) (bs 7 7) rfl rfl ?_
      refine pk_ (i := 3) (N := some 65) (bs 7 15) rfl rfl ?_
      refine tkK2_ (i := 4) (N := some 66) (bs 7 31) rfl rfl hHeld ?_
      refine one_ (i := 5) (N := none) (bs 7 63) rfl rfl (by kernel_rfl) (by decide) (fun K hK => ?_)
      have hs84 : w83.cell? ⟨gb101, 0, none⟩ = some (.string (⟨#[]⟩ : ByteArray)) := (blk_cell BK101.out 0).trans rfl
      have hfs84 := blk_frozen BK101.out 0
      have hns84_1 := NB102_101.out
      have hns84_2 := NB106_101.out
      have hms84_1 := NB101_102.out
      have hms84_2 := NB101_106.out
      have hs85 : w83.cell? ⟨gb101, 1, none⟩ = some (.slice none 0 0) := (blk_cell BK101.out 1).trans rfl
      have hfs85 := blk_frozen BK101.out 1
      have hns85_1 := NB102_101.out
      have hns85_2 := NB106_101.out
      have hms85_1 := NB101_102.out
      have hms85_2 := NB101_106.out
      have hs86 : w83.cell? ⟨gb101, 2, none⟩ = some (.string (⟨#[]⟩ : ByteArray)) := (blk_cell BK101.out 2).trans rfl
      have hfs86 := blk_frozen BK101.out 2
      have hns86_1 := NB102_101.out
      have hns86_2 := NB106_101.out
      have hms86_1 := NB101_102.out
      have hms86_2 := NB101_106.out
      have hs87 : w83.cell? ⟨gb101, 3, none⟩ = some (.string (⟨#[]⟩ : ByteArray)) := (blk_cell BK101.out 3).trans rfl
      have hfs87 := blk_frozen BK101.out 3
      have hns87_1 := NB102_101.out
      have hns87_2 := NB106_101.out
      have hms87_1 := NB101_102.out
      have hms87_2 := NB101_106.out
      have hs88 : w83.cell? ⟨gb101, 4, none⟩ = some (.int .i64 0) := (blk_cell BK101.out 4).trans rfl
      have hfs88 := blk_frozen BK101.out 4
      have hns88_1 := NB102_101.out
      have hns88_2 := NB106_101.out
      have hms88_1 := NB101_102.out
      have hms88_2 := NB101_106.out
      have hs89 : w83.cell? ⟨gb101, 5, none⟩ = some (.int .i64 0) := (blk_cell BK101.out 5).trans rfl
      have hfs89 := blk_frozen BK101.out 5
      have hns89_1 := NB102_101.out
      have hns89_2 := NB106_101.out
      have hms89_1 := NB101_102.out
      have hms89_2 := NB101_106.out
      have hs90 : w83.cell? ⟨gb101, 6, none⟩ = some (.string (⟨#[]⟩ : ByteArray)) := (blk_cell BK101.out 6).trans rfl
      have hfs90 := blk_frozen BK101.out 6
      have hns90_1 := NB102_101.out
      have hns90_2 := NB106_101.out
      have hms90_1 := NB101_102.out
      have hms90_2 := NB101_106.out
      have hs91 : w83.cell? ⟨gb101, 7, none⟩ = some (.string (⟨#[]⟩ : ByteArray)) := (blk_cell BK101.out 7).trans rfl
      have hfs91 := blk_frozen BK101.out 7
      have hns91_1 := NB102_101.out
      have hns91_2 := NB106_101.out
      have hms91_1 := NB101_102.out
      have hms91_2 := NB101_106.out
      have hs92 : w83.cell? ⟨gb101, 8, none⟩ = some (.int .i64 0) := (blk_cell BK101.out 8).trans rfl
      have hfs92 := blk_frozen BK101.out 8
      have hns92_1 := NB102_101.out
      have hns92_2 := NB106_101.out
      have hms92_1 := NB101_102.out
      have hms92_2 := NB101_106.out
      have hs93 : w83.cell? ⟨gb101, 9, none⟩ = some (.int .i64 0) := (blk_cell BK101.out 9).trans rfl
      have hfs93 := blk_frozen BK101.out 9
      have hns93_1 := NB102_101.out
      have hns93_2 := NB106_101.out
      have hms93_1 := NB101_102.out
      have hms93_2 := NB101_106.out
      have hs94 : w83.cell? ⟨gb101, 10, none⟩ = some (.string (⟨#[]⟩ : ByteArray)) := (blk_cell BK101.out 10).trans rfl
      have hfs94 := blk_frozen BK101.out 10
      have hns94_1 := NB102_101.out
      have hns94_2 := NB106_101.out
      have hms94_1 := NB101_102.out
      have hms94_2 := NB101_106.out
      refine skip_ (w1 := ?_) (by rfl) rfl ?_ ?_
      rotate_left
      ·go_simp
       rfl
      refine hK.out _ _ ⟨((cell_far (p := ⟨gb101, _, none⟩) NB102_101.out _).trans (((cell_far (p := ⟨gb101, _, none⟩) NB102_101.out _).trans (((cell_far (p := ⟨gb101, _, none⟩) NB102_101.out _).trans (((cell_far (p := ⟨gb101, _, none⟩) NB102_101.out _).trans (((cell_far (p := ⟨gb101, _, none⟩) NB102_101.out _).trans (((cell_far (p := ⟨gb101, _, none⟩) NB102_101.out _).trans (((cell_far (p := ⟨gb101, _, none⟩) NB102_101.out _).trans (((cell_far (p := ⟨gb101, _, none⟩) NB102_101.out _).trans (((cell_far (p := ⟨gb101, _, none⟩) NB102_101.out _).trans (((cell_far (p := ⟨gb101, _, none⟩) NB102_101.out _).trans (((cell_far (p := ⟨gb101, _, none⟩) NB102_101.out _).trans (hHeld.1)))))))))))))))))))))), ((cell_far (p := ⟨gb101, _, none⟩) NB102_101.out _).trans (((cell_far (p := ⟨gb101, _, none⟩) NB102_101.out _).trans (((cell_far (p := ⟨gb101, _, none⟩) NB102_101.out _).trans (((cell_far (p := ⟨gb101, _, none⟩) NB102_101.out _).trans (((cell_far (p := ⟨gb101, _, none⟩) NB102_101.out _).trans (((cell_far (p := ⟨gb101, _, none⟩) NB102_101.out _).trans (((cell_far (p := ⟨gb101, _, none⟩) NB102_101.out _).trans (((cell_far (p := ⟨gb101, _, none⟩) NB102_101.out _).trans (((cell_far (p := ⟨gb101, _, none⟩) NB102_101.out _).trans (((cell_far (p := ⟨gb101, _, none⟩) NB102_101.out _).trans (((cell_far (p := ⟨gb101, _, none⟩) NB102_101.out _).trans (hHeld.2))))))))))))))))))))))⟩ (fun hHeld => ?_)
      clear hK K
      refine pk_ (i := 6) (N := some 3) (bs 7 127) rfl rfl ?_
      refine done_ (by kernel_rfl) ?_
      try go_wp2
      refine bodyPost_ret (results_ct rfl _ _ gb101 26 #[.string (⟨#[]⟩ : ByteArray), .slice none 0 0, .string (⟨#[]⟩ : ByteArray), .string (⟨#[]⟩ : ByteArray), .int .i64 0, .int .i64 0, .string (⟨#[]⟩ : ByteArray), .string (⟨#[]⟩ : ByteArray), .int .i64 0, .int .i64 0, .string (⟨#[]⟩ : ByteArray)] (0, 0) _ rfl (by have b_ := BK101; exact zb_) Tryz.underlying26 rfl (by kernel_rfl)) rfl ?_
      exact ⟨_, z4_, z6_, hs_⟩

end Go.Proofs.YtbhfbbfjdklfgaaGreatDoor.Q


