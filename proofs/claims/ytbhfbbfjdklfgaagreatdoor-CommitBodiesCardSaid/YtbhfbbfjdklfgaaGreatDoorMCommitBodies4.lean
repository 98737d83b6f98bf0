/- The law CommitBodies holds: for every input it returns true, and each argument reads afterwards as it read before. -/
import Derived.Test.YtbhfbbfjdklfgaaGreatDoorMYCommitBodies1
import Derived.Test.YtbhfbbfjdklfgaaGreatDoorMCommitBodies1
import Derived.Test.YtbhfbbfjdklfgaaGreatDoorMCommitBodies2
import Derived.Test.YtbhfbbfjdklfgaaGreatDoorMCommitBodies3
import Derived.Laws.Cover1
import Derived.WalkKit
import Derived.Maps.OwnOps
import Derived.Maps.OwnSet
import Derived.Maps.Views
set_option linter.unusedVariables false
set_option linter.unusedSimpArgs false
namespace Go.Proofs.YtbhfbbfjdklfgaaGreatDoor.Q
open Go.RowKit Go.Proofs.YtbhfbbfjdklfgaaGreatDoorW.PrintWords Go.Proofs.YtbhfbbfjdklfgaaGreatDoorW.PrintLast Go.Proofs.YtbhfbbfjdklfgaaGreatDoorW.PrintMore
attribute [local go_sem] max2_int min2_int max_two min_two max_three min_three max_four min_four   -- for this text's walks alone

mutual
def commit_Parse.j1 : Nat → ByteArray → Int → ByteArray → List ByteArray → ByteArray → ByteArray → Int → Int → ByteArray → ByteArray → Int → Int → ByteArray → Option (ByteArray × List ByteArray × ByteArray × ByteArray × Int × Int × ByteArray × ByteArray × Int × Int × ByteArray × Int)
 | 0, _, _, _, _, _, _, _, _, _, _, _, _, _ => none
 | k + 1, x103000, x103001, x107000, x107001, x107002, x107003, x107004, x107005, x107006, x107007, x107008, x107009, x107010 => (commit_reader_who.f k x103000 x103001 ⟨#[97, 117, 116, 104, 111, 114, 32]⟩).bind fun bt114 => ((commit_reader_who.f k bt114.2.2.2.2.1 bt114.2.2.2.2.2 ⟨#[99, 111, 109, 109, 105, 116, 116, 101, 114, 32]⟩).bind fun bt120 => ((commit_reader_line.f bt120.2.2.2.2.1 bt120.2.2.2.2.2 ⟨#[]⟩).bind fun bt126 => (if bt126.1.toList = ([] : List UInt8) then (commit_Parse.j2 k bt126.2.1 bt126.2.2 x107000 x107001 bt114.1 bt114.2.1 bt114.2.2.1 bt114.2.2.2.1 bt120.1 bt120.2.1 bt120.2.2.1 bt120.2.2.2.1 x107010) else ((commit_reader_fail.f bt126.2.1 bt126.2.2 2).bind fun bt129 => (commit_Parse.j2 k bt129.1 bt129.2 x107000 x107001 bt114.1 bt114.2.1 bt114.2.2.1 bt114.2.2.2.1 bt120.1 bt120.2.1 bt120.2.2.1 bt120.2.2.2.1 x107010)))))
def commit_Parse.j2 : Nat → ByteArray → Int → ByteArray → List ByteArray → ByteArray → ByteArray → Int → Int → ByteArray → ByteArray → Int → Int → ByteArray → Option (ByteArray × List ByteArray × ByteArray × ByteArray × Int × Int × ByteArray × ByteArray × Int × Int × ByteArray × Int)
 | 0, _, _, _, _, _, _, _, _, _, _, _, _, _ => none
 | k + 1, x103000, x103001, x107000, x107001, x107002, x107003, x107004, x107005, x107006, x107007, x107008, x107009, x107010 => if x103001 = 0 then ((commit_Check.f k x107000 x107001 x107002 x107003 x107004 x107005 x107006 x107007 x107008 x107009 x103000).bind fun t131 => (if t131 = 0 then (some (x107000, x107001, x107002, x107003, x107004, x107005, x107006, x107007, x107008, x107009, x103000, 0)) else (some ((⟨#[]⟩ : ByteArray), ([] : List ByteArray), (⟨#[]⟩ : ByteArray), (⟨#[]⟩ : ByteArray), 0, 0, (⟨#[]⟩ : ByteArray), (⟨#[]⟩ : ByteArray), 0, 0, (⟨#[]⟩ : ByteArray), t131)))) else (some ((⟨#[]⟩ : ByteArray), ([] : List ByteArray), (⟨#[]⟩ : ByteArray), (⟨#[]⟩ : ByteArray), 0, 0, (⟨#[]⟩ : ByteArray), (⟨#[]⟩ : ByteArray), 0, 0, (⟨#[]⟩ : ByteArray), x103001))
def commit_Parse.l0 : Nat → ByteArray → Int → ByteArray → List ByteArray → ByteArray → ByteArray → Int → Int → ByteArray → ByteArray → Int → Int → ByteArray → Option (ByteArray × List ByteArray × ByteArray × ByteArray × Int × Int × ByteArray × ByteArray × Int × Int × ByteArray × Int)
 | 0, _, _, _, _, _, _, _, _, _, _, _, _, _ => none
 | k + 1, x103000, x103001, x107000, x107001, x107002, x107003, x107004, x107005, x107006, x107007, x107008, x107009, x107010 => if x103001 = 0 then ((strings_HasPrefix.f x103000 ⟨#[112, 97, 114, 101, 110, 116, 32]⟩).bind fun t107 => (if t107 = true then ((commit_reader_id.f k x103000 x103001 ⟨#[112, 97, 114, 101, 110, 116, 32]⟩).bind fun bt108 => (if x107001.length < 8796093022208 then (commit_Parse.l0 k bt108.2.1 bt108.2.2 x107000 (x107001 ++ [bt108.1]) x107002 x107003 x107004 x107005 x107006 x107007 x107008 x107009 x107010) else (none))) else (commit_Parse.j1 k x103000 x103001 x107000 x107001 x107002 x107003 x107004 x107005 x107006 x107007 x107008 x107009 x107010))) else (commit_Parse.j1 k x103000 x103001 x107000 x107001 x107002 x107003 x107004 x107005 x107006 x107007 x107008 x107009 x107010)
end
def commit_Parse.f (k : Nat) (a0 : ByteArray) : Option (ByteArray × List ByteArray × ByteArray × ByteArray × Int × Int × ByteArray × ByteArray × Int × Int × ByteArray × Int) := (commit_reader_id.f k a0 0 ⟨#[116, 114, 101, 101, 32]⟩).bind fun bt103 => (commit_Parse.l0 k bt103.2.1 bt103.2.2 bt103.1 ([] : List ByteArray) ⟨#[]⟩ ⟨#[]⟩ 0 0 ⟨#[]⟩ ⟨#[]⟩ 0 0 ⟨#[]⟩)
theorem commit_Parse.mono_l : ∀ k, (∀ y0 y1 y2 y3 y4 y5 y6 y7 y8 y9 y10 y11 y12, LeO (commit_Parse.j1 k y0 y1 y2 y3 y4 y5 y6 y7 y8 y9 y10 y11 y12) (commit_Parse.j1 (k + 1) y0 y1 y2 y3 y4 y5 y6 y7 y8 y9 y10 y11 y12)) ∧ (∀ y0 y1 y2 y3 y4 y5 y6 y7 y8 y9 y10 y11 y12, LeO (commit_Parse.j2 k y0 y1 y2 y3 y4 y5 y6 y7 y8 y9 y10 y11 y12) (commit_Parse.j2 (k + 1) y0 y1 y2 y3 y4 y5 y6 y7 y8 y9 y10 y11 y12)) ∧ (∀ y0 y1 y2 y3 y4 y5 y6 y7 y8 y9 y10 y11 y12, LeO (commit_Parse.l0 k y0 y1 y2 y3 y4 y5 y6 y7 y8 y9 y10 y11 y12) (commit_Parse.l0 (k + 1) y0 y1 y2 y3 y4 y5 y6 y7 y8 y9 y10 y11 y12))
 | 0 => ⟨fun _ _ _ _ _ _ _ _ _ _ _ _ _ r h => by simp [commit_Parse.j1] at h, fun _ _ _ _ _ _ _ _ _ _ _ _ _ r h => by simp [commit_Parse.j2] at h, fun _ _ _ _ _ _ _ _ _ _ _ _ _ r h => by simp [commit_Parse.l0] at h⟩
 | k + 1 => by
  obtain ⟨ih0, ih1, ih2⟩ := commit_Parse.mono_l k
  refine ⟨?_, ?_, ?_⟩
  ·intro y0 y1 y2 y3 y4 y5 y6 y7 y8 y9 y10 y11 y12
   unfold commit_Parse.j1
   have m0_ := @ih0
   have m1_ := @ih1
   have m2_ := @ih2
   have m3_ := @commit_Check.mono
   have m4_ := @commit_reader_id.mono
   have m5_ := @commit_reader_who.mono
   exact mz_
  ·intro y0 y1 y2 y3 y4 y5 y6 y7 y8 y9 y10 y11 y12
   unfold commit_Parse.j2
   have m0_ := @ih0
   have m1_ := @ih1
   have m2_ := @ih2
   have m3_ := @commit_Check.mono
   have m4_ := @commit_reader_id.mono
   have m5_ := @commit_reader_who.mono
   exact mz_
  ·intro y0 y1 y2 y3 y4 y5 y6 y7 y8 y9 y10 y11 y12
   unfold commit_Parse.l0
   have m0_ := @ih0
   have m1_ := @ih1
   have m2_ := @ih2
   have m3_ := @commit_Check.mono
   have m4_ := @commit_reader_id.mono
   have m5_ := @commit_reader_who.mono
   exact mz_
theorem commit_Parse.mono : ∀ a0 k, LeO (commit_Parse.f k a0) (commit_Parse.f (k + 1) a0) := by
 intro a0 k; obtain ⟨ih0, ih1, ih2⟩ := commit_Parse.mono_l k; unfold commit_Parse.f; have m0_ := @ih0; have m1_ := @ih1; have m2_ := @ih2; have m3_ := @commit_Check.mono; have m4_ := @commit_reader_id.mono; have m5_ := @commit_reader_who.mono; exact mz_
def commit_Parse.T4 : Bool × List (List Nat × List Nat) := (true, [([], []), ([0], [0]), ([], []), ([2], [2]), ([3], [3]), ([1, 4, 3], [1, 4]), ([0, 1, 2, 3, 4, 5], []), ([6, 5, 5, 0, 1, 2, 3, 4, 5], [5, 6])])
def commit_Parse.B4 : List Nat := [0, 1, 0, 4, 12, 31, 63, 127]
theorem commit_Parse.tab4 : rtab .any (opsOf Tryz.f20 4) = commit_Parse.T4 := by kernel_rfl
theorem commit_Parse.bits4 : waitsOk commit_Parse.T4.2 commit_Parse.B4 = true := by kernel_rfl
set_option maxHeartbeats 8000000 in
set_option maxRecDepth 100000 in
theorem commit_Parse.calls (k : Nat) (a0 : ByteArray) (r1 : ByteArray) (r2 : List ByteArray) (r3 : ByteArray) (r4 : ByteArray) (r5 : Int) (r6 : Int) (r7 : ByteArray) (r8 : ByteArray) (r9 : Int) (r10 : Int) (r11 : ByteArray) (r12 : Int) (w : World) (hgv : GV w) (h : commit_Parse.f k a0 = some (r1, r2, r3, r4, r5, r6, r7, r8, r9, r10, r11, r12)) :
  Calls Tryz.prog 20 #[.string a0] w fun e w' => ∃ v1_ : Value, e = .returned (.tuple #[.agg #[.string r1, v1_, .string r3, .string r4, .int .i64 r5, .int .i64 r6, .string r7, .string r8, .int .i64 r9, .int .i64 r10, .string r11], .int .i64 r12]) ∧ Kd.R Kd.string 9 w' w.heap.size (fun _ => True) v1_ r2 ∧ Below w.heap.size w w' := by
 have hu26 := Tryz.underlying26; have hu87 := Tryz.underlying87; have hu24 := Tryz.underlying24; have HB := Aside0.mk (Below.refl w.heap.size w); unfold commit_Parse.f at h; have H := h; clear h; replace H := Option.bind_eq_some_iff.mp H; obtain ⟨⟨t103, t104, t105⟩, A20, H⟩ := H; dsimp only at H; have A2 := Aside0.mk A20; clear A20; have HC3 := Aside0.mk H; clear H; go_enter Tryz.func20, Tryz.ntmps20; go_upto_block 0 with (first | ((with_reducible refine gate_dst (N := 2) rfl ?_); refine be_ (cs := #[.string ⟨#[]⟩, .slice none 0 0, .string ⟨#[]⟩, .string ⟨#[]⟩, .int .i64 0, .int .i64 0, .string ⟨#[]⟩, .string ⟨#[]⟩, .int .i64 0, .int .i64 0, .string ⟨#[]⟩]) (t := 26) ?_; intro gb101 hg w4 hbox hb; have BK101 := Aside0.mk (hbox); have GW101 := ag_ hg HB; have GE101 := ag_ hg HB; replace HB := ah_ HB hb; clear hb hbox hg) | ((with_reducible refine gate_dst (N := 8) rfl ?_); refine be_ (cs := #[.string a0, .int .i64 0]) (t := 87) ?_; intro gb102 hg w5 hbox hb; have BK102 := Aside0.mk (hbox); have GW102 := Aside0.mk ((by rw [hg]; exact (below_size (hs_)) : w.heap.size ≤ gb102)); have GE102 := Aside0.mk ((by rw [hg]; exact (below_size (hs_)) : w.heap.size ≤ gb102)); replace HB := Aside0.mk (below_step (hs_) hb); have NB101_102 := Aside0.mk (nl2_ hg BK101.out); have NB102_101 := Aside0.mk (ng2_ hg BK101.out); replace BK101 := ab_ BK101 hb; clear hb hbox hg) | ((with_reducible refine gate_callee (f := 70) rfl ?_); refine gl_ (some 10) Tryz.func70 #[.pointer (some ⟨gb102, 0, none⟩), .string ⟨#[116, 114, 101, 101, 32]⟩] ?_; (with_reducible refine (commit_reader_id.calls k gb102 a0 0 ⟨#[116, 114, 101, 101, 32]⟩ t103 t104 t105 w _ ?side1 ?side2 ?side3 A2.out).mono ?_); (case side1 => exact (show IsS87 w _ gb102 a0 0 from ⟨(bk_ BK102.out), GE102.out⟩)); (case side2 => repeat (first | (with_reducible first | exact HB.out | apply below_alloc | apply pw_below_drewN | apply below_drew1 | refine below_set ?_ (IsS87.ge HI102.out) | refine below_set ?_ GE101.out) | exact HB.out)); (case side3 => exact hgv); rintro e w6 ⟨rfl, hi, hb, hk⟩; refine ⟨_, rfl, ?_⟩; replace BK101 := Aside0.mk (KeepBut.blk hk (g' := gb101) (o := .cells #[.string ⟨#[]⟩, .slice none 0 0, .string ⟨#[]⟩, .string ⟨#[]⟩, .int .i64 0, .int .i64 0, .string ⟨#[]⟩, .string ⟨#[]⟩, .int .i64 0, .int .i64 0, .string ⟨#[]⟩] 26 (0, 0)) (bk_ BK101.out) NB101_102.out (by simp)); replace HB := Aside0.mk (hb); replace BK102 := Aside0.mk (hi.1); (try clear hb); (try clear hb2); (try clear hk); (try clear hi)) | ((with_reducible refine gate_dst (N := 5) rfl ?_); refine be_ (cs := #[.string ⟨#[]⟩, .slice none 0 0, .string ⟨#[]⟩, .string ⟨#[]⟩, .int .i64 0, .int .i64 0, .string ⟨#[]⟩, .string ⟨#[]⟩, .int .i64 0, .int .i64 0, .string ⟨#[]⟩]) (t := 26) ?_; intro gb106 hg w7 hbox hb; have BK106 := Aside0.mk (hbox); have GW106 := Aside0.mk ((by rw [hg]; exact (below_size (hs_)) : w.heap.size ≤ gb106)); have GE106 := Aside0.mk ((by rw [hg]; exact (below_size (hs_)) : w.heap.size ≤ gb106)); replace HB := Aside0.mk (below_step (hs_) hb); have NB101_106 := Aside0.mk (nl2_ hg BK101.out); have NB106_101 := Aside0.mk (ng2_ hg BK101.out); replace BK101 := ab_ BK101 hb; have NB102_106 := Aside0.mk (nl2_ hg BK102.out); have NB106_102 := Aside0.mk (ng2_ hg BK102.out); replace BK102 := ab_ BK102 hb; clear hb hbox hg; have hnb8 := NB106_101.out; have hnc8 := NB101_106.out; have hnb9 := NB106_102.out; have hnc9 := NB102_106.out; obtain ⟨Z10_0, Z10_1, Z10_2, Z10_3, Z10_4, Z10_5, Z10_6, Z10_7, Z10_8, Z10_9, Z10_10, F10_0, F10_1, F10_2, F10_3, F10_4, F10_5, F10_6, F10_7, F10_8, F10_9, F10_10⟩ := bc11 BK106.out))
 (try simp only [Act.put, List.setIfInBounds_toArray, List.set_cons_zero, List.set_cons_succ])
 go_cut [] (fun wc => ∃ (kq : Nat) (x103000_2 : ByteArray) (x103001_2 : Int) (x107001_2 : List ByteArray) (u107001 : Value), Aside0 (commit_Parse.j1 kq x103000_2 x103001_2 t103 x107001_2 ⟨#[]⟩ ⟨#[]⟩ 0 0 ⟨#[]⟩ ⟨#[]⟩ 0 0 ⟨#[]⟩ = some (r1, r2, r3, r4, r5, r6, r7, r8, r9, r10, r11, r12)) ∧ Aside0 (kq ≤ k) ∧ Aside0 (Kd.R Kd.string 9 wc w.heap.size (fun _ => True) u107001 x107001_2) ∧ Aside0 (wc.heap[gb101]? = some (.cells #[.string ⟨#[]⟩, (.slice none 0 0), .string ⟨#[]⟩, .string ⟨#[]⟩, .int .i64 0, .int .i64 0, .string ⟨#[]⟩, .string ⟨#[]⟩, .int .i64 0, .int .i64 0, .string ⟨#[]⟩] 26 (0, 0))) ∧ Aside0 (wc.heap[gb102]? = some (.cells #[.string x103000_2, .int .i64 x103001_2] 87 (0, 0))) ∧ Aside0 (wc.heap[gb106]? = some (.cells #[.string t103, u107001, .string ⟨#[]⟩, .string ⟨#[]⟩, .int .i64 0, .int .i64 0, .string ⟨#[]⟩, .string ⟨#[]⟩, .int .i64 0, .int .i64 0, .string ⟨#[]⟩] 26 (0, 0))) ∧ Aside0 (Below w.heap.size w wc))
 case first =>
  have H := HC3.out; clear HC3; have H' := Aside0.mk H; clear H; go_wp2
  go_loopg [] k (fun kq w' => ∃ (x103000_1 : ByteArray) (x103001_1 : Int) (x107001_1 : List ByteArray) (u107001 : Value), Aside0 (commit_Parse.l0 kq x103000_1 x103001_1 t103 x107001_1 ⟨#[]⟩ ⟨#[]⟩ 0 0 ⟨#[]⟩ ⟨#[]⟩ 0 0 ⟨#[]⟩ = some (r1, r2, r3, r4, r5, r6, r7, r8, r9, r10, r11, r12)) ∧ Aside0 (kq ≤ k) ∧ Aside0 (Kd.R Kd.string 9 w' w.heap.size (fun _ => True) u107001 x107001_1) ∧ Aside0 (w'.heap[gb101]? = some (.cells #[.string ⟨#[]⟩, (.slice none 0 0), .string ⟨#[]⟩, .string ⟨#[]⟩, .int .i64 0, .int .i64 0, .string ⟨#[]⟩, .string ⟨#[]⟩, .int .i64 0, .int .i64 0, .string ⟨#[]⟩] 26 (0, 0))) ∧ Aside0 (w'.heap[gb102]? = some (.cells #[.string x103000_1, .int .i64 x103001_1] 87 (0, 0))) ∧ Aside0 (w'.heap[gb106]? = some (.cells #[.string t103, u107001, .string ⟨#[]⟩, .string ⟨#[]⟩, .int .i64 0, .int .i64 0, .string ⟨#[]⟩, .string ⟨#[]⟩, .int .i64 0, .int .i64 0, .string ⟨#[]⟩] 26 (0, 0))) ∧ Aside0 (Below w.heap.size w w'))
  case atStart => exact ⟨(t104), (t105), (([] : List ByteArray)), (.slice none 0 0), H', ⟨Nat.le_refl _⟩, ⟨z6_⟩, ⟨by have b_ := BK101; have f_ := NB101_106; exact zb_⟩, ⟨by have b_ := BK102; have f_ := NB102_106; exact zb_⟩, ⟨by have b_ := BK106; exact zb_⟩, ⟨hs_⟩⟩
  case round =>
   clear H'; try clear c2
   try clear p2
   try clear c7
   try clear c8
   try clear c9
   try clear Z10_0 Z10_1 Z10_10 Z10_2 Z10_3 Z10_4 Z10_5 Z10_6 Z10_7 Z10_8 Z10_9 F10_0 F10_1 F10_10 F10_2 F10_3 F10_4 F10_5 F10_6 F10_7 F10_8 F10_9
   obtain ⟨x103000_1, x103001_1, x107001_1, u107001, HA, HK1, HO_107001, BK101, BK102, BK106, HB⟩ := hrel
   cases gk with
   | zero => exact absurd HA.out (by simp [commit_Parse.l0])
   | succ k1 =>
    have H := HA.out; clear HA; simp only [commit_Parse.l0] at H; by_cases c11 : x103001_1 = 0; rotate_left
    ·rw [if_neg c11] at H; have c11b0 := beq_eq_false_iff_ne.mpr c11; have c11b1 := bne_iff_ne.mpr c11; (first | rw [c11b0] | (simp only [i64_w, i32_w]; rw [c11b0]) | skip); (try rw [c11b8])
     have H' := Aside0.mk H; clear H; have hnb27 := NB102_101.out; have hnc27 := NB101_102.out; have hnb28 := NB102_106.out; have hnc28 := NB106_102.out; obtain ⟨Z29_0, Z29_1, F29_0, F29_1⟩ := bc2 BK102.out; go_wp2
     go_meet
     case rel => exact ⟨_, (x103000_1), (x103001_1), (x107001_1), (u107001), H', ⟨by have := HK1.out; first | omega | exact Nat.le_refl _⟩, ⟨z32_⟩, ⟨bk_ BK101.out⟩, ⟨bk_ BK102.out⟩, ⟨bk_ BK106.out⟩, ⟨hs_⟩⟩
    rw [if_pos c11] at H; have c11b0 := beq_iff_eq.mpr c11; have c11b1 := bne_eq_false_iff_eq.mpr c11; clear c11; (first | rw [c11b0] | (simp only [i64_w, i32_w]; rw [c11b0]) | skip); (try rw [c11b8])
    replace H := Option.bind_eq_some_iff.mp H; obtain ⟨t107, A120, H⟩ := H; have A12 := Aside0.mk A120; clear A120; by_cases c13 : t107 = true; rotate_left
    ·replace c13 := Bool.eq_false_iff.mpr c13; subst c13; rw [if_neg nft_] at H; have H' := Aside0.mk H; clear H; have hnb24 := NB102_101.out; have hnc24 := NB101_102.out; have hnb25 := NB102_106.out; have hnc25 := NB106_102.out; obtain ⟨Z26_0, Z26_1, F26_0, F26_1⟩ := bc2 BK102.out; go_wp2_with (first | (go_at_call 71; (with_reducible refine (strings_HasPrefix.calls x103000_1 ⟨#[112, 97, 114, 101, 110, 116, 32]⟩ false _ A12.out).mono ?_); rintro e w' ⟨rfl, ⟨nd, rfl⟩⟩)); go_meet
     case rel => exact ⟨_, (x103000_1), (x103001_1), (x107001_1), (u107001), H', ⟨by have := HK1.out; first | omega | exact Nat.le_refl _⟩, ⟨z32_⟩, ⟨bk_ BK101.out⟩, ⟨bk_ BK102.out⟩, ⟨bk_ BK106.out⟩, ⟨hs_⟩⟩
    subst c13; rw [if_pos rfl] at H; replace H := Option.bind_eq_some_iff.mp H; obtain ⟨⟨t108, t109, t110⟩, A140, H⟩ := H; dsimp only at H; have A14 := Aside0.mk A140; clear A140; by_cases c15 : x107001_1.length < 8796093022208; rotate_left
    ·rw [if_neg c15] at H; exact absurd H (by simp)
    rw [if_pos c15] at H; have LMc15 := Aside0.mk c15; clear c15; obtain ⟨y111, hy111⟩ : ∃ y_ : List ByteArray, y_ = (x107001_1 ++ [t108]) := ⟨_, rfl⟩; replace H : (commit_Parse.l0 k1 t109 t110 t103 y111 ⟨#[]⟩ ⟨#[]⟩ 0 0 ⟨#[]⟩ ⟨#[]⟩ 0 0 ⟨#[]⟩) = some (r1, r2, r3, r4, r5, r6, r7, r8, r9, r10, r11, r12) := by first | (rw [hy111]; with_reducible exact H) | (have H2_ := (Option.bind_some _ _).symm.trans H; rw [hy111]; with_reducible exact H2_) | (have H2_ := (Option.bind_some _ _).symm.trans H; with_reducible exact H2_) | with_reducible exact H | (rw [hy111]; exact H) | exact H
    have Ny111 := Aside0.mk hy111; clear hy111; have H' := Aside0.mk H; clear H; have hnb16 := NB102_101.out; have hnc16 := NB101_102.out; have hnb17 := NB102_106.out; have hnc17 := NB106_102.out; obtain ⟨Z18_0, Z18_1, F18_0, F18_1⟩ := bc2 BK102.out; try go_wp2_with (first | (go_at_call 71; (with_reducible refine (strings_HasPrefix.calls x103000_1 ⟨#[112, 97, 114, 101, 110, 116, 32]⟩ true _ A12.out).mono ?_); rintro e w' ⟨rfl, ⟨nd, rfl⟩⟩; (try (rw [drewN_self wr]; generalize hq_ : World.drewN wr _ = wr; have n0_ : Aside0 (Kd.R Kd.string 9 wr w.heap.size (fun _ => True) u107001 x107001_1) := ⟨by rw [← hq_]; exact (rk_ HO_107001.out)⟩; have n1_ : Aside0 (wr.heap[gb101]? = some (.cells #[.string ⟨#[]⟩, .slice none 0 0, .string ⟨#[]⟩, .string ⟨#[]⟩, .int .i64 0, .int .i64 0, .string ⟨#[]⟩, .string ⟨#[]⟩, .int .i64 0, .int .i64 0, .string ⟨#[]⟩] 26 (0, 0))) := ⟨by rw [← hq_]; exact (bk_ BK101.out)⟩; have n2_ : Aside0 (wr.heap[gb102]? = some (.cells #[.string x103000_1, .int .i64 x103001_1] 87 (0, 0))) := ⟨by rw [← hq_]; exact (bk_ BK102.out)⟩; have n3_ : Aside0 (wr.heap[gb106]? = some (.cells #[.string t103, u107001, .string ⟨#[]⟩, .string ⟨#[]⟩, .int .i64 0, .int .i64 0, .string ⟨#[]⟩, .string ⟨#[]⟩, .int .i64 0, .int .i64 0, .string ⟨#[]⟩] 26 (0, 0))) := ⟨by rw [← hq_]; exact (bk_ BK106.out)⟩; have n4_ : Aside0 (Below w.heap.size w wr) := ⟨by rw [← hq_]; exact (hs_)⟩; clear HO_107001 BK101 BK102 BK106 HB hq_; have HO_107001 := n0_; have BK101 := n1_; have BK102 := n2_; have BK106 := n3_; have HB := n4_; clear n0_ n1_ n2_ n3_ n4_)))); replace HO_107001 := Aside0.mk (Kd.R_drew HO_107001.out); replace BK101 := Aside0.mk (blk_drew BK101.out); replace BK102 := Aside0.mk (blk_drew BK102.out); replace BK106 := Aside0.mk (blk_drew BK106.out); replace HB := Aside0.mk (below_drew1 HB.out); refine start_ (n := 8) (S := fun w' => w'.cell? ⟨gb106, 0, none⟩ = some (.string t103) ∧ w'.cell? ⟨gb106, 1, none⟩ = some (u107001) ∧ w'.cell? ⟨gb106, 2, none⟩ = some (.string ⟨#[]⟩) ∧ w'.cell? ⟨gb106, 3, none⟩ = some (.string ⟨#[]⟩) ∧ w'.cell? ⟨gb106, 4, none⟩ = some (.int .i64 0) ∧ w'.cell? ⟨gb106, 5, none⟩ = some (.int .i64 0) ∧ w'.cell? ⟨gb106, 6, none⟩ = some (.string ⟨#[]⟩) ∧ w'.cell? ⟨gb106, 7, none⟩ = some (.string ⟨#[]⟩) ∧ w'.cell? ⟨gb106, 8, none⟩ = some (.int .i64 0) ∧ w'.cell? ⟨gb106, 9, none⟩ = some (.int .i64 0) ∧ w'.cell? ⟨gb106, 10, none⟩ = some (.string ⟨#[]⟩)) (ds := [7]) (bs 8 0) (by kernel_rfl) rfl rfl ⟨(blk_cell BK106.out 0).trans rfl, (blk_cell BK106.out 1).trans rfl, (blk_cell BK106.out 2).trans rfl, (blk_cell BK106.out 3).trans rfl, (blk_cell BK106.out 4).trans rfl, (blk_cell BK106.out 5).trans rfl, (blk_cell BK106.out 6).trans rfl, (blk_cell BK106.out 7).trans rfl, (blk_cell BK106.out 8).trans rfl, (blk_cell BK106.out 9).trans rfl, (blk_cell BK106.out 10).trans rfl⟩ (fun hHeld => ?_); refine with_tabW commit_Parse.tab4 commit_Parse.bits4 (fun HT_ HW_ => ?_); generalize wr.drew = w19 at HO_107001 BK101 BK102 BK106 HB hHeld ⊢; refine pu_ (i := 0) (N := some 24) (bs 8 1) rfl rfl ?_
    refine pu_ (i := 2) (N := some 26) (bs 8 5) rfl rfl ?_; refine tkW11_ (i := 1) (N := some 25) (bs 8 7) rfl rfl hHeld ?_; refine one_ (i := 3) (N := some 27) (bs 8 15) rfl rfl (one_of HT_.out (by kernel_rfl)) (by decide) (fun K hK => ?_); refine goes_ Tryz.func70 (by kernel_rfl) rfl #[.pointer (some ⟨gb102, 0, none⟩), .string ⟨#[112, 97, 114, 101, 110, 116, 32]⟩] (by rfl) rfl rfl z5_ ?_
    with_reducible refine (commit_reader_id.calls k1 gb102 x103000_1 x103001_1 ⟨#[112, 97, 114, 101, 110, 116, 32]⟩ t108 t109 t110 w _ ?side1 ?side2 ?side3 A14.out).mono ?_
    (case side1 => exact (show IsS87 w _ gb102 x103000_1 x103001_1 from ⟨(bk_ BK102.out), GE102.out⟩))
    (case side2 => repeat (first | (with_reducible first | exact HB.out | apply below_alloc | apply pw_below_drewN | apply below_drew1 | refine below_set ?_ (IsS87.ge HI102.out) | refine below_set ?_ GE101.out | refine below_set ?_ GE106.out) | exact HB.out))
    (case side3 => exact hgv)
    rintro e w20 ⟨rfl, hi, hb, hk⟩; refine ⟨_, rfl, ?_⟩; replace HO_107001 := Aside0.mk (Kd.R_mono (Kd.R_keep (IsS87.apart (show IsS87 w _ gb102 x103000_1 x103001_1 from by exact (show IsS87 w _ gb102 x103000_1 x103001_1 from ⟨(bk_ BK102.out), GE102.out⟩)) (rk_ HO_107001.out) (by decide)) hk (fun _ h => h.2)) (fun _ h => h.1)); replace BK101 := Aside0.mk (KeepBut.blk hk (g' := gb101) (o := .cells #[.string ⟨#[]⟩, .slice none 0 0, .string ⟨#[]⟩, .string ⟨#[]⟩, .int .i64 0, .int .i64 0, .string ⟨#[]⟩, .string ⟨#[]⟩, .int .i64 0, .int .i64 0, .string ⟨#[]⟩] 26 (0, 0)) (bk_ BK101.out) NB101_102.out (by simp)); replace BK106 := Aside0.mk (KeepBut.blk hk (g' := gb106) (o := .cells #[.string t103, u107001, .string ⟨#[]⟩, .string ⟨#[]⟩, .int .i64 0, .int .i64 0, .string ⟨#[]⟩, .string ⟨#[]⟩, .int .i64 0, .int .i64 0, .string ⟨#[]⟩] 26 (0, 0)) (bk_ BK106.out) NB106_102.out (by simp)); replace HB := Aside0.mk (hb); replace BK102 := Aside0.mk (hi.1); (try clear hb)
    (try clear hb2)
    (try clear hk)
    (try clear hi)
    refine hK.out _ _ ⟨(blk_cell BK106.out 0).trans rfl, (blk_cell BK106.out 1).trans rfl, (blk_cell BK106.out 2).trans rfl, (blk_cell BK106.out 3).trans rfl, (blk_cell BK106.out 4).trans rfl, (blk_cell BK106.out 5).trans rfl, (blk_cell BK106.out 6).trans rfl, (blk_cell BK106.out 7).trans rfl, (blk_cell BK106.out 8).trans rfl, (blk_cell BK106.out 9).trans rfl, (blk_cell BK106.out 10).trans rfl⟩ (fun hHeld => ?_); clear hK K; refine norm_ (a' := ?_) ?_ ?_; rotate_left
    ·show Act.put _ (some 27) _ = _
     simp only [Act.put, List.setIfInBounds_toArray, List.set_cons_zero, List.set_cons_succ, i64_w, i32_w]; rfl
    refine one_ (i := 4) (N := some 28) (bs 8 31) rfl rfl (one_of HT_.out (by kernel_rfl)) (by decide) (fun K hK => ?_); refine value_ (w1 := ?_) (v := ?_) (by rfl) rfl ?_ ?_; rotate_left 2
    ·go_simp
     constructor
     ·rfl
     ·rfl
    refine hK.out _ _ ⟨(blk_cell (blk_alloc BK106.out _) 0).trans rfl, (blk_cell (blk_alloc BK106.out _) 1).trans rfl, (blk_cell (blk_alloc BK106.out _) 2).trans rfl, (blk_cell (blk_alloc BK106.out _) 3).trans rfl, (blk_cell (blk_alloc BK106.out _) 4).trans rfl, (blk_cell (blk_alloc BK106.out _) 5).trans rfl, (blk_cell (blk_alloc BK106.out _) 6).trans rfl, (blk_cell (blk_alloc BK106.out _) 7).trans rfl, (blk_cell (blk_alloc BK106.out _) 8).trans rfl, (blk_cell (blk_alloc BK106.out _) 9).trans rfl, (blk_cell (blk_alloc BK106.out _) 10).trans rfl⟩ (fun hHeld => ?_); clear hK K; refine norm_ (a' := ?_) ?_ ?_; rotate_left
    ·show Act.put _ (some 28) _ = _
     simp only [Act.put, List.setIfInBounds_toArray, List.set_cons_zero, List.set_cons_succ, i64_w, i32_w]; rfl
    refine one_ (i := 5) (N := some 29) (bs 8 63) rfl rfl (one_of HT_.out (by kernel_rfl)) (by decide) (fun K hK => ?_); refine Kd.R_append_step Kd.string (w0 := w) w.heap.size (by rfl) (.tmp 25) (.tmp 28) 22 9 (.string ⟨#[]⟩) 16 rfl Tryz.underlying22 info9 rfl (by decide) (by omega) u107001 x107001_1 t108 [.string t108] (fun _ => True) (fun _ => False) rfl rfl ?aP (fun _ hk => hk.elim) ?aF ?aO ?aB ?aS ?aL ?_; (case aP => exact rfl)
    (case aB => exact (hs_))
    (case aF => exact (fun _ _ => trivial))
    (case aO => exact (rk_ HO_107001.out))
    (case aS => exact (below_size (hs_)))
    (case aL => have := LMc15.out; omega)
    intro v112 w21 ho hb hg hat; rw [← Ny111.out] at ho; have n0_ := Aside0.mk (blk_grown (g := gb101) (o := .cells #[.string ⟨#[]⟩, .slice none 0 0, .string ⟨#[]⟩, .string ⟨#[]⟩, .int .i64 0, .int .i64 0, .string ⟨#[]⟩, .string ⟨#[]⟩, .int .i64 0, .int .i64 0, .string ⟨#[]⟩] 26 (0, 0)) (bk_ BK101.out) hg (Kd.R_ne HO_107001.out BK101.out (by decide))); have n1_ := Aside0.mk (blk_grown (g := gb102) (o := .cells #[.string t109, .int .i64 t110] 87 (0, 0)) (bk_ BK102.out) hg (Kd.R_ne HO_107001.out BK102.out (by decide))); have n2_ := Aside0.mk (blk_grown (g := gb106) (o := .cells #[.string t103, u107001, .string ⟨#[]⟩, .string ⟨#[]⟩, .int .i64 0, .int .i64 0, .string ⟨#[]⟩, .string ⟨#[]⟩, .int .i64 0, .int .i64 0, .string ⟨#[]⟩] 26 (0, 0)) (bk_ BK106.out) hg (Kd.R_ne HO_107001.out BK106.out (by decide))); have n3_ := Aside0.mk (hb); have n4_ := Aside0.mk (ho); clear BK101; clear BK102; clear BK106; clear HB; clear HO_107001; have BK101 := n0_; have BK102 := n1_; have BK106 := n2_; have HB := n3_; have HO113 := n4_; clear n0_ n1_ n2_ n3_ n4_; clear ho hb hg hat; obtain ⟨Ao22, co22, eo22⟩ := Kd.R_slice HO113.out; (first | subst eo22 | (injection eo22 with f1_ f2_ f3_; have f4_ := f1_.symm; have f5_ := f3_.symm; clear f1_ f2_ f3_; subst f4_; subst f5_)); refine hK.out _ _ ⟨(blk_cell BK106.out 0).trans rfl, (blk_cell BK106.out 1).trans rfl, (blk_cell BK106.out 2).trans rfl, (blk_cell BK106.out 3).trans rfl, (blk_cell BK106.out 4).trans rfl, (blk_cell BK106.out 5).trans rfl, (blk_cell BK106.out 6).trans rfl, (blk_cell BK106.out 7).trans rfl, (blk_cell BK106.out 8).trans rfl, (blk_cell BK106.out 9).trans rfl, (blk_cell BK106.out 10).trans rfl⟩ (fun hHeld => ?_); clear hK K; refine norm_ (a' := ?_) ?_ ?_; rotate_left
    ·show Act.put _ (some 29) _ = _
     simp only [Act.put, List.setIfInBounds_toArray, List.set_cons_zero, List.set_cons_succ, i64_w, i32_w]; rfl
    refine pu_ (i := 6) (N := some 30) (bs 8 127) rfl rfl ?_; refine last_ (i := 7) (N := none) (bs 8 255) rfl rfl (one_of HT_.out (by kernel_rfl)) (by decide) (fun K hK => ?_); have hs23 : w21.cell? ⟨gb106, 1, none⟩ = some (u107001) := (blk_cell BK106.out 1).trans rfl; have hfs23 := blk_frozen BK106.out 1; have hns23_0 := NB101_106.out; have hns23_1 := NB102_106.out; have hms23_0 := NB106_101.out; have hms23_1 := NB106_102.out; refine skip_ (w1 := ?_) (by rfl) rfl ?_ ?_; rotate_left
    ·go_simp
     rfl
    refine hK.out _ _ ?_; clear hK K; refine done_ (done_of HT_.out (by kernel_rfl)) ?_; try go_wp2
    go_roundg k1
    case measure => have := HK1.out; omega
    case rel => exact ⟨(t109), (t110), (y111), (.slice Ao22 y111.length co22), H', ⟨by have := HK1.out; omega⟩, ⟨by (with_reducible repeat (first | apply Kd.R_alloc | apply Kd.R_drewN | apply Kd.R_drew)); exact Kd.R_mono (Kd.R_far (p := ⟨gb106, 1, none⟩) (Kd.R_types HO113.out BK106.out (by decide)) (fun _ hk => hk.2) (.slice Ao22 y111.length co22)) (fun _ hk => trivial)⟩, ⟨by have b_ := BK101; have f_ := NB101_106; exact zb_⟩, ⟨by have b_ := BK102; have f_ := NB102_106; exact zb_⟩, ⟨by have b_ := BK106; exact zb_⟩, ⟨hs_⟩⟩
 case rest =>
  clear HC3; try clear c1
  try clear c2
  try clear p2
  try clear c7
  try clear c8
  try clear c9
  try clear c11
  try clear c11b0
  try clear c11b1
  try clear c13
  try clear c15
  try clear c16
  try clear c17
  try clear c20
  try clear c24
  try clear c25
  try clear c27
  try clear c28
  try clear Z10_0 Z10_1 Z10_10 Z10_2 Z10_3 Z10_4 Z10_5 Z10_6 Z10_7 Z10_8 Z10_9
  try clear Z18_0 Z18_1
  try clear Z26_0 Z26_1
  try clear Z29_0 Z29_1
  try clear F10_0 F10_1 F10_10 F10_2 F10_3 F10_4 F10_5 F10_6 F10_7 F10_8 F10_9
  try clear F18_0 F18_1
  try clear F26_0 F26_1
  try clear F29_0 F29_1
  try clear p2
  obtain ⟨kq, x103000_2, x103001_2, x107001_2, u107001, HA, HJ2, HO_107001, BK101, BK102, BK106, HB⟩ := hcut
  cases kq with
  | zero => exact absurd HA.out (by simp [commit_Parse.j1])
  | succ kj2 =>
   have H := HA.out; clear HA; simp only [commit_Parse.j1] at H; replace H := Option.bind_eq_some_iff.mp H; obtain ⟨⟨t114, t115, t116, t117, t118, t119⟩, A300, H⟩ := H; dsimp only at H; have A30 := Aside0.mk A300; clear A300; replace H := Option.bind_eq_some_iff.mp H; obtain ⟨⟨t120, t121, t122, t123, t124, t125⟩, A310, H⟩ := H; dsimp only at H; have A31 := Aside0.mk A310; clear A310; replace H := Option.bind_eq_some_iff.mp H; obtain ⟨⟨t126, t127, t128⟩, A320, H⟩ := H; dsimp only at H; have A32 := Aside0.mk A320; clear A320; have HC33 := Aside0.mk H; clear H; go_upto_if 39 with (first | ((with_reducible refine gate_callee (f := 72) rfl ?_); refine gl_ (some 32) Tryz.func72 #[.pointer (some ⟨gb102, 0, none⟩), .string ⟨#[97, 117, 116, 104, 111, 114, 32]⟩] ?_; (with_reducible refine (commit_reader_who.calls kj2 gb102 x103000_2 x103001_2 ⟨#[97, 117, 116, 104, 111, 114, 32]⟩ t114 t115 t116 t117 t118 t119 w _ ?side1 ?side2 ?side3 A30.out).mono ?_); (case side1 => exact (show IsS87 w _ gb102 x103000_2 x103001_2 from ⟨(bk_ BK102.out), GE102.out⟩)); (case side2 => repeat (first | (with_reducible first | exact HB.out | apply below_alloc | apply pw_below_drewN | apply below_drew1 | refine below_set ?_ (IsS87.ge HI102.out) | refine below_set ?_ GE101.out | refine below_set ?_ GE106.out) | exact HB.out)); (case side3 => exact hgv); rintro e w34 ⟨rfl, hi, hb, hk⟩; refine ⟨_, rfl, ?_⟩; replace HO_107001 := Aside0.mk (Kd.R_mono (Kd.R_keep (IsS87.apart (show IsS87 w _ gb102 x103000_2 x103001_2 from by exact (show IsS87 w _ gb102 x103000_2 x103001_2 from ⟨(bk_ BK102.out), GE102.out⟩)) (rk_ HO_107001.out) (by decide)) hk (fun _ h => h.2)) (fun _ h => h.1)); replace BK101 := Aside0.mk (KeepBut.blk hk (g' := gb101) (o := .cells #[.string ⟨#[]⟩, .slice none 0 0, .string ⟨#[]⟩, .string ⟨#[]⟩, .int .i64 0, .int .i64 0, .string ⟨#[]⟩, .string ⟨#[]⟩, .int .i64 0, .int .i64 0, .string ⟨#[]⟩] 26 (0, 0)) (bk_ BK101.out) NB101_102.out (by simp)); replace BK106 := Aside0.mk (KeepBut.blk hk (g' := gb106) (o := .cells #[.string t103, u107001, .string ⟨#[]⟩, .string ⟨#[]⟩, .int .i64 0, .int .i64 0, .string ⟨#[]⟩, .string ⟨#[]⟩, .int .i64 0, .int .i64 0, .string ⟨#[]⟩] 26 (0, 0)) (bk_ BK106.out) NB106_102.out (by simp)); replace HB := Aside0.mk (hb); replace BK102 := Aside0.mk (hi.1); (try clear hb); (try clear hb2); (try clear hk); (try clear hi)) | ((with_reducible refine gate_callee (f := 72) rfl ?_); refine gl_ (some 34) Tryz.func72 #[.pointer (some ⟨gb102, 0, none⟩), .string ⟨#[99, 111, 109, 109, 105, 116, 116, 101, 114, 32]⟩] ?_; (with_reducible refine (commit_reader_who.calls kj2 gb102 t118 t119 ⟨#[99, 111, 109, 109, 105, 116, 116, 101, 114, 32]⟩ t120 t121 t122 t123 t124 t125 w _ ?side1 ?side2 ?side3 A31.out).mono ?_); (case side1 => exact (show IsS87 w _ gb102 t118 t119 from ⟨(bk_ BK102.out), GE102.out⟩)); (case side2 => repeat (first | (with_reducible first | exact HB.out | apply below_alloc | apply pw_below_drewN | apply below_drew1 | refine below_set ?_ (IsS87.ge HI102.out) | refine below_set ?_ GE101.out | refine below_set ?_ GE106.out) | exact HB.out)); (case side3 => exact hgv); rintro e w35 ⟨rfl, hi, hb, hk⟩; refine ⟨_, rfl, ?_⟩; replace HO_107001 := Aside0.mk (Kd.R_mono (Kd.R_keep (IsS87.apart (show IsS87 w _ gb102 t118 t119 from by exact (show IsS87 w _ gb102 t118 t119 from ⟨(bk_ BK102.out), GE102.out⟩)) (rk_ HO_107001.out) (by decide)) hk (fun _ h => h.2)) (fun _ h => h.1)); replace BK101 := Aside0.mk (KeepBut.blk hk (g' := gb101) (o := .cells #[.string ⟨#[]⟩, .slice none 0 0, .string ⟨#[]⟩, .string ⟨#[]⟩, .int .i64 0, .int .i64 0, .string ⟨#[]⟩, .string ⟨#[]⟩, .int .i64 0, .int .i64 0, .string ⟨#[]⟩] 26 (0, 0)) (bk_ BK101.out) NB101_102.out (by simp)); replace BK106 := Aside0.mk (KeepBut.blk hk (g' := gb106) (o := .cells #[.string t103, u107001, .string ⟨#[]⟩, .string ⟨#[]⟩, .int .i64 0, .int .i64 0, .string ⟨#[]⟩, .string ⟨#[]⟩, .int .i64 0, .int .i64 0, .string ⟨#[]⟩] 26 (0, 0)) (bk_ BK106.out) NB106_102.out (by simp)); replace HB := Aside0.mk (hb); replace BK102 := Aside0.mk (hi.1); (try clear hb); (try clear hb2); (try clear hk); (try clear hi); have hnb36 := NB106_101.out; have hnc36 := NB101_106.out; have hnb37 := NB106_102.out; have hnc37 := NB102_106.out; obtain ⟨Z38_0, Z38_1, Z38_2, Z38_3, Z38_4, Z38_5, Z38_6, Z38_7, Z38_8, Z38_9, Z38_10, F38_0, F38_1, F38_2, F38_3, F38_4, F38_5, F38_6, F38_7, F38_8, F38_9, F38_10⟩ := bc11 BK106.out) | ((with_reducible refine gate_callee (f := 73) rfl ?_); refine gl_ (some 38) Tryz.func73 #[.pointer (some ⟨gb102, 0, none⟩), .string ⟨#[]⟩] ?_; (with_reducible refine (commit_reader_line.calls gb102 t124 t125 ⟨#[]⟩ t126 t127 t128 w _ ?side1 ?side2 ?side3 A32.out).mono ?_); (case side1 => exact (show IsS87 w _ gb102 t124 t125 from ⟨(by have b_ := BK102; have f_ := NB102_106; exact zb_), GE102.out⟩)); (case side2 => repeat (first | (with_reducible first | exact HB.out | apply below_alloc | apply pw_below_drewN | apply below_drew1 | refine below_set ?_ (IsS87.ge HI102.out) | refine below_set ?_ GE101.out | refine below_set ?_ GE106.out) | exact HB.out)); (case side3 => exact hgv); rintro e w39 ⟨rfl, hi, hb, hk⟩; refine ⟨_, rfl, ?_⟩; replace HO_107001 := Aside0.mk (Kd.R_mono (Kd.R_keep (IsS87.apart (show IsS87 w _ gb102 t124 t125 from by exact (show IsS87 w _ gb102 t124 t125 from ⟨(by have b_ := BK102; have f_ := NB102_106; exact zb_), GE102.out⟩)) (by (with_reducible repeat (first | apply Kd.R_alloc | apply Kd.R_drewN | apply Kd.R_drew)); exact (Kd.R_mono (Kd.R_far (p := ⟨gb106, 9, none⟩) (Kd.R_far (p := ⟨gb106, 8, none⟩) (Kd.R_far (p := ⟨gb106, 7, none⟩) (Kd.R_far (p := ⟨gb106, 6, none⟩) (Kd.R_far (p := ⟨gb106, 5, none⟩) (Kd.R_far (p := ⟨gb106, 4, none⟩) (Kd.R_far (p := ⟨gb106, 3, none⟩) (Kd.R_far (p := ⟨gb106, 2, none⟩) (Kd.R_types HO_107001.out BK106.out (by decide)) (fun _ hk => hk.2) (.string t114)) (fun _ hk => hk.2) (.string t115)) (fun _ hk => hk.2) (.int .i64 t116)) (fun _ hk => hk.2) (.int .i64 t117)) (fun _ hk => hk.2) (.string t120)) (fun _ hk => hk.2) (.string t121)) (fun _ hk => hk.2) (.int .i64 t122)) (fun _ hk => hk.2) (.int .i64 t123)) (fun _ h_ => h_.1))) (by decide)) hk (fun _ h => h.2)) (fun _ h => h.1)); replace BK101 := Aside0.mk (KeepBut.blk hk (g' := gb101) (o := .cells #[.string ⟨#[]⟩, .slice none 0 0, .string ⟨#[]⟩, .string ⟨#[]⟩, .int .i64 0, .int .i64 0, .string ⟨#[]⟩, .string ⟨#[]⟩, .int .i64 0, .int .i64 0, .string ⟨#[]⟩] 26 (0, 0)) (by have b_ := BK101; have f_ := NB101_106; exact zb_) NB101_102.out (by simp)); replace BK106 := Aside0.mk (KeepBut.blk hk (g' := gb106) (o := .cells #[.string t103, u107001, .string t114, .string t115, .int .i64 t116, .int .i64 t117, .string t120, .string t121, .int .i64 t122, .int .i64 t123, .string ⟨#[]⟩] 26 (0, 0)) (by have b_ := BK106; exact zb_) NB106_102.out (by simp)); replace HB := Aside0.mk (hb); replace BK102 := Aside0.mk (hi.1); (try clear hb); (try clear hb2); (try clear hk); (try clear hi)))
   (try simp only [Act.put, List.setIfInBounds_toArray, List.set_cons_zero, List.set_cons_succ])
   go_cut [] (fun wc => ∃ (kq : Nat) (x103000_32 : ByteArray) (x103001_32 : Int), Aside0 (commit_Parse.j2 kq x103000_32 x103001_32 t103 x107001_2 t114 t115 t116 t117 t120 t121 t122 t123 ⟨#[]⟩ = some (r1, r2, r3, r4, r5, r6, r7, r8, r9, r10, r11, r12)) ∧ Aside0 (kq ≤ kj2) ∧ Aside0 (Kd.R Kd.string 9 wc w.heap.size (fun _ => True) u107001 x107001_2) ∧ Aside0 (wc.heap[gb101]? = some (.cells #[.string ⟨#[]⟩, (.slice none 0 0), .string ⟨#[]⟩, .string ⟨#[]⟩, .int .i64 0, .int .i64 0, .string ⟨#[]⟩, .string ⟨#[]⟩, .int .i64 0, .int .i64 0, .string ⟨#[]⟩] 26 (0, 0))) ∧ Aside0 (wc.heap[gb102]? = some (.cells #[.string x103000_32, .int .i64 x103001_32] 87 (0, 0))) ∧ Aside0 (wc.heap[gb106]? = some (.cells #[.string t103, u107001, .string t114, .string t115, .int .i64 t116, .int .i64 t117, .string t120, .string t121, .int .i64 t122, .int .i64 t123, .string ⟨#[]⟩] 26 (0, 0))) ∧ Aside0 (Below w.heap.size w wc))
   case first =>
    have H := HC33.out; clear HC33; by_cases c40 : t126.toList = ([] : List UInt8)
    ·rw [if_pos c40] at H; have c40b0 := beq_iff_eq.mpr c40; have c40b1 := bne_eq_false_iff_eq.mpr c40; (try (have c40b8 : (!t126.toList.isEmpty) = false := (by have h_ := c40b1; rw [ne_nil_bool] at h_; exact h_))); (try (have c40b9 : t126.toList.isEmpty = true := (by have h_ := c40b1; rw [ne_nil_bool] at h_; simpa using h_)))
     clear c40; (first | rw [c40b0] | (simp only [i64_w, i32_w]; rw [c40b0]) | skip); (try rw [c40b8])
     have H' := Aside0.mk H; clear H; go_wp2
     go_meet
     case rel => exact ⟨_, (t127), (t128), H', ⟨by have := HJ2.out; first | omega | exact Nat.le_refl _⟩, ⟨z32_⟩, ⟨bk_ BK101.out⟩, ⟨bk_ BK102.out⟩, ⟨bk_ BK106.out⟩, ⟨hs_⟩⟩
    rw [if_neg c40] at H; have c40b0 := beq_eq_false_iff_ne.mpr c40; have c40b1 := bne_iff_ne.mpr c40; (try (have c40b8 : (!t126.toList.isEmpty) = true := (by have h_ := c40b1; rw [ne_nil_bool] at h_; exact h_))); (try (have c40b9 : t126.toList.isEmpty = false := (by have h_ := c40b1; rw [ne_nil_bool] at h_; simpa using h_)))
    (first | rw [c40b0] | (simp only [i64_w, i32_w]; rw [c40b0]) | skip)
    (try rw [c40b8])
    replace H := Option.bind_eq_some_iff.mp H; obtain ⟨⟨t129, t130⟩, A410, H⟩ := H; dsimp only at H; have A41 := Aside0.mk A410; clear A410; have H' := Aside0.mk H; clear H; go_wp2_with (first | ((with_reducible refine gate_callee (f := 74) rfl ?_); refine gl_ (some 41) Tryz.func74 #[.pointer (some ⟨gb102, 0, none⟩), .int .i64 2] ?_; (with_reducible refine (commit_reader_fail.calls gb102 t127 t128 2 t129 t130 w _ ?side1 ?side2 A41.out).mono ?_); (case side1 => exact (show IsS87 w _ gb102 t127 t128 from ⟨(bk_ BK102.out), GE102.out⟩)); (case side2 => repeat (first | (with_reducible first | exact HB.out | apply below_alloc | apply pw_below_drewN | apply below_drew1 | refine below_set ?_ (IsS87.ge HI102.out) | refine below_set ?_ GE101.out | refine below_set ?_ GE106.out) | exact HB.out)); rintro e w42 ⟨rfl, hi, hb, hk⟩; refine ⟨_, rfl, ?_⟩; replace HO_107001 := Aside0.mk (Kd.R_mono (Kd.R_keep (IsS87.apart (show IsS87 w _ gb102 t127 t128 from by exact (show IsS87 w _ gb102 t127 t128 from ⟨(bk_ BK102.out), GE102.out⟩)) (rk_ HO_107001.out) (by decide)) hk (fun _ h => h.2)) (fun _ h => h.1)); replace BK101 := Aside0.mk (KeepBut.blk hk (g' := gb101) (o := .cells #[.string ⟨#[]⟩, .slice none 0 0, .string ⟨#[]⟩, .string ⟨#[]⟩, .int .i64 0, .int .i64 0, .string ⟨#[]⟩, .string ⟨#[]⟩, .int .i64 0, .int .i64 0, .string ⟨#[]⟩] 26 (0, 0)) (bk_ BK101.out) NB101_102.out (by simp)); replace BK106 := Aside0.mk (KeepBut.blk hk (g' := gb106) (o := .cells #[.string t103, u107001, .string t114, .string t115, .int .i64 t116, .int .i64 t117, .string t120, .string t121, .int .i64 t122, .int .i64 t123, .string ⟨#[]⟩] 26 (0, 0)) (bk_ BK106.out) NB106_102.out (by simp)); replace HB := Aside0.mk (hb); replace BK102 := Aside0.mk (hi.1); (try clear hb); (try clear hb2); (try clear hk); (try clear hi)))
    go_meet
    case rel => exact ⟨_, (t129), (t130), H', ⟨by have := HJ2.out; first | omega | exact Nat.le_refl _⟩, ⟨z32_⟩, ⟨bk_ BK101.out⟩, ⟨bk_ BK102.out⟩, ⟨bk_ BK106.out⟩, ⟨hs_⟩⟩
   case rest =>
    clear HC33; try clear c1
    try clear c2
    try clear p2
    try clear c3
    try clear c4
    try clear c7
    try clear c8
    try clear c9
    try clear c11
    try clear c11b0
    try clear c11b1
    try clear c13
    try clear c15
    try clear c16
    try clear c17
    try clear c20
    try clear c24
    try clear c25
    try clear c27
    try clear c28
    try clear c36
    try clear c37
    try clear c40
    try clear c40b0
    try clear c40b1
    try clear Z10_0 Z10_1 Z10_10 Z10_2 Z10_3 Z10_4 Z10_5 Z10_6 Z10_7 Z10_8 Z10_9
    try clear Z18_0 Z18_1
    try clear Z26_0 Z26_1
    try clear Z29_0 Z29_1
    try clear Z38_0 Z38_1 Z38_10 Z38_2 Z38_3 Z38_4 Z38_5 Z38_6 Z38_7 Z38_8 Z38_9
    try clear F10_0 F10_1 F10_10 F10_2 F10_3 F10_4 F10_5 F10_6 F10_7 F10_8 F10_9
    try clear F18_0 F18_1
    try clear F26_0 F26_1
    try clear F29_0 F29_1
    try clear F38_0 F38_1 F38_10 F38_2 F38_3 F38_4 F38_5 F38_6 F38_7 F38_8 F38_9
    try clear p2
    obtain ⟨kq, x103000_32, x103001_32, HA, HJ32, HO_107001, BK101, BK102, BK106, HB⟩ := hcut
    cases kq with
    | zero => exact absurd HA.out (by simp [commit_Parse.j2])
    | succ kj32 =>
     have H := HA.out; clear HA; simp only [commit_Parse.j2] at H; by_cases c43 : x103001_32 = 0; rotate_left
     ·rw [if_neg c43] at H; have c43b0 := beq_eq_false_iff_ne.mpr c43; have c43b1 := bne_iff_ne.mpr c43; simp only [Option.some.injEq, Prod.mk.injEq] at H; obtain ⟨rfl, rfl, rfl, rfl, rfl, rfl, rfl, rfl, rfl, rfl, rfl, rfl⟩ := H; have hnb77 := NB102_101.out; have hnc77 := NB101_102.out; have hnb78 := NB102_106.out; have hnc78 := NB106_102.out; obtain ⟨Z79_0, Z79_1, F79_0, F79_1⟩ := bc2 BK102.out; have hnb80 := NB106_101.out; have hnc80 := NB101_106.out; obtain ⟨Z81_0, Z81_1, Z81_2, Z81_3, Z81_4, Z81_5, Z81_6, Z81_7, Z81_8, Z81_9, Z81_10, F81_0, F81_1, F81_2, F81_3, F81_4, F81_5, F81_6, F81_7, F81_8, F81_9, F81_10⟩ := bc11 BK106.out; try go_wp2
      have n0_ : Aside0 (Kd.R Kd.string 9 (wc.setCell ⟨gb106, 10, none⟩ (.string x103000_32)) w.heap.size (fun _ => True) u107001 x107001_2) := ⟨by (with_reducible repeat (first | apply Kd.R_alloc | apply Kd.R_drewN | apply Kd.R_drew)); exact Kd.R_mono (Kd.R_far (p := ⟨gb106, 10, none⟩) (Kd.R_types HO_107001.out BK106.out (by decide)) (fun _ hk => hk.2) (.string x103000_32)) (fun _ hk => trivial)⟩; have n1_ : Aside0 ((wc.setCell ⟨gb106, 10, none⟩ (.string x103000_32)).heap[gb101]? = some (.cells #[.string ⟨#[]⟩, .slice none 0 0, .string ⟨#[]⟩, .string ⟨#[]⟩, .int .i64 0, .int .i64 0, .string ⟨#[]⟩, .string ⟨#[]⟩, .int .i64 0, .int .i64 0, .string ⟨#[]⟩] 26 (0, 0))) := ⟨by have b_ := BK101; have f_ := NB101_106; exact zb_⟩; have n2_ : Aside0 ((wc.setCell ⟨gb106, 10, none⟩ (.string x103000_32)).heap[gb102]? = some (.cells #[.string x103000_32, .int .i64 x103001_32] 87 (0, 0))) := ⟨by have b_ := BK102; have f_ := NB102_106; exact zb_⟩; have n3_ : Aside0 ((wc.setCell ⟨gb106, 10, none⟩ (.string x103000_32)).heap[gb106]? = some (.cells #[.string t103, u107001, .string t114, .string t115, .int .i64 t116, .int .i64 t117, .string t120, .string t121, .int .i64 t122, .int .i64 t123, .string x103000_32] 26 (0, 0))) := ⟨by have b_ := BK106; exact zb_⟩; have n4_ : Aside0 (Below w.heap.size w (wc.setCell ⟨gb106, 10, none⟩ (.string x103000_32))) := ⟨hs_⟩; (try clear HO_107001)
      (try clear BK101)
      (try clear BK102)
      (try clear BK106)
      (try clear HB)
      generalize (wc.setCell ⟨gb106, 10, none⟩ (.string x103000_32)) = w82 at n0_ n1_ n2_ n3_ n4_ ⊢; have HO_107001 := n0_; have BK101 := n1_; have BK102 := n2_; have BK106 := n3_; have HB := n4_; clear n0_ n1_ n2_ n3_ n4_; replace HO_107001 := Aside0.mk (Kd.R_drew HO_107001.out); replace BK101 := Aside0.mk (blk_drew BK101.out); replace BK102 := Aside0.mk (blk_drew BK102.out); replace BK106 := Aside0.mk (blk_drew BK106.out); replace HB := Aside0.mk (below_drew1 HB.out); refine start_ (n := 7) (S := fun w' => w'.cell? ⟨gb102, 0, none⟩ = some (.string x103000_32) ∧ w'.cell? ⟨gb102, 1, none⟩ = some (.int .i64 x103001_32)) (ds := []) (bs 7 0) (by kernel_rfl) rfl rfl ⟨(blk_cell BK102.out 0).trans rfl, (blk_cell BK102.out 1).trans rfl⟩ (fun hHeld => ?_); generalize w82.drew = w83 at HO_107001 BK101 BK102 BK106 HB hHeld ⊢; refine pk_ (i := 0) (N := some 62) (bs 7 1) rfl rfl ?_; refine pk_ (i := 1) (N := some 63) (bs 7 3) rfl rfl ?_; refine pk_ (i := 2) (N := some 64) (bs 7 7) rfl rfl ?_; refine pk_ (i := 3) (N := some 65) (bs 7 15) rfl rfl ?_; refine tkK2_ (i := 4) (N := some 66) (bs 7 31) rfl rfl hHeld ?_; refine one_ (i := 5) (N := none) (bs 7 63) rfl rfl (by kernel_rfl) (by decide) (fun K hK => ?_); have hs84 : w83.cell? ⟨gb101, 0, none⟩ = some (.string ⟨#[]⟩) := (blk_cell BK101.out 0).trans rfl; have hfs84 := blk_frozen BK101.out 0; have hns84_1 := NB102_101.out; have hns84_2 := NB106_101.out; have hms84_1 := NB101_102.out; have hms84_2 := NB101_106.out; have hs85 : w83.cell? ⟨gb101, 1, none⟩ = some (.slice none 0 0) := (blk_cell BK101.out 1).trans rfl; have hfs85 := blk_frozen BK101.out 1; have hns85_1 := NB102_101.out; have hns85_2 := NB106_101.out; have hms85_1 := NB101_102.out; have hms85_2 := NB101_106.out; have hs86 : w83.cell? ⟨gb101, 2, none⟩ = some (.string ⟨#[]⟩) := (blk_cell BK101.out 2).trans rfl; have hfs86 := blk_frozen BK101.out 2; have hns86_1 := NB102_101.out; have hns86_2 := NB106_101.out; have hms86_1 := NB101_102.out; have hms86_2 := NB101_106.out; have hs87 : w83.cell? ⟨gb101, 3, none⟩ = some (.string ⟨#[]⟩) := (blk_cell BK101.out 3).trans rfl; have hfs87 := blk_frozen BK101.out 3; have hns87_1 := NB102_101.out; have hns87_2 := NB106_101.out; have hms87_1 := NB101_102.out; have hms87_2 := NB101_106.out; have hs88 : w83.cell? ⟨gb101, 4, none⟩ = some (.int .i64 0) := (blk_cell BK101.out 4).trans rfl; have hfs88 := blk_frozen BK101.out 4; have hns88_1 := NB102_101.out; have hns88_2 := NB106_101.out; have hms88_1 := NB101_102.out; have hms88_2 := NB101_106.out; have hs89 : w83.cell? ⟨gb101, 5, none⟩ = some (.int .i64 0) := (blk_cell BK101.out 5).trans rfl; have hfs89 := blk_frozen BK101.out 5; have hns89_1 := NB102_101.out; have hns89_2 := NB106_101.out; have hms89_1 := NB101_102.out; have hms89_2 := NB101_106.out; have hs90 : w83.cell? ⟨gb101, 6, none⟩ = some (.string ⟨#[]⟩) := (blk_cell BK101.out 6).trans rfl; have hfs90 := blk_frozen BK101.out 6; have hns90_1 := NB102_101.out; have hns90_2 := NB106_101.out; have hms90_1 := NB101_102.out
      have hms90_2 := NB101_106.out; have hs91 : w83.cell? ⟨gb101, 7, none⟩ = some (.string ⟨#[]⟩) := (blk_cell BK101.out 7).trans rfl; have hfs91 := blk_frozen BK101.out 7; have hns91_1 := NB102_101.out; have hns91_2 := NB106_101.out; have hms91_1 := NB101_102.out; have hms91_2 := NB101_106.out; have hs92 : w83.cell? ⟨gb101, 8, none⟩ = some (.int .i64 0) := (blk_cell BK101.out 8).trans rfl; have hfs92 := blk_frozen BK101.out 8; have hns92_1 := NB102_101.out; have hns92_2 := NB106_101.out; have hms92_1 := NB101_102.out; have hms92_2 := NB101_106.out; have hs93 : w83.cell? ⟨gb101, 9, none⟩ = some (.int .i64 0) := (blk_cell BK101.out 9).trans rfl; have hfs93 := blk_frozen BK101.out 9; have hns93_1 := NB102_101.out; have hns93_2 := NB106_101.out; have hms93_1 := NB101_102.out; have hms93_2 := NB101_106.out; have hs94 : w83.cell? ⟨gb101, 10, none⟩ = some (.string ⟨#[]⟩) := (blk_cell BK101.out 10).trans rfl; have hfs94 := blk_frozen BK101.out 10; have hns94_1 := NB102_101.out; have hns94_2 := NB106_101.out; have hms94_1 := NB101_102.out; have hms94_2 := NB101_106.out; refine skip_ (w1 := ?_) (by rfl) rfl ?_ ?_; rotate_left
      ·go_simp
       rfl
      refine hK.out _ _ ⟨((cell_far (p := ⟨gb101, _, none⟩) NB102_101.out _).trans (((cell_far (p := ⟨gb101, _, none⟩) NB102_101.out _).trans (((cell_far (p := ⟨gb101, _, none⟩) NB102_101.out _).trans (((cell_far (p := ⟨gb101, _, none⟩) NB102_101.out _).trans (((cell_far (p := ⟨gb101, _, none⟩) NB102_101.out _).trans (((cell_far (p := ⟨gb101, _, none⟩) NB102_101.out _).trans (((cell_far (p := ⟨gb101, _, none⟩) NB102_101.out _).trans (((cell_far (p := ⟨gb101, _, none⟩) NB102_101.out _).trans (((cell_far (p := ⟨gb101, _, none⟩) NB102_101.out _).trans (((cell_far (p := ⟨gb101, _, none⟩) NB102_101.out _).trans (((cell_far (p := ⟨gb101, _, none⟩) NB102_101.out _).trans (hHeld.1)))))))))))))))))))))), ((cell_far (p := ⟨gb101, _, none⟩) NB102_101.out _).trans (((cell_far (p := ⟨gb101, _, none⟩) NB102_101.out _).trans (((cell_far (p := ⟨gb101, _, none⟩) NB102_101.out _).trans (((cell_far (p := ⟨gb101, _, none⟩) NB102_101.out _).trans (((cell_far (p := ⟨gb101, _, none⟩) NB102_101.out _).trans (((cell_far (p := ⟨gb101, _, none⟩) NB102_101.out _).trans (((cell_far (p := ⟨gb101, _, none⟩) NB102_101.out _).trans (((cell_far (p := ⟨gb101, _, none⟩) NB102_101.out _).trans (((cell_far (p := ⟨gb101, _, none⟩) NB102_101.out _).trans (((cell_far (p := ⟨gb101, _, none⟩) NB102_101.out _).trans (((cell_far (p := ⟨gb101, _, none⟩) NB102_101.out _).trans (hHeld.2))))))))))))))))))))))⟩ (fun hHeld => ?_); clear hK K; refine pk_ (i := 6) (N := some 3) (bs 7 127) rfl rfl ?_; refine done_ (by kernel_rfl) ?_; try go_wp2
      refine bodyPost_ret (results_ct rfl _ _ gb101 26 #[.string ⟨#[]⟩, .slice none 0 0, .string ⟨#[]⟩, .string ⟨#[]⟩, .int .i64 0, .int .i64 0, .string ⟨#[]⟩, .string ⟨#[]⟩, .int .i64 0, .int .i64 0, .string ⟨#[]⟩] (0, 0) _ rfl (by have b_ := BK101; exact zb_) Tryz.underlying26 rfl (by kernel_rfl)) rfl ?_; exact ⟨_, z3_, z6_, hs_⟩
     rw [if_pos c43] at H; have c43b0 := beq_iff_eq.mpr c43; have c43b1 := bne_eq_false_iff_eq.mpr c43; clear c43; replace H := Option.bind_eq_some_iff.mp H; obtain ⟨t131, A440, H⟩ := H; have A44 := Aside0.mk A440; clear A440; by_cases c45 : t131 = 0
     ·rw [if_pos c45] at H; have c45b0 := beq_iff_eq.mpr c45; have c45b1 := bne_eq_false_iff_eq.mpr c45; clear c45; simp only [Option.some.injEq, Prod.mk.injEq] at H; obtain ⟨rfl, rfl, rfl, rfl, rfl, rfl, rfl, rfl, rfl, rfl, rfl, rfl⟩ := H; have hnb46 := NB102_101.out; have hnc46 := NB101_102.out; have hnb47 := NB102_106.out; have hnc47 := NB106_102.out; obtain ⟨Z48_0, Z48_1, F48_0, F48_1⟩ := bc2 BK102.out; have hnb49 := NB106_101.out; have hnc49 := NB101_106.out; obtain ⟨Z50_0, Z50_1, Z50_2, Z50_3, Z50_4, Z50_5, Z50_6, Z50_7, Z50_8, Z50_9, Z50_10, F50_0, F50_1, F50_2, F50_3, F50_4, F50_5, F50_6, F50_7, F50_8, F50_9, F50_10⟩ := bc11 BK106.out; obtain ⟨Ao51, co51, eo51⟩ := Kd.R_slice HO_107001.out; subst eo51; go_wp2_with (first | ((with_reducible refine gate_callee (f := 18) rfl ?_); refine gl_ (some 54) Tryz.func18 #[.agg #[.string t103, .slice Ao51 x107001_2.length co51, .string t114, .string t115, .int .i64 t116, .int .i64 t117, .string t120, .string t121, .int .i64 t122, .int .i64 t123, .string x103000_32]] ?_; (with_reducible refine (commit_Check.calls kj32 t103 _ _ x107001_2 t114 t115 t116 t117 t120 t121 t122 t123 x103000_32 t131 _ ?side1 ?side2 ?side3 A44.out).mono ?_); (case side1 => refine (Kd.R_reads' (e := 9) (base := w.heap.size) (ok := fun k_ => True) (n := x107001_2.length) (c := co51) ?_).2.2; exact (by (with_reducible repeat (first | apply Kd.R_alloc | apply Kd.R_drewN | apply Kd.R_drew)); exact (Kd.R_mono (Kd.R_far (p := ⟨gb106, 10, none⟩) (Kd.R_types HO_107001.out BK106.out (by decide)) (fun _ hk => hk.2) (.string x103000_32)) (fun _ h_ => h_.1)))); (case side2 => exact (Kd.R_reads' HO_107001.out).2.1); (case side3 => exact GV.below hgv (hs_)); rintro e w52 ⟨rfl, hb⟩; refine ⟨_, rfl, ?_⟩; replace HO_107001 := Aside0.mk (Kd.R_below (by (with_reducible repeat (first | apply Kd.R_alloc | apply Kd.R_drewN | apply Kd.R_drew)); exact (Kd.R_mono (Kd.R_far (p := ⟨gb106, 10, none⟩) (Kd.R_types HO_107001.out BK106.out (by decide)) (fun _ hk => hk.2) (.string x103000_32)) (fun _ h_ => h_.1))) hb); replace BK101 := Aside0.mk (blk_below (g := gb101) (o := .cells #[.string ⟨#[]⟩, .slice none 0 0, .string ⟨#[]⟩, .string ⟨#[]⟩, .int .i64 0, .int .i64 0, .string ⟨#[]⟩, .string ⟨#[]⟩, .int .i64 0, .int .i64 0, .string ⟨#[]⟩] 26 (0, 0)) (by have b_ := BK101; have f_ := NB101_106; exact zb_) hb); replace BK102 := Aside0.mk (blk_below (g := gb102) (o := .cells #[.string x103000_32, .int .i64 x103001_32] 87 (0, 0)) (by have b_ := BK102; have f_ := NB102_106; exact zb_) hb); replace BK106 := Aside0.mk (blk_below (g := gb106) (o := .cells #[.string t103, .slice Ao51 x107001_2.length co51, .string t114, .string t115, .int .i64 t116, .int .i64 t117, .string t120, .string t121, .int .i64 t122, .int .i64 t123, .string x103000_32] 26 (0, 0)) (by have b_ := BK106; exact zb_) hb); replace HB := Aside0.mk (below_step (hs_) hb); (try clear hb); (try clear hb2); (try clear hk); (try clear hi); obtain ⟨Z53_0, Z53_1, F53_0, F53_1⟩ := bc2 BK102.out; obtain ⟨Z54_0, Z54_1, Z54_2, Z54_3, Z54_4, Z54_5, Z54_6, Z54_7, Z54_8, Z54_9, Z54_10, F54_0, F54_1, F54_2, F54_3, F54_4, F54_5, F54_6, F54_7, F54_8, F54_9, F54_10⟩ := bc11 BK106.out; obtain ⟨Z55_0, Z55_1, Z55_2, Z55_3, Z55_4, Z55_5, Z55_6, Z55_7, Z55_8, Z55_9, Z55_10, F55_0, F55_1, F55_2, F55_3, F55_4, F55_5, F55_6, F55_7, F55_8, F55_9, F55_10⟩ := bc11 BK101.out))
      refine bodyPost_ret (results_ct rfl _ _ gb101 26 #[.string t103, .slice Ao51 x107001_2.length co51, .string t114, .string t115, .int .i64 t116, .int .i64 t117, .string t120, .string t121, .int .i64 t122, .int .i64 t123, .string x103000_32] (0, 0) _ rfl (by have b_ := BK101; have f_ := NB101_102; exact zb_) Tryz.underlying26 rfl (by kernel_rfl)) rfl ?_; exact ⟨_, z3_, by (with_reducible repeat (first | apply Kd.R_alloc | apply Kd.R_drewN | apply Kd.R_drew)); exact Kd.R_mono (Kd.R_far (p := ⟨gb101, 10, none⟩) (Kd.R_far (p := ⟨gb101, 9, none⟩) (Kd.R_far (p := ⟨gb101, 8, none⟩) (Kd.R_far (p := ⟨gb101, 7, none⟩) (Kd.R_far (p := ⟨gb101, 6, none⟩) (Kd.R_far (p := ⟨gb101, 5, none⟩) (Kd.R_far (p := ⟨gb101, 4, none⟩) (Kd.R_far (p := ⟨gb101, 3, none⟩) (Kd.R_far (p := ⟨gb101, 2, none⟩) (Kd.R_far (p := ⟨gb101, 1, none⟩) (Kd.R_far (p := ⟨gb101, 0, none⟩) (Kd.R_far (p := ⟨gb102, 1, none⟩) (Kd.R_types (Kd.R_types HO_107001.out BK102.out (by decide)) BK101.out (by decide)) (fun _ hk => hk.1.2) (.int .i64 t131)) (fun _ hk => hk.2) (.string t103)) (fun _ hk => hk.2) (.slice Ao51 x107001_2.length co51)) (fun _ hk => hk.2) (.string t114)) (fun _ hk => hk.2) (.string t115)) (fun _ hk => hk.2) (.int .i64 t116)) (fun _ hk => hk.2) (.int .i64 t117)) (fun _ hk => hk.2) (.string t120)) (fun _ hk => hk.2) (.string t121)) (fun _ hk => hk.2) (.int .i64 t122)) (fun _ hk => hk.2) (.int .i64 t123)) (fun _ hk => hk.2) (.string x103000_32)) (fun _ hk => trivial), hs_⟩
     rw [if_neg c45] at H; have c45b0 := beq_eq_false_iff_ne.mpr c45; have c45b1 := bne_iff_ne.mpr c45; simp only [Option.some.injEq, Prod.mk.injEq] at H; obtain ⟨rfl, rfl, rfl, rfl, rfl, rfl, rfl, rfl, rfl, rfl, rfl, rfl⟩ := H; have hnb56 := NB102_101.out; have hnc56 := NB101_102.out; have hnb57 := NB102_106.out; have hnc57 := NB106_102.out; obtain ⟨Z58_0, Z58_1, F58_0, F58_1⟩ := bc2 BK102.out; have hnb59 := NB106_101.out; have hnc59 := NB101_106.out; obtain ⟨Z60_0, Z60_1, Z60_2, Z60_3, Z60_4, Z60_5, Z60_6, Z60_7, Z60_8, Z60_9, Z60_10, F60_0, F60_1, F60_2, F60_3, F60_4, F60_5, F60_6, F60_7, F60_8, F60_9, F60_10⟩ := bc11 BK106.out; obtain ⟨Ao61, co61, eo61⟩ := Kd.R_slice HO_107001.out; subst eo61; try go_wp2_with (first | ((with_reducible refine gate_callee (f := 18) rfl ?_); refine gl_ (some 54) Tryz.func18 #[.agg #[.string t103, .slice Ao61 x107001_2.length co61, .string t114, .string t115, .int .i64 t116, .int .i64 t117, .string t120, .string t121, .int .i64 t122, .int .i64 t123, .string x103000_32]] ?_; (with_reducible refine (commit_Check.calls kj32 t103 _ _ x107001_2 t114 t115 t116 t117 t120 t121 t122 t123 x103000_32 t131 _ ?side1 ?side2 ?side3 A44.out).mono ?_); (case side1 => refine (Kd.R_reads' (e := 9) (base := w.heap.size) (ok := fun k_ => True) (n := x107001_2.length) (c := co61) ?_).2.2; exact (by (with_reducible repeat (first | apply Kd.R_alloc | apply Kd.R_drewN | apply Kd.R_drew)); exact (Kd.R_mono (Kd.R_far (p := ⟨gb106, 10, none⟩) (Kd.R_types HO_107001.out BK106.out (by decide)) (fun _ hk => hk.2) (.string x103000_32)) (fun _ h_ => h_.1)))); (case side2 => exact (Kd.R_reads' HO_107001.out).2.1); (case side3 => exact GV.below hgv (hs_)); rintro e w62 ⟨rfl, hb⟩; refine ⟨_, rfl, ?_⟩; replace HO_107001 := Aside0.mk (Kd.R_below (by (with_reducible repeat (first | apply Kd.R_alloc | apply Kd.R_drewN | apply Kd.R_drew)); exact (Kd.R_mono (Kd.R_far (p := ⟨gb106, 10, none⟩) (Kd.R_types HO_107001.out BK106.out (by decide)) (fun _ hk => hk.2) (.string x103000_32)) (fun _ h_ => h_.1))) hb); replace BK101 := Aside0.mk (blk_below (g := gb101) (o := .cells #[.string ⟨#[]⟩, .slice none 0 0, .string ⟨#[]⟩, .string ⟨#[]⟩, .int .i64 0, .int .i64 0, .string ⟨#[]⟩, .string ⟨#[]⟩, .int .i64 0, .int .i64 0, .string ⟨#[]⟩] 26 (0, 0)) (by have b_ := BK101; have f_ := NB101_106; exact zb_) hb); replace BK102 := Aside0.mk (blk_below (g := gb102) (o := .cells #[.string x103000_32, .int .i64 x103001_32] 87 (0, 0)) (by have b_ := BK102; have f_ := NB102_106; exact zb_) hb); replace BK106 := Aside0.mk (blk_below (g := gb106) (o := .cells #[.string t103, .slice Ao61 x107001_2.length co61, .string t114, .string t115, .int .i64 t116, .int .i64 t117, .string t120, .string t121, .int .i64 t122, .int .i64 t123, .string x103000_32] 26 (0, 0)) (by have b_ := BK106; exact zb_) hb); replace HB := Aside0.mk (below_step (hs_) hb); (try clear hb); (try clear hb2); (try clear hk); (try clear hi); obtain ⟨Z63_0, Z63_1, F63_0, F63_1⟩ := bc2 BK102.out)); have n0_ : Aside0 (Kd.R Kd.string 9 (w62.setCell ⟨gb102, 1, none⟩ (.int .i64 t131)) w.heap.size (fun _ => True) (.slice Ao61 x107001_2.length co61) x107001_2) := ⟨by (with_reducible repeat (first | apply Kd.R_alloc | apply Kd.R_drewN | apply Kd.R_drew)); exact Kd.R_mono (Kd.R_far (p := ⟨gb102, 1, none⟩) (Kd.R_types HO_107001.out BK102.out (by decide)) (fun _ hk => hk.2) (.int .i64 t131)) (fun _ hk => trivial)⟩
     have n1_ : Aside0 ((w62.setCell ⟨gb102, 1, none⟩ (.int .i64 t131)).heap[gb101]? = some (.cells #[.string ⟨#[]⟩, .slice none 0 0, .string ⟨#[]⟩, .string ⟨#[]⟩, .int .i64 0, .int .i64 0, .string ⟨#[]⟩, .string ⟨#[]⟩, .int .i64 0, .int .i64 0, .string ⟨#[]⟩] 26 (0, 0))) := ⟨by have b_ := BK101; have f_ := NB101_102; exact zb_⟩; have n2_ : Aside0 ((w62.setCell ⟨gb102, 1, none⟩ (.int .i64 t131)).heap[gb102]? = some (.cells #[.string x103000_32, .int .i64 t131] 87 (0, 0))) := ⟨by have b_ := BK102; exact zb_⟩; have n3_ : Aside0 ((w62.setCell ⟨gb102, 1, none⟩ (.int .i64 t131)).heap[gb106]? = some (.cells #[.string t103, .slice Ao61 x107001_2.length co61, .string t114, .string t115, .int .i64 t116, .int .i64 t117, .string t120, .string t121, .int .i64 t122, .int .i64 t123, .string x103000_32] 26 (0, 0))) := ⟨by have b_ := BK106; have f_ := NB106_102; exact zb_⟩; have n4_ : Aside0 (Below w.heap.size w (w62.setCell ⟨gb102, 1, none⟩ (.int .i64 t131))) := ⟨hs_⟩; (try clear HO_107001)
     (try clear BK101)
     (try clear BK102)
     (try clear BK106)
     (try clear HB)
     generalize (w62.setCell ⟨gb102, 1, none⟩ (.int .i64 t131)) = w64 at n0_ n1_ n2_ n3_ n4_ ⊢; have HO_107001 := n0_; have BK101 := n1_; have BK102 := n2_; have BK106 := n3_; have HB := n4_; clear n0_ n1_ n2_ n3_ n4_; replace HO_107001 := Aside0.mk (Kd.R_drew HO_107001.out); replace BK101 := Aside0.mk (blk_drew BK101.out); replace BK102 := Aside0.mk (blk_drew BK102.out); replace BK106 := Aside0.mk (blk_drew BK106.out); replace HB := Aside0.mk (below_drew1 HB.out); refine start_ (n := 7) (S := fun w' => w'.cell? ⟨gb102, 0, none⟩ = some (.string x103000_32) ∧ w'.cell? ⟨gb102, 1, none⟩ = some (.int .i64 t131)) (ds := []) (bs 7 0) (by kernel_rfl) rfl rfl ⟨(blk_cell BK102.out 0).trans rfl, (blk_cell BK102.out 1).trans rfl⟩ (fun hHeld => ?_); generalize w64.drew = w65 at HO_107001 BK101 BK102 BK106 HB hHeld ⊢; refine pk_ (i := 0) (N := some 62) (bs 7 1) rfl rfl ?_; refine pk_ (i := 1) (N := some 63) (bs 7 3) rfl rfl ?_; refine pk_ (i := 2) (N := some 64) (bs 7 7) rfl rfl ?_; refine pk_ (i := 3) (N := some 65) (bs 7 15) rfl rfl ?_; refine tkK2_ (i := 4) (N := some 66) (bs 7 31) rfl rfl hHeld ?_; refine one_ (i := 5) (N := none) (bs 7 63) rfl rfl (by kernel_rfl) (by decide) (fun K hK => ?_); have hs66 : w65.cell? ⟨gb101, 0, none⟩ = some (.string ⟨#[]⟩) := (blk_cell BK101.out 0).trans rfl; have hfs66 := blk_frozen BK101.out 0; have hns66_1 := NB102_101.out; have hns66_2 := NB106_101.out; have hms66_1 := NB101_102.out; have hms66_2 := NB101_106.out; have hs67 : w65.cell? ⟨gb101, 1, none⟩ = some (.slice none 0 0) := (blk_cell BK101.out 1).trans rfl; have hfs67 := blk_frozen BK101.out 1; have hns67_1 := NB102_101.out; have hns67_2 := NB106_101.out; have hms67_1 := NB101_102.out; have hms67_2 := NB101_106.out; have hs68 : w65.cell? ⟨gb101, 2, none⟩ = some (.string ⟨#[]⟩) := (blk_cell BK101.out 2).trans rfl; have hfs68 := blk_frozen BK101.out 2; have hns68_1 := NB102_101.out; have hns68_2 := NB106_101.out; have hms68_1 := NB101_102.out; have hms68_2 := NB101_106.out; have hs69 : w65.cell? ⟨gb101, 3, none⟩ = some (.string ⟨#[]⟩) := (blk_cell BK101.out 3).trans rfl; have hfs69 := blk_frozen BK101.out 3; have hns69_1 := NB102_101.out; have hns69_2 := NB106_101.out; have hms69_1 := NB101_102.out; have hms69_2 := NB101_106.out; have hs70 : w65.cell? ⟨gb101, 4, none⟩ = some (.int .i64 0) := (blk_cell BK101.out 4).trans rfl; have hfs70 := blk_frozen BK101.out 4; have hns70_1 := NB102_101.out; have hns70_2 := NB106_101.out; have hms70_1 := NB101_102.out; have hms70_2 := NB101_106.out; have hs71 : w65.cell? ⟨gb101, 5, none⟩ = some (.int .i64 0) := (blk_cell BK101.out 5).trans rfl; have hfs71 := blk_frozen BK101.out 5; have hns71_1 := NB102_101.out; have hns71_2 := NB106_101.out; have hms71_1 := NB101_102.out; have hms71_2 := NB101_106.out; have hs72 : w65.cell? ⟨gb101, 6, none⟩ = some (.string ⟨#[]⟩) := (blk_cell BK101.out 6).trans rfl; have hfs72 := blk_frozen BK101.out 6; have hns72_1 := NB102_101.out; have hns72_2 := NB106_101.out; have hms72_1 := NB101_102.out
     have hms72_2 := NB101_106.out; have hs73 : w65.cell? ⟨gb101, 7, none⟩ = some (.string ⟨#[]⟩) := (blk_cell BK101.out 7).trans rfl; have hfs73 := blk_frozen BK101.out 7; have hns73_1 := NB102_101.out; have hns73_2 := NB106_101.out; have hms73_1 := NB101_102.out; have hms73_2 := NB101_106.out; have hs74 : w65.cell? ⟨gb101, 8, none⟩ = some (.int .i64 0) := (blk_cell BK101.out 8).trans rfl; have hfs74 := blk_frozen BK101.out 8; have hns74_1 := NB102_101.out; have hns74_2 := NB106_101.out; have hms74_1 := NB101_102.out; have hms74_2 := NB101_106.out; have hs75 : w65.cell? ⟨gb101, 9, none⟩ = some (.int .i64 0) := (blk_cell BK101.out 9).trans rfl; have hfs75 := blk_frozen BK101.out 9; have hns75_1 := NB102_101.out; have hns75_2 := NB106_101.out; have hms75_1 := NB101_102.out; have hms75_2 := NB101_106.out; have hs76 : w65.cell? ⟨gb101, 10, none⟩ = some (.string ⟨#[]⟩) := (blk_cell BK101.out 10).trans rfl; have hfs76 := blk_frozen BK101.out 10; have hns76_1 := NB102_101.out; have hns76_2 := NB106_101.out; have hms76_1 := NB101_102.out; have hms76_2 := NB101_106.out; refine skip_ (w1 := ?_) (by rfl) rfl ?_ ?_; rotate_left
     ·go_simp
      rfl
     refine hK.out _ _ ⟨((cell_far (p := ⟨gb101, _, none⟩) NB102_101.out _).trans (((cell_far (p := ⟨gb101, _, none⟩) NB102_101.out _).trans (((cell_far (p := ⟨gb101, _, none⟩) NB102_101.out _).trans (((cell_far (p := ⟨gb101, _, none⟩) NB102_101.out _).trans (((cell_far (p := ⟨gb101, _, none⟩) NB102_101.out _).trans (((cell_far (p := ⟨gb101, _, none⟩) NB102_101.out _).trans (((cell_far (p := ⟨gb101, _, none⟩) NB102_101.out _).trans (((cell_far (p := ⟨gb101, _, none⟩) NB102_101.out _).trans (((cell_far (p := ⟨gb101, _, none⟩) NB102_101.out _).trans (((cell_far (p := ⟨gb101, _, none⟩) NB102_101.out _).trans (((cell_far (p := ⟨gb101, _, none⟩) NB102_101.out _).trans (hHeld.1)))))))))))))))))))))), ((cell_far (p := ⟨gb101, _, none⟩) NB102_101.out _).trans (((cell_far (p := ⟨gb101, _, none⟩) NB102_101.out _).trans (((cell_far (p := ⟨gb101, _, none⟩) NB102_101.out _).trans (((cell_far (p := ⟨gb101, _, none⟩) NB102_101.out _).trans (((cell_far (p := ⟨gb101, _, none⟩) NB102_101.out _).trans (((cell_far (p := ⟨gb101, _, none⟩) NB102_101.out _).trans (((cell_far (p := ⟨gb101, _, none⟩) NB102_101.out _).trans (((cell_far (p := ⟨gb101, _, none⟩) NB102_101.out _).trans (((cell_far (p := ⟨gb101, _, none⟩) NB102_101.out _).trans (((cell_far (p := ⟨gb101, _, none⟩) NB102_101.out _).trans (((cell_far (p := ⟨gb101, _, none⟩) NB102_101.out _).trans (hHeld.2))))))))))))))))))))))⟩ (fun hHeld => ?_); clear hK K; refine pk_ (i := 6) (N := some 3) (bs 7 127) rfl rfl ?_; refine done_ (by kernel_rfl) ?_; try go_wp2
     refine bodyPost_ret (results_ct rfl _ _ gb101 26 #[.string ⟨#[]⟩, .slice none 0 0, .string ⟨#[]⟩, .string ⟨#[]⟩, .int .i64 0, .int .i64 0, .string ⟨#[]⟩, .string ⟨#[]⟩, .int .i64 0, .int .i64 0, .string ⟨#[]⟩] (0, 0) _ rfl (by have b_ := BK101; exact zb_) Tryz.underlying26 rfl (by kernel_rfl)) rfl ?_; exact ⟨_, z3_, z6_, hs_⟩


def graftagelaw16_who.f  : Option (ByteArray × ByteArray × Int × Int) := some ((⟨#[97]⟩ : ByteArray), (⟨#[97, 64, 98]⟩ : ByteArray), 5, 60)
set_option maxHeartbeats 8000000 in
set_option maxRecDepth 100000 in
theorem graftagelaw16_who.calls  (r1 : ByteArray) (r2 : ByteArray) (r3 : Int) (r4 : Int) (w : World) (h : graftagelaw16_who.f  = some (r1, r2, r3, r4)) :
  Calls Tryz.prog 63 #[] w fun e w' => e = .returned (.agg #[.string r1, .string r2, .int .i64 r3, .int .i64 r4]) ∧ Below w.heap.size w w' := by
 have hu24 := Tryz.underlying24; have HB := Aside0.mk (Below.refl w.heap.size w); unfold graftagelaw16_who.f at h; have H := h; clear h; simp only [Option.some.injEq, Prod.mk.injEq] at H; obtain ⟨rfl, rfl, rfl, rfl⟩ := H; go_enter Tryz.func63, Tryz.ntmps63; go_wp2_with (first | ((with_reducible refine gate_dst (N := 0) rfl ?_); refine be_ (cs := #[.string ⟨#[]⟩, .string ⟨#[]⟩, .int .i64 0, .int .i64 0]) (t := 24) ?_; intro gb139 hg w1 hbox hb; have BK139 := Aside0.mk (hbox); have GW139 := ag_ hg HB; have GE139 := ag_ hg HB; replace HB := ah_ HB hb; clear hb hbox hg; obtain ⟨Z2_0, Z2_1, Z2_2, Z2_3, F2_0, F2_1, F2_2, F2_3⟩ := bc4 BK139.out)); refine bodyPost_ret (results_cell_row rfl _ _ gb139 24 #[.string ⟨#[97]⟩, .string ⟨#[97, 64, 98]⟩, .int .i64 5, .int .i64 60] (0, 0) _ rfl (by have b_ := BK139; exact zb_) Tryz.underlying24 rfl (by kernel_rfl)) rfl ?_; exact ⟨z3_, hs_⟩


def commit_tagged.l0 : Nat → ByteArray → Int → Int → Option (Bool)
 | 0, _, _, _ => none
 | k + 1, x0, x5, x6 => if x6 < x5 then (if 0 ≤ x6 then (if x6 < (x0.size : Int) then (if (bt x0 x6) ≤ 32 then (some false) else (commit_tagged.l0 k x0 x5 (wrap64 (x6 + 1)))) else (none)) else (none)) else (if (x0.size : Int) ≥ 1 then (some (decide ((x0.size : Int) ≤ 64))) else (some false))
def commit_tagged.f (k : Nat) (a0 : ByteArray) : Option (Bool) := commit_tagged.l0 k a0 (a0.size : Int) 0
theorem commit_tagged.mono_l : ∀ k, (∀ y0 y1 y2, LeO (commit_tagged.l0 k y0 y1 y2) (commit_tagged.l0 (k + 1) y0 y1 y2))
 | 0 => fun _ _ _ r h => by simp [commit_tagged.l0] at h
 | k + 1 => by
  have ih0 := commit_tagged.mono_l k
  ·intro y0 y1 y2
   unfold commit_tagged.l0
   have m0_ := @ih0
   exact mz_
theorem commit_tagged.mono : ∀ a0 k, LeO (commit_tagged.f k a0) (commit_tagged.f (k + 1) a0) := by
 intro a0 k; have ih0 := commit_tagged.mono_l k; unfold commit_tagged.f; have m0_ := @ih0; exact mz_
set_option maxHeartbeats 8000000 in
set_option maxRecDepth 100000 in
theorem commit_tagged.calls (k : Nat) (a0 : ByteArray) (r : Bool) (w : World) (h : commit_tagged.f k a0 = some r) :
  Calls Tryz.prog 81 #[.string a0] w fun e w' => e = .returned (.bool r) ∧ Drawn0 w w' := by
 unfold commit_tagged.f at h; have H := h; clear h; have H' := Aside0.mk H; clear H; go_enter Tryz.func81, Tryz.ntmps81; go_wp2
 go_loopg [6] k (fun kq v6 w' => ∃ (x6_1 : Int), v6 = .int .i64 x6_1 ∧ Aside0 (commit_tagged.l0 kq a0 (a0.size : Int) x6_1 = some r) ∧ Aside0 (kq ≤ k) ∧ Drawn0 w w')
 case atStart => exact ⟨(0), z1_, H', ⟨Nat.le_refl _⟩, z2_⟩
 case round =>
  clear H'; obtain ⟨x6_1, rfl, HA, HK1, ⟨m1, rfl⟩⟩ := hrel
  cases gk with
  | zero => exact absurd HA.out (by simp [commit_tagged.l0])
  | succ k1 =>
   have H := HA.out; clear HA; simp only [commit_tagged.l0] at H; by_cases c2 : x6_1 < (a0.size : Int); rotate_left
   ·rw [if_neg c2] at H; have c2b0 := decide_eq_false c2; clear c2; by_cases c7 : (a0.size : Int) ≥ 1
    ·rw [if_pos c7] at H; have c7b0 := decide_eq_true c7; have c7b1 : decide (1 ≤ a0.size) = true := decide_eq_true (by omega); clear c7; obtain rfl := Option.some.inj H; go_wp2
     go_ret
     exact ⟨z1_, z2_⟩
    rw [if_neg c7] at H; have c7b0 := decide_eq_false c7; have c7b1 : decide (1 ≤ a0.size) = false := decide_eq_false (by omega); clear c7; obtain rfl := Option.some.inj H; go_wp2
    go_ret
    exact ⟨z1_, z2_⟩
   rw [if_pos c2] at H; have c2b0 := decide_eq_true c2; clear c2; by_cases c3 : 0 ≤ x6_1; rotate_left
   ·rw [if_neg c3] at H; exact absurd H (by simp)
   rw [if_pos c3] at H; have c3b0 := decide_eq_true c3; clear c3; by_cases c4 : x6_1 < (a0.size : Int); rotate_left
   ·rw [if_neg c4] at H; exact absurd H (by simp)
   rw [if_pos c4] at H; have c4b0 := decide_eq_true c4; clear c4; by_cases c6 : (bt a0 x6_1) ≤ 32
   ·rw [if_pos c6] at H; have c6b0 := decide_eq_true c6; clear c6; obtain rfl := Option.some.inj H; have p5 : 0 ≤ (x6_1 : Int) := of_decide_eq_true z0_; have q5 : x6_1 < (a0.size : Int) := of_decide_eq_true z0_; have hx5 := bt_at a0 x6_1; replace p5 := eq_true p5; replace q5 := eq_true q5; go_wp2
    go_ret
    exact ⟨z1_, z2_⟩
   rw [if_neg c6] at H; have c6b0 := decide_eq_false c6; clear c6; have H' := Aside0.mk H; clear H; have p5 : 0 ≤ (x6_1 : Int) := of_decide_eq_true z0_; have q5 : x6_1 < (a0.size : Int) := of_decide_eq_true z0_; have hx5 := bt_at a0 x6_1; replace p5 := eq_true p5; replace q5 := eq_true q5; go_wp2
   go_roundg k1
   case measure => have := HK1.out; omega
   case rel => exact ⟨(wrap64 (x6_1 + 1)), z1_, H', ⟨by have := HK1.out; omega⟩, z2_⟩

end Go.Proofs.YtbhfbbfjdklfgaaGreatDoor.Q


/- object.kinds, Word and Kind, by hand (an array of structs). -/
namespace Go.Proofs.YtbhfbbfjdklfgaaGreatDoor.Q
open Go.RowKit Go.Proofs.YtbhfbbfjdklfgaaGreatDoorW.PrintWords Go.Proofs.YtbhfbbfjdklfgaaGreatDoorW.PrintLast Go.Proofs.YtbhfbbfjdklfgaaGreatDoorW.PrintMore
theorem kinds_size : (Tryz.prog.info? 148).map (·.size) = some 8 := by kernel_rfl
set_option maxHeartbeats 8000000 in
set_option maxRecDepth 100000 in
theorem kinds_calls (w : World) : Calls Tryz.prog 143 #[] w fun e w' => e = .returned (.agg #[.int .i64 1, .string ⟨#[98, 108, 111, 98]⟩, .int .i64 2, .string ⟨#[116, 114, 101, 101]⟩, .int .i64 3, .string ⟨#[99, 111, 109, 109, 105, 116]⟩, .int .i64 4, .string ⟨#[116, 97, 103]⟩]) ∧ Below w.heap.size w w' := by
  have HB := Aside0.mk (Below.refl w.heap.size w)
  have huk := Tryz.underlying148
  have huk2 := Tryz.underlying147
  go_enter Tryz.func143, Tryz.ntmps143
  go_wp2_with ((with_reducible refine gate_dst (N := 0) rfl ?_); refine box_event ?hg (N := 0) ?hd (cs := #[.int .i64 0, .string ⟨#[]⟩, .int .i64 0, .string ⟨#[]⟩, .int .i64 0, .string ⟨#[]⟩, .int .i64 0, .string ⟨#[]⟩]) (t := 148) ?hr ?_; (case hd => rfl); (case hg => rfl); (case hr => first | (go_simp; done) | (go_simp; rfl)); intro gb hg w3 hbox hb; have HB3 := Aside0.mk (below_step HB.out hb); have BK := Aside0.mk hbox; have GE := Aside0.mk (show w.heap.size ≤ gb by rw [hg]; exact Nat.le_refl _); clear hb hbox hg; have hcz0 : w3.cell? ⟨gb, 0, none⟩ = some (.int .i64 0) := (blk_cell BK.out 0).trans rfl; have hfz0 := blk_frozen BK.out 0; have hcz1 : w3.cell? ⟨gb, 1, none⟩ = some (.string ⟨#[]⟩) := (blk_cell BK.out 1).trans rfl; have hfz1 := blk_frozen BK.out 1; have hcz2 : w3.cell? ⟨gb, 2, none⟩ = some (.int .i64 0) := (blk_cell BK.out 2).trans rfl; have hfz2 := blk_frozen BK.out 2; have hcz3 : w3.cell? ⟨gb, 3, none⟩ = some (.string ⟨#[]⟩) := (blk_cell BK.out 3).trans rfl; have hfz3 := blk_frozen BK.out 3; have hcz4 : w3.cell? ⟨gb, 4, none⟩ = some (.int .i64 0) := (blk_cell BK.out 4).trans rfl; have hfz4 := blk_frozen BK.out 4; have hcz5 : w3.cell? ⟨gb, 5, none⟩ = some (.string ⟨#[]⟩) := (blk_cell BK.out 5).trans rfl; have hfz5 := blk_frozen BK.out 5; have hcz6 : w3.cell? ⟨gb, 6, none⟩ = some (.int .i64 0) := (blk_cell BK.out 6).trans rfl; have hfz6 := blk_frozen BK.out 6; have hcz7 : w3.cell? ⟨gb, 7, none⟩ = some (.string ⟨#[]⟩) := (blk_cell BK.out 7).trans rfl; have hfz7 := blk_frozen BK.out 7)
  clear hcz0 hcz1 hcz2 hcz3 hcz4 hcz5 hcz6 hcz7 hfz0 hfz1 hfz2 hfz3 hfz4 hfz5 hfz6 hfz7
  have hh := (blk_put (cs := #[.int .i64 1, .string ⟨#[98, 108, 111, 98]⟩, .int .i64 2, .string ⟨#[116, 114, 101, 101]⟩, .int .i64 3, .string ⟨#[99, 111, 109, 109, 105, 116]⟩, .int .i64 4, .string ⟨#[]⟩]) (cs' := #[.int .i64 1, .string ⟨#[98, 108, 111, 98]⟩, .int .i64 2, .string ⟨#[116, 114, 101, 101]⟩, .int .i64 3, .string ⟨#[99, 111, 109, 109, 105, 116]⟩, .int .i64 4, .string ⟨#[116, 97, 103]⟩]) (blk_put (cs := #[.int .i64 1, .string ⟨#[98, 108, 111, 98]⟩, .int .i64 2, .string ⟨#[116, 114, 101, 101]⟩, .int .i64 3, .string ⟨#[99, 111, 109, 109, 105, 116]⟩, .int .i64 0, .string ⟨#[]⟩]) (cs' := #[.int .i64 1, .string ⟨#[98, 108, 111, 98]⟩, .int .i64 2, .string ⟨#[116, 114, 101, 101]⟩, .int .i64 3, .string ⟨#[99, 111, 109, 109, 105, 116]⟩, .int .i64 4, .string ⟨#[]⟩]) (blk_put (cs := #[.int .i64 1, .string ⟨#[98, 108, 111, 98]⟩, .int .i64 2, .string ⟨#[116, 114, 101, 101]⟩, .int .i64 3, .string ⟨#[]⟩, .int .i64 0, .string ⟨#[]⟩]) (cs' := #[.int .i64 1, .string ⟨#[98, 108, 111, 98]⟩, .int .i64 2, .string ⟨#[116, 114, 101, 101]⟩, .int .i64 3, .string ⟨#[99, 111, 109, 109, 105, 116]⟩, .int .i64 0, .string ⟨#[]⟩]) (blk_put (cs := #[.int .i64 1, .string ⟨#[98, 108, 111, 98]⟩, .int .i64 2, .string ⟨#[116, 114, 101, 101]⟩, .int .i64 0, .string ⟨#[]⟩, .int .i64 0, .string ⟨#[]⟩]) (cs' := #[.int .i64 1, .string ⟨#[98, 108, 111, 98]⟩, .int .i64 2, .string ⟨#[116, 114, 101, 101]⟩, .int .i64 3, .string ⟨#[]⟩, .int .i64 0, .string ⟨#[]⟩]) (blk_put (cs := #[.int .i64 1, .string ⟨#[98, 108, 111, 98]⟩, .int .i64 2, .string ⟨#[]⟩, .int .i64 0, .string ⟨#[]⟩, .int .i64 0, .string ⟨#[]⟩]) (cs' := #[.int .i64 1, .string ⟨#[98, 108, 111, 98]⟩, .int .i64 2, .string ⟨#[116, 114, 101, 101]⟩, .int .i64 0, .string ⟨#[]⟩, .int .i64 0, .string ⟨#[]⟩]) (blk_put (cs := #[.int .i64 1, .string ⟨#[98, 108, 111, 98]⟩, .int .i64 0, .string ⟨#[]⟩, .int .i64 0, .string ⟨#[]⟩, .int .i64 0, .string ⟨#[]⟩]) (cs' := #[.int .i64 1, .string ⟨#[98, 108, 111, 98]⟩, .int .i64 2, .string ⟨#[]⟩, .int .i64 0, .string ⟨#[]⟩, .int .i64 0, .string ⟨#[]⟩]) (blk_put (cs := #[.int .i64 1, .string ⟨#[]⟩, .int .i64 0, .string ⟨#[]⟩, .int .i64 0, .string ⟨#[]⟩, .int .i64 0, .string ⟨#[]⟩]) (cs' := #[.int .i64 1, .string ⟨#[98, 108, 111, 98]⟩, .int .i64 0, .string ⟨#[]⟩, .int .i64 0, .string ⟨#[]⟩, .int .i64 0, .string ⟨#[]⟩]) (blk_put (cs := #[.int .i64 0, .string ⟨#[]⟩, .int .i64 0, .string ⟨#[]⟩, .int .i64 0, .string ⟨#[]⟩, .int .i64 0, .string ⟨#[]⟩]) (cs' := #[.int .i64 1, .string ⟨#[]⟩, .int .i64 0, .string ⟨#[]⟩, .int .i64 0, .string ⟨#[]⟩, .int .i64 0, .string ⟨#[]⟩]) BK.out 0 (.int .i64 1) rfl) 1 (.string ⟨#[98, 108, 111, 98]⟩) rfl) 2 (.int .i64 2) rfl) 3 (.string ⟨#[116, 114, 101, 101]⟩) rfl) 4 (.int .i64 3) rfl) 5 (.string ⟨#[99, 111, 109, 109, 105, 116]⟩) rfl) 6 (.int .i64 4) rfl) 7 (.string ⟨#[116, 97, 103]⟩) rfl)
  refine bodyPost_ret (results_cell_row rfl _ _ gb 148 #[.int .i64 1, .string ⟨#[98, 108, 111, 98]⟩, .int .i64 2, .string ⟨#[116, 114, 101, 101]⟩, .int .i64 3, .string ⟨#[99, 111, 109, 109, 105, 116]⟩, .int .i64 4, .string ⟨#[116, 97, 103]⟩] (0, 0) _ rfl hh huk rfl kinds_size) rfl ?_
  exact ⟨rfl, (below_set (below_set (below_set (below_set (below_set (below_set (below_set (below_set HB3.out GE.out) GE.out) GE.out) GE.out) GE.out) GE.out) GE.out) GE.out)⟩
/-- the words of the kinds, by their places -/
def kindW : Nat → ByteArray
  | 0 => ⟨#[98, 108, 111, 98]⟩
  | 1 => ⟨#[116, 114, 101, 101]⟩
  | 2 => ⟨#[99, 111, 109, 109, 105, 116]⟩
  | _ => ⟨#[116, 97, 103]⟩
def wordF (n : Int) : Nat → Nat → ByteArray
  | 0, _ => ⟨#[]⟩
  | d + 1, i => if ((i : Int) + 1) = n then kindW i else wordF n d (i + 1)
def kindF (s : ByteArray) : Nat → Nat → Int
  | 0, _ => 0
  | d + 1, i => if (kindW i).toList = s.toList then (i : Int) + 1 else kindF s d (i + 1)
def object_Word.f (a0 : Int) : Option ByteArray := some (wordF a0 4 0)
def object_Kind.f (a0 : ByteArray) : Option Int := some (kindF a0 4 0)
def kindsV : Value := .agg #[.int .i64 1, .string ⟨#[98, 108, 111, 98]⟩, .int .i64 2, .string ⟨#[116, 114, 101, 101]⟩, .int .i64 3, .string ⟨#[99, 111, 109, 109, 105, 116]⟩, .int .i64 4, .string ⟨#[116, 97, 103]⟩]
theorem kinds_index (x : Int) (h0 : 0 ≤ x) (h5 : x < 4) (W : World) : (Instr.index 148 kindsV (.int .i64 x)).run Tryz.prog W = .ok (.agg #[.int .i64 (x + 1), .string (kindW x.toNat)]) W := by
  have hu := Tryz.underlying148
  have hz := Tryz.sizeOf147
  have ha := Tryz.isAgg147
  have : x = 0 ∨ x = 1 ∨ x = 2 ∨ x = 3 := by omega
  rcases this with rfl | rfl | rfl | rfl <;> simp [Instr.index, kindsV, kindW, asIntOf, run_underlying hu, hz, Go.part, ha] <;> rfl
set_option maxHeartbeats 8000000 in
set_option maxRecDepth 100000 in
theorem object_Word.calls (a0 : Int) (r : ByteArray) (w : World) (h : object_Word.f a0 = some r) :
    Calls Tryz.prog 79 #[.int .i64 a0] w fun e w' => e = .returned (.string r) ∧ Below w.heap.size w w' := by
  have H' := Aside0.mk (show wordF a0 4 0 = r from Option.some.inj h)
  have hu47 := Tryz.underlying147
  clear h
  go_enter Tryz.func79, Tryz.ntmps79
  go_wp2_with (go_at_call 143; (with_reducible refine (kinds_calls _).mono ?_); rintro e w1 ⟨rfl, hb⟩; have HB := Aside0.mk hb; clear hb)
  go_loopg [6] 4 (fun g v6 wr => ∃ (i : Nat) (x : Int), v6 = .int .i64 x ∧ Aside0 (x = (i : Int) ∧ i + g = 4) ∧ Aside0 (Below w.heap.size w wr) ∧ Aside0 (wordF a0 g i = r))
  case atStart => exact ⟨0, 0, rfl, ⟨rfl, rfl⟩, HB, H'⟩
  case round =>
    clear H' HB
    obtain ⟨i, x, rfl, HX, HB, H⟩ := hrel
    cases gk with
    | zero =>
      have h5 : decide (x < 4) = false := by have := HX.out; exact decide_eq_false (by omega)
      have H0 := H.out
      rw [wordF] at H0
      subst H0
      clear H
      go_wp2
      go_ret
      exact ⟨rfl, HB.out⟩
    | succ g =>
      have H0 := H.out
      rw [wordF] at H0
      have h5 : decide (x < 4) = true := by have := HX.out; exact decide_eq_true (by omega)
      have hw1 : IntKind.i64.wrap (x + 1) = x + 1 := by have := HX.out; rw [IntKind.wrap_i64]; omega
      have hx0 := kinds_index x (by have := HX.out; omega) (by have := HX.out; omega)
      unfold kindsV at hx0
      obtain ⟨q, hq⟩ : ∃ q, q = kindW x.toNat := ⟨_, rfl⟩
      have HQ := Aside0.mk hq
      rw [← hq] at hx0
      clear hq H
      by_cases hz : x + 1 = a0
      · have hz1 : (x + 1 == a0) = true := by simpa using hz
        rw [if_pos (by have := HX.out; omega)] at H0
        have e : q = r := by rw [HQ.out, ← H0, show x.toNat = i by have := HX.out; omega]
        subst e
        clear hz H0
        go_wp2_with ((with_reducible refine gate_dst (N := 4) rfl ?_); refine box_event ?hg (N := 4) ?hd (cs := #[.int .i64 0, .string ⟨#[]⟩]) (t := 147) ?hr ?_; (case hd => rfl); (case hg => rfl); (case hr => first | (go_simp; done) | (go_simp; rfl)); intro gb hg w6 hbox hb2; have HB6 := Aside0.mk (below_step HB.out hb2); have GE6 := Aside0.mk (show w.heap.size ≤ gb by rw [hg]; exact HB.out.size); have BK6 := Aside0.mk hbox; clear hb2 hbox hg; have hcz0 : w6.cell? ⟨gb, 0, none⟩ = some (.int .i64 0) := (blk_cell BK6.out 0).trans rfl; have hcz1 : w6.cell? ⟨gb, 1, none⟩ = some (.string (⟨#[]⟩ : ByteArray)) := (blk_cell BK6.out 1).trans rfl; have hfz0 := blk_frozen BK6.out 0; have hfz1 := blk_frozen BK6.out 1)
        go_ret
        exact ⟨rfl, below_set (below_set HB6.out GE6.out) GE6.out⟩
      · have hz1 : (x + 1 == a0) = false := by simpa using hz
        rw [if_neg (by have := HX.out; omega)] at H0
        have HN := Aside0.mk H0
        clear hz H0
        go_wp2_with ((with_reducible refine gate_dst (N := 4) rfl ?_); refine box_event ?hg (N := 4) ?hd (cs := #[.int .i64 0, .string ⟨#[]⟩]) (t := 147) ?hr ?_; (case hd => rfl); (case hg => rfl); (case hr => first | (go_simp; done) | (go_simp; rfl)); intro gb hg w6 hbox hb2; have HB6 := Aside0.mk (below_step HB.out hb2); have GE6 := Aside0.mk (show w.heap.size ≤ gb by rw [hg]; exact HB.out.size); have BK6 := Aside0.mk hbox; clear hb2 hbox hg; have hcz0 : w6.cell? ⟨gb, 0, none⟩ = some (.int .i64 0) := (blk_cell BK6.out 0).trans rfl; have hcz1 : w6.cell? ⟨gb, 1, none⟩ = some (.string (⟨#[]⟩ : ByteArray)) := (blk_cell BK6.out 1).trans rfl; have hfz0 := blk_frozen BK6.out 0; have hfz1 := blk_frozen BK6.out 1)
        go_roundg g
        case measure => omega
        case rel => exact ⟨i + 1, x + 1, rfl, ⟨by have := HX.out; omega, by have := HX.out; omega⟩, ⟨below_set (below_set HB6.out GE6.out) GE6.out⟩, HN⟩
set_option maxHeartbeats 8000000 in
set_option maxRecDepth 100000 in
theorem object_Kind.calls (a0 : ByteArray) (r : Int) (w : World) (h : object_Kind.f a0 = some r) :
    Calls Tryz.prog 77 #[.string a0] w fun e w' => e = .returned (.int .i64 r) ∧ Below w.heap.size w w' := by
  have H' := Aside0.mk (show kindF a0 4 0 = r from Option.some.inj h)
  have hu47 := Tryz.underlying147
  clear h
  go_enter Tryz.func77, Tryz.ntmps77
  go_wp2_with (go_at_call 143; (with_reducible refine (kinds_calls _).mono ?_); rintro e w1 ⟨rfl, hb⟩; have HB := Aside0.mk hb; clear hb)
  go_loopg [6] 4 (fun g v6 wr => ∃ (i : Nat) (x : Int), v6 = .int .i64 x ∧ Aside0 (x = (i : Int) ∧ i + g = 4) ∧ Aside0 (Below w.heap.size w wr) ∧ Aside0 (kindF a0 g i = r))
  case atStart => exact ⟨0, 0, rfl, ⟨rfl, rfl⟩, HB, H'⟩
  case round =>
    clear H' HB
    obtain ⟨i, x, rfl, HX, HB, H⟩ := hrel
    cases gk with
    | zero =>
      have h5 : decide (x < 4) = false := by have := HX.out; exact decide_eq_false (by omega)
      have H0 := H.out
      rw [kindF] at H0
      subst H0
      clear H
      go_wp2
      go_ret
      exact ⟨rfl, HB.out⟩
    | succ g =>
      have H0 := H.out
      rw [kindF] at H0
      have h5 : decide (x < 4) = true := by have := HX.out; exact decide_eq_true (by omega)
      have hw1 : IntKind.i64.wrap (x + 1) = x + 1 := by have := HX.out; rw [IntKind.wrap_i64]; omega
      have hx0 := kinds_index x (by have := HX.out; omega) (by have := HX.out; omega)
      unfold kindsV at hx0
      obtain ⟨q, hq⟩ : ∃ q, q = kindW i := ⟨_, rfl⟩
      have HQ := Aside0.mk hq
      rw [show x.toNat = i by have := HX.out; omega, ← hq] at hx0
      rw [← hq] at H0
      clear hq H
      by_cases hz : q.toList = a0.toList
      · have hz1 : (q.toList == a0.toList) = true := by simpa using hz
        rw [if_pos hz] at H0
        have e : x + 1 = r := by have := HX.out; omega
        subst e
        clear hz H0
        go_wp2_with ((with_reducible refine gate_dst (N := 4) rfl ?_); refine box_event ?hg (N := 4) ?hd (cs := #[.int .i64 0, .string ⟨#[]⟩]) (t := 147) ?hr ?_; (case hd => rfl); (case hg => rfl); (case hr => first | (go_simp; done) | (go_simp; rfl)); intro gb hg w6 hbox hb2; have HB6 := Aside0.mk (below_step HB.out hb2); have GE6 := Aside0.mk (show w.heap.size ≤ gb by rw [hg]; exact HB.out.size); have BK6 := Aside0.mk hbox; clear hb2 hbox hg; have hcz0 : w6.cell? ⟨gb, 0, none⟩ = some (.int .i64 0) := (blk_cell BK6.out 0).trans rfl; have hcz1 : w6.cell? ⟨gb, 1, none⟩ = some (.string (⟨#[]⟩ : ByteArray)) := (blk_cell BK6.out 1).trans rfl; have hfz0 := blk_frozen BK6.out 0; have hfz1 := blk_frozen BK6.out 1)
        go_ret
        exact ⟨rfl, below_set (below_set HB6.out GE6.out) GE6.out⟩
      · have hz1 : (q.toList == a0.toList) = false := by simpa using hz
        rw [if_neg hz] at H0
        have HN := Aside0.mk H0
        clear hz H0
        go_wp2_with ((with_reducible refine gate_dst (N := 4) rfl ?_); refine box_event ?hg (N := 4) ?hd (cs := #[.int .i64 0, .string ⟨#[]⟩]) (t := 147) ?hr ?_; (case hd => rfl); (case hg => rfl); (case hr => first | (go_simp; done) | (go_simp; rfl)); intro gb hg w6 hbox hb2; have HB6 := Aside0.mk (below_step HB.out hb2); have GE6 := Aside0.mk (show w.heap.size ≤ gb by rw [hg]; exact HB.out.size); have BK6 := Aside0.mk hbox; clear hb2 hbox hg; have hcz0 : w6.cell? ⟨gb, 0, none⟩ = some (.int .i64 0) := (blk_cell BK6.out 0).trans rfl; have hcz1 : w6.cell? ⟨gb, 1, none⟩ = some (.string (⟨#[]⟩ : ByteArray)) := (blk_cell BK6.out 1).trans rfl; have hfz0 := blk_frozen BK6.out 0; have hfz1 := blk_frozen BK6.out 1)
        go_roundg g
        case measure => omega
        case rel => exact ⟨i + 1, x + 1, rfl, ⟨by have := HX.out; omega, by have := HX.out; omega⟩, ⟨below_set (below_set HB6.out GE6.out) GE6.out⟩, HN⟩
end Go.Proofs.YtbhfbbfjdklfgaaGreatDoor.Q


namespace Go.Proofs.YtbhfbbfjdklfgaaGreatDoor.Q
open Go.RowKit Go.Proofs.YtbhfbbfjdklfgaaGreatDoorW.PrintWords Go.Proofs.YtbhfbbfjdklfgaaGreatDoorW.PrintLast Go.Proofs.YtbhfbbfjdklfgaaGreatDoorW.PrintMore
attribute [local go_sem] max2_int min2_int max_two min_two max_three min_three max_four min_four   -- for this text's walks alone

def commit_CheckTag.j0 : Nat → Bool → ByteArray → Int → ByteArray → ByteArray → ByteArray → Int → Int → ByteArray → Option (Int)
 | 0, _, _, _, _, _, _, _, _, _ => none
 | k + 1, x29, x141000, x141001, x141002, x141003, x141004, x141005, x141006, x141007 => if x29 = true then (some 1) else (if (x141007.size : Int) > 4096 then (some 4) else (some 0))
def commit_CheckTag.f (k : Nat) (a0_0 : ByteArray) (a0_1 : Int) (a0_2 : ByteArray) (a0_3 : ByteArray) (a0_4 : ByteArray) (a0_5 : Int) (a0_6 : Int) (a0_7 : ByteArray) : Option (Int) := (ident_Is.f k a0_0).bind fun t141 => (if t141 = true then ((object_Word.f a0_1).bind fun t142 => (if t142.toList = ([] : List UInt8) then (commit_CheckTag.j0 k true a0_0 a0_1 a0_2 a0_3 a0_4 a0_5 a0_6 a0_7) else ((commit_tagged.f k a0_2).bind fun t143 => (if t143 = true then ((commit_somebody.f k a0_3 a0_4 a0_5 a0_6).bind fun t144 => (if t144 = true then ((strings_Contains2.f a0_7 ⟨#[0]⟩).bind fun t145 => (commit_CheckTag.j0 k t145 a0_0 a0_1 a0_2 a0_3 a0_4 a0_5 a0_6 a0_7)) else (commit_CheckTag.j0 k true a0_0 a0_1 a0_2 a0_3 a0_4 a0_5 a0_6 a0_7))) else (commit_CheckTag.j0 k true a0_0 a0_1 a0_2 a0_3 a0_4 a0_5 a0_6 a0_7))))) else (commit_CheckTag.j0 k true a0_0 a0_1 a0_2 a0_3 a0_4 a0_5 a0_6 a0_7))
theorem commit_CheckTag.mono_l : ∀ k, (∀ y0 y1 y2 y3 y4 y5 y6 y7 y8, LeO (commit_CheckTag.j0 k y0 y1 y2 y3 y4 y5 y6 y7 y8) (commit_CheckTag.j0 (k + 1) y0 y1 y2 y3 y4 y5 y6 y7 y8))
 | 0 => fun _ _ _ _ _ _ _ _ _ r h => by simp [commit_CheckTag.j0] at h
 | k + 1 => by
  have ih0 := commit_CheckTag.mono_l k
  ·intro y0 y1 y2 y3 y4 y5 y6 y7 y8
   unfold commit_CheckTag.j0
   have m0_ := @ih0
   have m1_ := @commit_somebody.mono
   have m2_ := @commit_tagged.mono
   have m3_ := @ident_Is.mono
   exact mz_
theorem commit_CheckTag.mono : ∀ a0 a1 a2 a3 a4 a5 a6 a7 k, LeO (commit_CheckTag.f k a0 a1 a2 a3 a4 a5 a6 a7) (commit_CheckTag.f (k + 1) a0 a1 a2 a3 a4 a5 a6 a7) := by
 intro a0 a1 a2 a3 a4 a5 a6 a7 k; have ih0 := commit_CheckTag.mono_l k; unfold commit_CheckTag.f; have m0_ := @ih0; have m1_ := @commit_somebody.mono; have m2_ := @commit_tagged.mono; have m3_ := @ident_Is.mono; exact mz_
set_option maxHeartbeats 8000000 in
set_option maxRecDepth 100000 in
theorem commit_CheckTag.calls (k : Nat) (a0_0 : ByteArray) (a0_1 : Int) (a0_2 : ByteArray) (a0_3 : ByteArray) (a0_4 : ByteArray) (a0_5 : Int) (a0_6 : Int) (a0_7 : ByteArray) (r : Int) (w : World) (hgv : GV w) (h : commit_CheckTag.f k a0_0 a0_1 a0_2 a0_3 a0_4 a0_5 a0_6 a0_7 = some r) :
  Calls Tryz.prog 27 #[.agg #[.string a0_0, .int .i64 a0_1, .string a0_2, .string a0_3, .string a0_4, .int .i64 a0_5, .int .i64 a0_6, .string a0_7]] w fun e w' => e = .returned (.int .i64 r) ∧ Below w.heap.size w w' := by
 have hu37 := Tryz.underlying37; have hu24 := Tryz.underlying24; have HB := Aside0.mk (Below.refl w.heap.size w); unfold commit_CheckTag.f at h; have H := h; clear h; have HC2 := Aside0.mk H; clear H; go_enter Tryz.func27, Tryz.ntmps27; go_upto_region 1 with (first | ((with_reducible refine gate_dst (N := 1) rfl ?_); refine be_ (cs := #[.string a0_0, .int .i64 a0_1, .string a0_2, .string a0_3, .string a0_4, .int .i64 a0_5, .int .i64 a0_6, .string a0_7]) (t := 37) ?_; intro gb140 hg w3 hbox hb; have BK140 := Aside0.mk (hbox); have GW140 := ag_ hg HB; have GE140 := ag_ hg HB; replace HB := ah_ HB hb; clear hb hbox hg)); (try simp only [Act.put, List.setIfInBounds_toArray, List.set_cons_zero, List.set_cons_succ])
 go_cut [29] (fun v29 wc => ∃ (kq : Nat) (x29_1 : Bool), v29 = .bool x29_1 ∧ Aside0 (commit_CheckTag.j0 kq x29_1 a0_0 a0_1 a0_2 a0_3 a0_4 a0_5 a0_6 a0_7 = some r) ∧ Aside0 (kq ≤ k) ∧ Aside0 (wc.heap[gb140]? = some (.cells #[.string a0_0, .int .i64 a0_1, .string a0_2, .string a0_3, .string a0_4, .int .i64 a0_5, .int .i64 a0_6, .string a0_7] 37 (0, 0))) ∧ Aside0 (Below w.heap.size w wc))
 case first =>
  have H := HC2.out; clear HC2; replace H := Option.bind_eq_some_iff.mp H; obtain ⟨t141, A40, H⟩ := H; have A4 := Aside0.mk A40; clear A40; by_cases c5 : t141 = true; rotate_left
  ·replace c5 := Bool.eq_false_iff.mpr c5; subst c5; rw [if_neg nft_] at H; have H' := Aside0.mk H; clear H; obtain ⟨Z27_0, Z27_1, Z27_2, Z27_3, Z27_4, Z27_5, Z27_6, Z27_7, F27_0, F27_1, F27_2, F27_3, F27_4, F27_5, F27_6, F27_7⟩ := bc8 BK140.out; go_wp2_with (first | ((with_reducible refine gate_callee (f := 65) rfl ?_); refine gl_ (some 5) Tryz.func65 #[.string a0_0] ?_; (with_reducible refine (ident_Is.calls k a0_0 false _ A4.out).mono ?_); rintro e w' ⟨rfl, ⟨nd, rfl⟩⟩; refine ⟨_, rfl, ?_⟩)); go_meet
   case rel => exact ⟨_, (true), z1_, H', ⟨z4_⟩, ⟨bk_ BK140.out⟩, ⟨hs_⟩⟩
  subst c5; rw [if_pos rfl] at H; replace H := Option.bind_eq_some_iff.mp H; obtain ⟨t142, A60, H⟩ := H; have A6 := Aside0.mk A60; clear A60; by_cases c7 : t142.toList = ([] : List UInt8)
  ·rw [if_pos c7] at H; have c7b0 := beq_iff_eq.mpr c7; have c7b1 := bne_eq_false_iff_eq.mpr c7; clear c7; (first | rw [c7b0] | (simp only [i64_w, i32_w]; rw [c7b0]) | skip); have H' := Aside0.mk H; clear H; obtain ⟨Z8_0, Z8_1, Z8_2, Z8_3, Z8_4, Z8_5, Z8_6, Z8_7, F8_0, F8_1, F8_2, F8_3, F8_4, F8_5, F8_6, F8_7⟩ := bc8 BK140.out; go_wp2_with (first | ((with_reducible refine gate_callee (f := 65) rfl ?_); refine gl_ (some 5) Tryz.func65 #[.string a0_0] ?_; (with_reducible refine (ident_Is.calls k a0_0 true _ A4.out).mono ?_); rintro e w' ⟨rfl, ⟨nd, rfl⟩⟩; refine ⟨_, rfl, ?_⟩) | (go_at_call 79; (with_reducible refine (object_Word.calls a0_1 t142 _ A6.out).mono ?_); rintro e w9 ⟨rfl, hb⟩; replace BK140 := ab_ BK140 hb; replace HB := Aside0.mk (below_step (hs_) hb); (try clear hb); (try clear hb2); (try clear hk); (try clear hi)))
   go_meet
   case rel => exact ⟨_, (true), z1_, H', ⟨z4_⟩, ⟨bk_ BK140.out⟩, ⟨hs_⟩⟩
  rw [if_neg c7] at H; have c7b0 := beq_eq_false_iff_ne.mpr c7; have c7b1 := bne_iff_ne.mpr c7; (first | rw [c7b0] | (simp only [i64_w, i32_w]; rw [c7b0]) | skip); replace H := Option.bind_eq_some_iff.mp H; obtain ⟨t143, A100, H⟩ := H; have A10 := Aside0.mk A100; clear A100; by_cases c11 : t143 = true; rotate_left
  ·replace c11 := Bool.eq_false_iff.mpr c11; subst c11; rw [if_neg nft_] at H; have H' := Aside0.mk H; clear H; obtain ⟨Z24_0, Z24_1, Z24_2, Z24_3, Z24_4, Z24_5, Z24_6, Z24_7, F24_0, F24_1, F24_2, F24_3, F24_4, F24_5, F24_6, F24_7⟩ := bc8 BK140.out; go_wp2_with (first | ((with_reducible refine gate_callee (f := 65) rfl ?_); refine gl_ (some 5) Tryz.func65 #[.string a0_0] ?_; (with_reducible refine (ident_Is.calls k a0_0 true _ A4.out).mono ?_); rintro e w' ⟨rfl, ⟨nd, rfl⟩⟩; refine ⟨_, rfl, ?_⟩) | (go_at_call 79; (with_reducible refine (object_Word.calls a0_1 t142 _ A6.out).mono ?_); rintro e w25 ⟨rfl, hb⟩; replace BK140 := ab_ BK140 hb; replace HB := Aside0.mk (below_step (hs_) hb); (try clear hb); (try clear hb2); (try clear hk); (try clear hi); obtain ⟨Z26_0, Z26_1, Z26_2, Z26_3, Z26_4, Z26_5, Z26_6, Z26_7, F26_0, F26_1, F26_2, F26_3, F26_4, F26_5, F26_6, F26_7⟩ := bc8 BK140.out) | (go_at_call 81; (with_reducible refine (commit_tagged.calls k a0_2 false _ A10.out).mono ?_); rintro e w' ⟨rfl, ⟨nd, rfl⟩⟩)); go_meet
   case rel => exact ⟨_, (true), z1_, H', ⟨z4_⟩, ⟨bk_ BK140.out⟩, ⟨hs_⟩⟩
  subst c11; rw [if_pos rfl] at H; replace H := Option.bind_eq_some_iff.mp H; obtain ⟨t144, A120, H⟩ := H; have A12 := Aside0.mk A120; clear A120; by_cases c13 : t144 = true; rotate_left
  ·replace c13 := Bool.eq_false_iff.mpr c13; subst c13; rw [if_neg nft_] at H; have H' := Aside0.mk H; clear H; obtain ⟨Z20_0, Z20_1, Z20_2, Z20_3, Z20_4, Z20_5, Z20_6, Z20_7, F20_0, F20_1, F20_2, F20_3, F20_4, F20_5, F20_6, F20_7⟩ := bc8 BK140.out; go_wp2_with (first | ((with_reducible refine gate_callee (f := 65) rfl ?_); refine gl_ (some 5) Tryz.func65 #[.string a0_0] ?_; (with_reducible refine (ident_Is.calls k a0_0 true _ A4.out).mono ?_); rintro e w' ⟨rfl, ⟨nd, rfl⟩⟩; refine ⟨_, rfl, ?_⟩) | (go_at_call 79; (with_reducible refine (object_Word.calls a0_1 t142 _ A6.out).mono ?_); rintro e w21 ⟨rfl, hb⟩; replace BK140 := ab_ BK140 hb; replace HB := Aside0.mk (below_step (hs_) hb); (try clear hb); (try clear hb2); (try clear hk); (try clear hi); obtain ⟨Z22_0, Z22_1, Z22_2, Z22_3, Z22_4, Z22_5, Z22_6, Z22_7, F22_0, F22_1, F22_2, F22_3, F22_4, F22_5, F22_6, F22_7⟩ := bc8 BK140.out) | (go_at_call 81; (with_reducible refine (commit_tagged.calls k a0_2 true _ A10.out).mono ?_); rintro e w' ⟨rfl, ⟨nd, rfl⟩⟩) | (go_at_call 67; (with_reducible refine (commit_somebody.calls k a0_3 a0_4 a0_5 a0_6 false _ A12.out).mono ?_); rintro e w23 ⟨rfl, hb⟩; replace BK140 := ab_ BK140 hb; replace HB := Aside0.mk (below_step (hs_) hb); (try clear hb); (try clear hb2); (try clear hk); (try clear hi)))
   go_meet
   case rel => exact ⟨_, (true), z1_, H', ⟨z4_⟩, ⟨bk_ BK140.out⟩, ⟨hs_⟩⟩
  subst c13; rw [if_pos rfl] at H; replace H := Option.bind_eq_some_iff.mp H; obtain ⟨t145, A140, H⟩ := H; have A14 := Aside0.mk A140; clear A140; have H' := Aside0.mk H; clear H; obtain ⟨Z15_0, Z15_1, Z15_2, Z15_3, Z15_4, Z15_5, Z15_6, Z15_7, F15_0, F15_1, F15_2, F15_3, F15_4, F15_5, F15_6, F15_7⟩ := bc8 BK140.out; go_wp2_with (first | ((with_reducible refine gate_callee (f := 65) rfl ?_); refine gl_ (some 5) Tryz.func65 #[.string a0_0] ?_; (with_reducible refine (ident_Is.calls k a0_0 true _ A4.out).mono ?_); rintro e w' ⟨rfl, ⟨nd, rfl⟩⟩; refine ⟨_, rfl, ?_⟩) | (go_at_call 79; (with_reducible refine (object_Word.calls a0_1 t142 _ A6.out).mono ?_); rintro e w16 ⟨rfl, hb⟩; replace BK140 := ab_ BK140 hb; replace HB := Aside0.mk (below_step (hs_) hb); (try clear hb); (try clear hb2); (try clear hk); (try clear hi); obtain ⟨Z17_0, Z17_1, Z17_2, Z17_3, Z17_4, Z17_5, Z17_6, Z17_7, F17_0, F17_1, F17_2, F17_3, F17_4, F17_5, F17_6, F17_7⟩ := bc8 BK140.out) | (go_at_call 81; (with_reducible refine (commit_tagged.calls k a0_2 true _ A10.out).mono ?_); rintro e w' ⟨rfl, ⟨nd, rfl⟩⟩) | (go_at_call 67; (with_reducible refine (commit_somebody.calls k a0_3 a0_4 a0_5 a0_6 true _ A12.out).mono ?_); rintro e w18 ⟨rfl, hb⟩; replace BK140 := ab_ BK140 hb; replace HB := Aside0.mk (below_step (hs_) hb); (try clear hb); (try clear hb2); (try clear hk); (try clear hi); obtain ⟨Z19_0, Z19_1, Z19_2, Z19_3, Z19_4, Z19_5, Z19_6, Z19_7, F19_0, F19_1, F19_2, F19_3, F19_4, F19_5, F19_6, F19_7⟩ := bc8 BK140.out) | (go_at_call 68; (with_reducible refine (strings_Contains2.calls a0_7 ⟨#[0]⟩ t145 _ ?side1 A14.out).mono ?_); (case side1 => exact GV.below hgv (hs_)); rintro e w' ⟨rfl, ⟨nd, rfl⟩⟩)); go_meet
  case rel => exact ⟨_, (t145), z1_, H', ⟨z4_⟩, ⟨bk_ BK140.out⟩, ⟨hs_⟩⟩
 case rest =>
  clear HC2; try clear c1
  try clear c2
  try clear p2
  try clear c5
  try clear c6
  try clear c7
  try clear c7b0
  try clear c7b1
  try clear c11
  try clear c13
  try clear c27
  try clear Z15_0 Z15_1 Z15_2 Z15_3 Z15_4 Z15_5 Z15_6 Z15_7
  try clear Z17_0 Z17_1 Z17_2 Z17_3 Z17_4 Z17_5 Z17_6 Z17_7
  try clear Z19_0 Z19_1 Z19_2 Z19_3 Z19_4 Z19_5 Z19_6 Z19_7
  try clear Z20_0 Z20_1 Z20_2 Z20_3 Z20_4 Z20_5 Z20_6 Z20_7
  try clear Z22_0 Z22_1 Z22_2 Z22_3 Z22_4 Z22_5 Z22_6 Z22_7
  try clear Z24_0 Z24_1 Z24_2 Z24_3 Z24_4 Z24_5 Z24_6 Z24_7
  try clear Z26_0 Z26_1 Z26_2 Z26_3 Z26_4 Z26_5 Z26_6 Z26_7
  try clear Z27_0 Z27_1 Z27_2 Z27_3 Z27_4 Z27_5 Z27_6 Z27_7
  try clear Z8_0 Z8_1 Z8_2 Z8_3 Z8_4 Z8_5 Z8_6 Z8_7
  try clear F15_0 F15_1 F15_2 F15_3 F15_4 F15_5 F15_6 F15_7
  try clear F17_0 F17_1 F17_2 F17_3 F17_4 F17_5 F17_6 F17_7
  try clear F19_0 F19_1 F19_2 F19_3 F19_4 F19_5 F19_6 F19_7
  try clear F20_0 F20_1 F20_2 F20_3 F20_4 F20_5 F20_6 F20_7
  try clear F22_0 F22_1 F22_2 F22_3 F22_4 F22_5 F22_6 F22_7
  try clear F24_0 F24_1 F24_2 F24_3 F24_4 F24_5 F24_6 F24_7
  try clear F26_0 F26_1 F26_2 F26_3 F26_4 F26_5 F26_6 F26_7
  try clear F27_0 F27_1 F27_2 F27_3 F27_4 F27_5 F27_6 F27_7
  try clear F8_0 F8_1 F8_2 F8_3 F8_4 F8_5 F8_6 F8_7
  obtain ⟨kq, x29_1, rfl, HA, HJ1, BK140, HB⟩ := hcut
  cases kq with
  | zero => exact absurd HA.out (by simp [commit_CheckTag.j0])
  | succ kj1 =>
   have H := HA.out; clear HA; simp only [commit_CheckTag.j0] at H; by_cases c28 : x29_1 = true
   ·subst c28; rw [if_pos rfl] at H; obtain rfl := Option.some.inj H; go_wp2
    go_ret
    exact ⟨z3_, hs_⟩
   replace c28 := Bool.eq_false_iff.mpr c28; subst c28; rw [if_neg nft_] at H; by_cases c29 : (a0_7.size : Int) > 4096
   ·rw [if_pos c29] at H; have c29b0 := decide_eq_true c29; have c29b1 : decide (4096 < a0_7.size) = true := decide_eq_true (by omega); clear c29; obtain rfl := Option.some.inj H; obtain ⟨Z30_0, Z30_1, Z30_2, Z30_3, Z30_4, Z30_5, Z30_6, Z30_7, F30_0, F30_1, F30_2, F30_3, F30_4, F30_5, F30_6, F30_7⟩ := bc8 BK140.out; go_wp2
    go_ret
    exact ⟨z3_, hs_⟩
   rw [if_neg c29] at H; have c29b0 := decide_eq_false c29; have c29b1 : decide (4096 < a0_7.size) = false := decide_eq_false (by omega); clear c29; obtain rfl := Option.some.inj H; obtain ⟨Z31_0, Z31_1, Z31_2, Z31_3, Z31_4, Z31_5, Z31_6, Z31_7, F31_0, F31_1, F31_2, F31_3, F31_4, F31_5, F31_6, F31_7⟩ := bc8 BK140.out; go_wp2
   go_ret
   exact ⟨z3_, hs_⟩


def commit_TagBody.f (k : Nat) (a0_0 : ByteArray) (a0_1 : Int) (a0_2 : ByteArray) (a0_3 : ByteArray) (a0_4 : ByteArray) (a0_5 : Int) (a0_6 : Int) (a0_7 : ByteArray) : Option (ByteArray × Int) := (commit_CheckTag.f k a0_0 a0_1 a0_2 a0_3 a0_4 a0_5 a0_6 a0_7).bind fun t120 => (if t120 = 0 then (if 7 + a0_0.size ≤ 9223372036854775807 then (if ((⟨#[111, 98, 106, 101, 99, 116, 32]⟩ : ByteArray) ++ a0_0).size + 6 ≤ 9223372036854775807 then ((object_Word.f a0_1).bind fun t121 => (if (((⟨#[111, 98, 106, 101, 99, 116, 32]⟩ : ByteArray) ++ a0_0) ++ (⟨#[10, 116, 121, 112, 101, 32]⟩ : ByteArray)).size + t121.size ≤ 9223372036854775807 then (if ((((⟨#[111, 98, 106, 101, 99, 116, 32]⟩ : ByteArray) ++ a0_0) ++ (⟨#[10, 116, 121, 112, 101, 32]⟩ : ByteArray)) ++ t121).size + 5 ≤ 9223372036854775807 then (if (((((⟨#[111, 98, 106, 101, 99, 116, 32]⟩ : ByteArray) ++ a0_0) ++ (⟨#[10, 116, 121, 112, 101, 32]⟩ : ByteArray)) ++ t121) ++ (⟨#[10, 116, 97, 103, 32]⟩ : ByteArray)).size + a0_2.size ≤ 9223372036854775807 then (if ((((((⟨#[111, 98, 106, 101, 99, 116, 32]⟩ : ByteArray) ++ a0_0) ++ (⟨#[10, 116, 121, 112, 101, 32]⟩ : ByteArray)) ++ t121) ++ (⟨#[10, 116, 97, 103, 32]⟩ : ByteArray)) ++ a0_2).size + 8 ≤ 9223372036854775807 then ((commit_Who.f a0_3 a0_4 a0_5 a0_6).bind fun t122 => (if (((((((⟨#[111, 98, 106, 101, 99, 116, 32]⟩ : ByteArray) ++ a0_0) ++ (⟨#[10, 116, 121, 112, 101, 32]⟩ : ByteArray)) ++ t121) ++ (⟨#[10, 116, 97, 103, 32]⟩ : ByteArray)) ++ a0_2) ++ (⟨#[10, 116, 97, 103, 103, 101, 114, 32]⟩ : ByteArray)).size + t122.size ≤ 9223372036854775807 then (if ((((((((⟨#[111, 98, 106, 101, 99, 116, 32]⟩ : ByteArray) ++ a0_0) ++ (⟨#[10, 116, 121, 112, 101, 32]⟩ : ByteArray)) ++ t121) ++ (⟨#[10, 116, 97, 103, 32]⟩ : ByteArray)) ++ a0_2) ++ (⟨#[10, 116, 97, 103, 103, 101, 114, 32]⟩ : ByteArray)) ++ t122).size + 2 ≤ 9223372036854775807 then (if (((((((((⟨#[111, 98, 106, 101, 99, 116, 32]⟩ : ByteArray) ++ a0_0) ++ (⟨#[10, 116, 121, 112, 101, 32]⟩ : ByteArray)) ++ t121) ++ (⟨#[10, 116, 97, 103, 32]⟩ : ByteArray)) ++ a0_2) ++ (⟨#[10, 116, 97, 103, 103, 101, 114, 32]⟩ : ByteArray)) ++ t122) ++ (⟨#[10, 10]⟩ : ByteArray)).size + a0_7.size ≤ 9223372036854775807 then (some ((((((((((⟨#[111, 98, 106, 101, 99, 116, 32]⟩ : ByteArray) ++ a0_0) ++ (⟨#[10, 116, 121, 112, 101, 32]⟩ : ByteArray)) ++ t121) ++ (⟨#[10, 116, 97, 103, 32]⟩ : ByteArray)) ++ a0_2) ++ (⟨#[10, 116, 97, 103, 103, 101, 114, 32]⟩ : ByteArray)) ++ t122) ++ (⟨#[10, 10]⟩ : ByteArray)) ++ a0_7, 0)) else (none)) else (none)) else (none))) else (none)) else (none)) else (none)) else (none))) else (none)) else (none)) else (some ((⟨#[]⟩ : ByteArray), t120)))
theorem commit_TagBody.mono : ∀ a0 a1 a2 a3 a4 a5 a6 a7 k, LeO (commit_TagBody.f k a0 a1 a2 a3 a4 a5 a6 a7) (commit_TagBody.f (k + 1) a0 a1 a2 a3 a4 a5 a6 a7) := by
 intro a0 a1 a2 a3 a4 a5 a6 a7 k; unfold commit_TagBody.f; have m0_ := @commit_CheckTag.mono; exact mz_
def commit_TagBody.T4 : Bool × List (List Nat × List Nat) := (true, [([], []), ([0], [0]), ([1], [1]), ([2], [2]), ([], []), ([4], [4]), ([5], [5]), ([3, 6], [3, 6]), ([7], [7]), ([], []), ([9], [9]), ([8, 10], [8, 10]), ([11], [11]), ([], []), ([13], [13]), ([14, 6], [14]), ([12, 15], [12, 15]), ([16], [16]), ([], []), ([18], [18]), ([17, 19], [17, 19]), ([20, 15, 0, 1, 2, 3, 4, 5, 6, 7, 8, 9, 10, 11, 12, 13, 14, 15, 16, 17, 18, 19, 20], [20]), ([21, 0, 1, 2, 3, 4, 5, 6, 7, 8, 9, 10, 11, 12, 13, 14, 15, 16, 17, 18, 19, 20, 21], [])])
def commit_TagBody.B4 : List Nat := [0, 1, 3, 7, 0, 16, 48, 127, 255, 0, 512, 2047, 4095, 0, 8192, 24688, 65535, 131071, 0, 262144, 1048575, 2097151, 4194303]
theorem commit_TagBody.tab4 : rtab .any (opsOf Tryz.f25 4) = commit_TagBody.T4 := by kernel_rfl
theorem commit_TagBody.bits4 : waitsOk commit_TagBody.T4.2 commit_TagBody.B4 = true := by kernel_rfl
set_option maxHeartbeats 8000000 in
set_option maxRecDepth 100000 in
theorem commit_TagBody.calls (k : Nat) (a0_0 : ByteArray) (a0_1 : Int) (a0_2 : ByteArray) (a0_3 : ByteArray) (a0_4 : ByteArray) (a0_5 : Int) (a0_6 : Int) (a0_7 : ByteArray) (r1 : ByteArray) (r2 : Int) (w : World) (hgv : GV w) (h : commit_TagBody.f k a0_0 a0_1 a0_2 a0_3 a0_4 a0_5 a0_6 a0_7 = some (r1, r2)) :
  Calls Tryz.prog 25 #[.agg #[.string a0_0, .int .i64 a0_1, .string a0_2, .string a0_3, .string a0_4, .int .i64 a0_5, .int .i64 a0_6, .string a0_7]] w fun e w' => e = .returned (.tuple #[.string r1, .int .i64 r2]) ∧ Below w.heap.size w w' := by
 have hu37 := Tryz.underlying37; have hu24 := Tryz.underlying24; have HB := Aside0.mk (Below.refl w.heap.size w); unfold commit_TagBody.f at h; have H := h; clear h; replace H := Option.bind_eq_some_iff.mp H; obtain ⟨t120, A20, H⟩ := H; have A2 := Aside0.mk A20; clear A20; by_cases c3 : t120 = 0; rotate_left
 ·rw [if_neg c3] at H; have c3b0 := beq_eq_false_iff_ne.mpr c3; have c3b1 := bne_iff_ne.mpr c3; simp only [Option.some.injEq, Prod.mk.injEq] at H; obtain ⟨rfl, rfl⟩ := H; go_enter Tryz.func25, Tryz.ntmps25; go_wp2_with (first | ((with_reducible refine gate_dst (N := 1) rfl ?_); refine be_ (cs := #[.string a0_0, .int .i64 a0_1, .string a0_2, .string a0_3, .string a0_4, .int .i64 a0_5, .int .i64 a0_6, .string a0_7]) (t := 37) ?_; intro gb119 hg w21 hbox hb; have BK119 := Aside0.mk (hbox); have GW119 := ag_ hg HB; have GE119 := ag_ hg HB; replace HB := ah_ HB hb; clear hb hbox hg; obtain ⟨Z22_0, Z22_1, Z22_2, Z22_3, Z22_4, Z22_5, Z22_6, Z22_7, F22_0, F22_1, F22_2, F22_3, F22_4, F22_5, F22_6, F22_7⟩ := bc8 BK119.out) | ((with_reducible refine gate_callee (f := 27) rfl ?_); refine gl_ (some 6) Tryz.func27 #[.agg #[.string a0_0, .int .i64 a0_1, .string a0_2, .string a0_3, .string a0_4, .int .i64 a0_5, .int .i64 a0_6, .string a0_7]] ?_; (with_reducible refine (commit_CheckTag.calls k a0_0 a0_1 a0_2 a0_3 a0_4 a0_5 a0_6 a0_7 t120 _ ?side1 A2.out).mono ?_); (case side1 => exact GV.below hgv (hs_)); rintro e w23 ⟨rfl, hb⟩; refine ⟨_, rfl, ?_⟩; replace BK119 := ab_ BK119 hb; replace HB := Aside0.mk (below_step (hs_) hb); (try clear hb); (try clear hb2); (try clear hk); (try clear hi)))
  go_ret2
  exact ⟨z3_, hs_⟩
 rw [if_pos c3] at H; have c3b0 := beq_iff_eq.mpr c3; have c3b1 := bne_eq_false_iff_eq.mpr c3; clear c3; by_cases c4 : 7 + a0_0.size ≤ 9223372036854775807; rotate_left
 ·rw [if_neg c4] at H; exact absurd H (by simp)
 rw [if_pos c4] at H; have c4b0 := eq_true c4; have c4b1 := decide_eq_true c4; try have c4b2 := nl_ c4
 by_cases c5 : ((⟨#[111, 98, 106, 101, 99, 116, 32]⟩ : ByteArray) ++ a0_0).size + 6 ≤ 9223372036854775807; rotate_left
 ·rw [if_neg c5] at H; exact absurd H (by simp)
 rw [if_pos c5] at H; have c5b0 := eq_true c5; have c5b1 := decide_eq_true c5; try have c5b3 : (9223372036854775807 < 7 + a0_0.size + 6) = False := have h_ := c5; ns_
 try have c5b2 := nl_ c5
 replace H := Option.bind_eq_some_iff.mp H; obtain ⟨t121, A60, H⟩ := H; have A6 := Aside0.mk A60; clear A60; by_cases c7 : (((⟨#[111, 98, 106, 101, 99, 116, 32]⟩ : ByteArray) ++ a0_0) ++ (⟨#[10, 116, 121, 112, 101, 32]⟩ : ByteArray)).size + t121.size ≤ 9223372036854775807; rotate_left
 ·rw [if_neg c7] at H; exact absurd H (by simp)
 rw [if_pos c7] at H; have c7b0 := eq_true c7; have c7b1 := decide_eq_true c7; try have c7b3 : (9223372036854775807 < 7 + a0_0.size + 6 + t121.size) = False := have h_ := c7; ns_
 try have c7b2 := nl_ c7
 by_cases c8 : ((((⟨#[111, 98, 106, 101, 99, 116, 32]⟩ : ByteArray) ++ a0_0) ++ (⟨#[10, 116, 121, 112, 101, 32]⟩ : ByteArray)) ++ t121).size + 5 ≤ 9223372036854775807; rotate_left
 ·rw [if_neg c8] at H; exact absurd H (by simp)
 rw [if_pos c8] at H; have c8b0 := eq_true c8; have c8b1 := decide_eq_true c8; try have c8b3 : (9223372036854775807 < 7 + a0_0.size + 6 + t121.size + 5) = False := have h_ := c8; ns_
 try have c8b2 := nl_ c8
 by_cases c9 : (((((⟨#[111, 98, 106, 101, 99, 116, 32]⟩ : ByteArray) ++ a0_0) ++ (⟨#[10, 116, 121, 112, 101, 32]⟩ : ByteArray)) ++ t121) ++ (⟨#[10, 116, 97, 103, 32]⟩ : ByteArray)).size + a0_2.size ≤ 9223372036854775807; rotate_left
 ·rw [if_neg c9] at H; exact absurd H (by simp)
 rw [if_pos c9] at H; have c9b0 := eq_true c9; have c9b1 := decide_eq_true c9; try have c9b3 : (9223372036854775807 < 7 + a0_0.size + 6 + t121.size + 5 + a0_2.size) = False := have h_ := c9; ns_
 try have c9b2 := nl_ c9
 by_cases c10 : ((((((⟨#[111, 98, 106, 101, 99, 116, 32]⟩ : ByteArray) ++ a0_0) ++ (⟨#[10, 116, 121, 112, 101, 32]⟩ : ByteArray)) ++ t121) ++ (⟨#[10, 116, 97, 103, 32]⟩ : ByteArray)) ++ a0_2).size + 8 ≤ 9223372036854775807; rotate_left
 ·rw [if_neg c10] at H; exact absurd H (by simp)
 rw [if_pos c10] at H; have c10b0 := eq_true c10; have c10b1 := decide_eq_true c10; try have c10b3 : (9223372036854775807 < 7 + a0_0.size + 6 + t121.size + 5 + a0_2.size + 8) = False := have h_ := c10; ns_
 try have c10b2 := nl_ c10
 replace H := Option.bind_eq_some_iff.mp H; obtain ⟨t122, A110, H⟩ := H; have A11 := Aside0.mk A110; clear A110; by_cases c12 : (((((((⟨#[111, 98, 106, 101, 99, 116, 32]⟩ : ByteArray) ++ a0_0) ++ (⟨#[10, 116, 121, 112, 101, 32]⟩ : ByteArray)) ++ t121) ++ (⟨#[10, 116, 97, 103, 32]⟩ : ByteArray)) ++ a0_2) ++ (⟨#[10, 116, 97, 103, 103, 101, 114, 32]⟩ : ByteArray)).size + t122.size ≤ 9223372036854775807; rotate_left
 ·rw [if_neg c12] at H; exact absurd H (by simp)
 rw [if_pos c12] at H; have c12b0 := eq_true c12; have c12b1 := decide_eq_true c12; try have c12b3 : (9223372036854775807 < 7 + a0_0.size + 6 + t121.size + 5 + a0_2.size + 8 + t122.size) = False := have h_ := c12; ns_
 try have c12b2 := nl_ c12
 by_cases c13 : ((((((((⟨#[111, 98, 106, 101, 99, 116, 32]⟩ : ByteArray) ++ a0_0) ++ (⟨#[10, 116, 121, 112, 101, 32]⟩ : ByteArray)) ++ t121) ++ (⟨#[10, 116, 97, 103, 32]⟩ : ByteArray)) ++ a0_2) ++ (⟨#[10, 116, 97, 103, 103, 101, 114, 32]⟩ : ByteArray)) ++ t122).size + 2 ≤ 9223372036854775807; rotate_left
 ·rw [if_neg c13] at H; exact absurd H (by simp)
 rw [if_pos c13] at H; have c13b0 := eq_true c13; have c13b1 := decide_eq_true c13; try have c13b3 : (9223372036854775807 < 7 + a0_0.size + 6 + t121.size + 5 + a0_2.size + 8 + t122.size + 2) = False := have h_ := c13; ns_
 try have c13b2 := nl_ c13
 by_cases c14 : (((((((((⟨#[111, 98, 106, 101, 99, 116, 32]⟩ : ByteArray) ++ a0_0) ++ (⟨#[10, 116, 121, 112, 101, 32]⟩ : ByteArray)) ++ t121) ++ (⟨#[10, 116, 97, 103, 32]⟩ : ByteArray)) ++ a0_2) ++ (⟨#[10, 116, 97, 103, 103, 101, 114, 32]⟩ : ByteArray)) ++ t122) ++ (⟨#[10, 10]⟩ : ByteArray)).size + a0_7.size ≤ 9223372036854775807; rotate_left
 ·rw [if_neg c14] at H; exact absurd H (by simp)
 rw [if_pos c14] at H; have c14b0 := eq_true c14; have c14b1 := decide_eq_true c14; try have c14b3 : (9223372036854775807 < 7 + a0_0.size + 6 + t121.size + 5 + a0_2.size + 8 + t122.size + 2 + a0_7.size) = False := have h_ := c14; ns_
 try have c14b2 := nl_ c14
 simp only [Option.some.injEq, Prod.mk.injEq] at H; obtain ⟨rfl, rfl⟩ := H; go_enter Tryz.func25, Tryz.ntmps25; try go_wp2_with (first | ((with_reducible refine gate_dst (N := 1) rfl ?_); refine be_ (cs := #[.string a0_0, .int .i64 a0_1, .string a0_2, .string a0_3, .string a0_4, .int .i64 a0_5, .int .i64 a0_6, .string a0_7]) (t := 37) ?_; intro gb119 hg w15 hbox hb; have BK119 := Aside0.mk (hbox); have GW119 := ag_ hg HB; have GE119 := ag_ hg HB; replace HB := ah_ HB hb; clear hb hbox hg; obtain ⟨Z16_0, Z16_1, Z16_2, Z16_3, Z16_4, Z16_5, Z16_6, Z16_7, F16_0, F16_1, F16_2, F16_3, F16_4, F16_5, F16_6, F16_7⟩ := bc8 BK119.out) | ((with_reducible refine gate_callee (f := 27) rfl ?_); refine gl_ (some 6) Tryz.func27 #[.agg #[.string a0_0, .int .i64 a0_1, .string a0_2, .string a0_3, .string a0_4, .int .i64 a0_5, .int .i64 a0_6, .string a0_7]] ?_; (with_reducible refine (commit_CheckTag.calls k a0_0 a0_1 a0_2 a0_3 a0_4 a0_5 a0_6 a0_7 t120 _ ?side1 A2.out).mono ?_); (case side1 => exact GV.below hgv (hs_)); rintro e w17 ⟨rfl, hb⟩; refine ⟨_, rfl, ?_⟩; replace BK119 := ab_ BK119 hb; replace HB := Aside0.mk (below_step (hs_) hb); (try clear hb); (try clear hb2); (try clear hk); (try clear hi)))
 replace BK119 := Aside0.mk (blk_drew BK119.out); replace HB := Aside0.mk (below_drew1 HB.out); refine start_ (n := 23) (S := fun w' => w'.cell? ⟨gb119, 0, none⟩ = some (.string a0_0) ∧ w'.cell? ⟨gb119, 1, none⟩ = some (.int .i64 a0_1) ∧ w'.cell? ⟨gb119, 2, none⟩ = some (.string a0_2) ∧ w'.cell? ⟨gb119, 3, none⟩ = some (.string a0_3) ∧ w'.cell? ⟨gb119, 4, none⟩ = some (.string a0_4) ∧ w'.cell? ⟨gb119, 5, none⟩ = some (.int .i64 a0_5) ∧ w'.cell? ⟨gb119, 6, none⟩ = some (.int .i64 a0_6) ∧ w'.cell? ⟨gb119, 7, none⟩ = some (.string a0_7)) (ds := []) (bs 23 0) (by kernel_rfl) rfl rfl ⟨(blk_cell BK119.out 0).trans rfl, (blk_cell BK119.out 1).trans rfl, (blk_cell BK119.out 2).trans rfl, (blk_cell BK119.out 3).trans rfl, (blk_cell BK119.out 4).trans rfl, (blk_cell BK119.out 5).trans rfl, (blk_cell BK119.out 6).trans rfl, (blk_cell BK119.out 7).trans rfl⟩ (fun hHeld => ?_); refine with_tabW commit_TagBody.tab4 commit_TagBody.bits4 (fun HT_ HW_ => ?_); generalize w17.drew = w18 at BK119 HB hHeld ⊢; refine pu_ (i := 0) (N := some 10) (bs 23 1) rfl rfl ?_; refine pu_ (i := 4) (N := some 14) (bs 23 17) rfl rfl ?_; refine pu_ (i := 9) (N := some 19) (bs 23 529) rfl rfl ?_; refine pu_ (i := 13) (N := some 23) (bs 23 8721) rfl rfl ?_; refine pu_ (i := 18) (N := some 28) (bs 23 270865) rfl rfl ?_; refine tkW8_ (i := 1) (N := some 11) (bs 23 270867) rfl rfl hHeld ?_; refine pu_ (i := 2) (N := some 12) (bs 23 270871) rfl rfl ?_; refine pu_ (i := 3) (N := some 13) (bs 23 270879) rfl rfl ?_; refine tkW8_ (i := 5) (N := some 15) (bs 23 270911) rfl rfl hHeld ?_; refine tkW8_ (i := 10) (N := some 20) (bs 23 271935) rfl rfl hHeld ?_; refine tkW8_ (i := 14) (N := some 24) (bs 23 288319) rfl rfl hHeld ?_; refine tkW8_ (i := 19) (N := some 29) (bs 23 812607) rfl rfl hHeld ?_; refine one_ (i := 6) (N := some 16) (bs 23 812671) rfl rfl (one_of HT_.out (by kernel_rfl)) (by decide) (fun K hK => ?_); refine goes_ Tryz.func79 (by kernel_rfl) rfl #[.int .i64 a0_1] (by rfl) rfl rfl z5_ ?_
 with_reducible refine (object_Word.calls a0_1 t121 _ A6.out).mono ?_
 rintro e w19 ⟨rfl, hb⟩; refine ⟨_, rfl, ?_⟩; replace BK119 := ab_ BK119 hb; replace HB := Aside0.mk (below_step (hs_) hb); (try clear hb)
 (try clear hb2)
 (try clear hk)
 (try clear hi)
 refine hK.out _ _ ⟨(blk_cell BK119.out 0).trans rfl, (blk_cell BK119.out 1).trans rfl, (blk_cell BK119.out 2).trans rfl, (blk_cell BK119.out 3).trans rfl, (blk_cell BK119.out 4).trans rfl, (blk_cell BK119.out 5).trans rfl, (blk_cell BK119.out 6).trans rfl, (blk_cell BK119.out 7).trans rfl⟩ (fun hHeld => ?_); clear hK K; refine norm_ (a' := ?_) ?_ ?_; rotate_left
 ·show Act.put _ (some 16) _ = _
  simp only [Act.put, List.setIfInBounds_toArray, List.set_cons_zero, List.set_cons_succ, i64_w, i32_w]; rfl
 refine pu_ (i := 7) (N := some 17) (bs 23 812799) rfl rfl ?_; refine pu_ (i := 8) (N := some 18) (bs 23 813055) rfl rfl ?_; refine pu_ (i := 11) (N := some 21) (bs 23 815103) rfl rfl ?_; refine pu_ (i := 12) (N := some 22) (bs 23 819199) rfl rfl ?_; refine one_ (i := 15) (N := some 25) (bs 23 851967) rfl rfl (one_of HT_.out (by kernel_rfl)) (by decide) (fun K hK => ?_); refine goes_ Tryz.func31 (by kernel_rfl) rfl #[.agg #[.string a0_3, .string a0_4, .int .i64 a0_5, .int .i64 a0_6]] (by rfl) rfl rfl z5_ ?_
 with_reducible refine (commit_Who.calls a0_3 a0_4 a0_5 a0_6 t122 _ ?side1 A11.out).mono ?_
 (case side1 => exact GV.below hgv (hs_))
 rintro e w20 ⟨rfl, hb⟩; refine ⟨_, rfl, ?_⟩; replace BK119 := ab_ BK119 hb; replace HB := Aside0.mk (below_step (hs_) hb); (try clear hb)
 (try clear hb2)
 (try clear hk)
 (try clear hi)
 refine hK.out _ _ ⟨(blk_cell BK119.out 0).trans rfl, (blk_cell BK119.out 1).trans rfl, (blk_cell BK119.out 2).trans rfl, (blk_cell BK119.out 3).trans rfl, (blk_cell BK119.out 4).trans rfl, (blk_cell BK119.out 5).trans rfl, (blk_cell BK119.out 6).trans rfl, (blk_cell BK119.out 7).trans rfl⟩ (fun hHeld => ?_); clear hK K; refine norm_ (a' := ?_) ?_ ?_; rotate_left
 ·show Act.put _ (some 25) _ = _
  simp only [Act.put, List.setIfInBounds_toArray, List.set_cons_zero, List.set_cons_succ, i64_w, i32_w]; rfl
 refine pu_ (i := 16) (N := some 26) (bs 23 917503) rfl rfl ?_; refine pu_ (i := 17) (N := some 27) (bs 23 1048575) rfl rfl ?_; refine pu_ (i := 20) (N := some 30) (bs 23 2097151) rfl rfl ?_; refine pu_ (i := 21) (N := some 2) (bs 23 4194303) rfl rfl ?_; refine pu_ (i := 22) (N := some 3) (bs 23 8388607) rfl rfl ?_; refine done_ (done_of HT_.out (by kernel_rfl)) ?_; try go_wp2
 go_ret2
 exact ⟨z3_, hs_⟩


def object_Bytes.f (a0_0 : Int) (a0_1 : ByteArray) : Option (ByteArray × Int) := (object_Word.f a0_0).bind fun t135 => (if t135.toList = ([] : List UInt8) then (some ((⟨#[]⟩ : ByteArray), 140)) else (if (a0_1.size : Int) > 1048576 then (some ((⟨#[]⟩ : ByteArray), 4)) else (if t135.size + 1 ≤ 9223372036854775807 then ((strconv_Itoa.f (a0_1.size : Int)).bind fun t136 => (if (t135 ++ (⟨#[32]⟩ : ByteArray)).size + t136.size ≤ 9223372036854775807 then (if ((t135 ++ (⟨#[32]⟩ : ByteArray)) ++ t136).size + 1 ≤ 9223372036854775807 then (if (((t135 ++ (⟨#[32]⟩ : ByteArray)) ++ t136) ++ (⟨#[0]⟩ : ByteArray)).size + a0_1.size ≤ 9223372036854775807 then (some ((((t135 ++ (⟨#[32]⟩ : ByteArray)) ++ t136) ++ (⟨#[0]⟩ : ByteArray)) ++ a0_1, 0)) else (none)) else (none)) else (none))) else (none))))
def object_Bytes.T6 : Bool × List (List Nat × List Nat) := (true, [([], []), ([0], [0]), ([], []), ([2], [2]), ([3], [3]), ([4], [4]), ([1, 5], [1, 5]), ([6], [6]), ([], []), ([8], [8]), ([7, 9], [7, 9]), ([10, 5, 0, 1, 2, 3, 4, 5, 6, 7, 8, 9, 10], [10]), ([11, 0, 1, 2, 3, 4, 5, 6, 7, 8, 9, 10, 11], [])])
def object_Bytes.B6 : List Nat := [0, 1, 0, 4, 12, 28, 63, 127, 0, 256, 1023, 2047, 4095]
theorem object_Bytes.tab6 : rtab .any (opsOf Tryz.f97 6) = object_Bytes.T6 := by kernel_rfl
theorem object_Bytes.bits6 : waitsOk object_Bytes.T6.2 object_Bytes.B6 = true := by kernel_rfl
set_option maxHeartbeats 8000000 in
set_option maxRecDepth 100000 in
theorem object_Bytes.calls (a0_0 : Int) (a0_1 : ByteArray) (r1 : ByteArray) (r2 : Int) (w : World) (hgv : GV w) (h : object_Bytes.f a0_0 a0_1 = some (r1, r2)) :
  Calls Tryz.prog 97 #[.agg #[.int .i64 a0_0, .string a0_1]] w fun e w' => e = .returned (.tuple #[.string r1, .int .i64 r2]) ∧ Below w.heap.size w w' := by
 have hu50 := Tryz.underlying50; have HB := Aside0.mk (Below.refl w.heap.size w); unfold object_Bytes.f at h; have H := h; clear h; replace H := Option.bind_eq_some_iff.mp H; obtain ⟨t135, A20, H⟩ := H; have A2 := Aside0.mk A20; clear A20; by_cases c3 : t135.toList = ([] : List UInt8)
 ·rw [if_pos c3] at H; have c3b0 := beq_iff_eq.mpr c3; have c3b1 := bne_eq_false_iff_eq.mpr c3; clear c3; simp only [Option.some.injEq, Prod.mk.injEq] at H; obtain ⟨rfl, rfl⟩ := H; go_enter Tryz.func97, Tryz.ntmps97; go_wp2_with (first | ((with_reducible refine gate_dst (N := 1) rfl ?_); refine be_ (cs := #[.int .i64 a0_0, .string a0_1]) (t := 50) ?_; intro gb134 hg w4 hbox hb; have BK134 := Aside0.mk (hbox); have GW134 := ag_ hg HB; have GE134 := ag_ hg HB; replace HB := ah_ HB hb; clear hb hbox hg; obtain ⟨Z5_0, Z5_1, F5_0, F5_1⟩ := bc2 BK134.out) | ((with_reducible refine gate_callee (f := 79) rfl ?_); refine gl_ (some 7) Tryz.func79 #[.int .i64 a0_0] ?_; (with_reducible refine (object_Word.calls a0_0 t135 _ A2.out).mono ?_); rintro e w6 ⟨rfl, hb⟩; refine ⟨_, rfl, ?_⟩; replace BK134 := ab_ BK134 hb; replace HB := Aside0.mk (below_step (hs_) hb); (try clear hb); (try clear hb2); (try clear hk); (try clear hi)))
  go_ret2
  exact ⟨z3_, hs_⟩
 rw [if_neg c3] at H; have c3b0 := beq_eq_false_iff_ne.mpr c3; have c3b1 := bne_iff_ne.mpr c3; by_cases c7 : (a0_1.size : Int) > 1048576
 ·rw [if_pos c7] at H; have c7b0 := decide_eq_true c7; have c7b1 : decide (1048576 < a0_1.size) = true := decide_eq_true (by omega); clear c7; simp only [Option.some.injEq, Prod.mk.injEq] at H; obtain ⟨rfl, rfl⟩ := H; go_enter Tryz.func97, Tryz.ntmps97; go_wp2_with (first | ((with_reducible refine gate_dst (N := 1) rfl ?_); refine be_ (cs := #[.int .i64 a0_0, .string a0_1]) (t := 50) ?_; intro gb134 hg w8 hbox hb; have BK134 := Aside0.mk (hbox); have GW134 := ag_ hg HB; have GE134 := ag_ hg HB; replace HB := ah_ HB hb; clear hb hbox hg; obtain ⟨Z9_0, Z9_1, F9_0, F9_1⟩ := bc2 BK134.out) | ((with_reducible refine gate_callee (f := 79) rfl ?_); refine gl_ (some 7) Tryz.func79 #[.int .i64 a0_0] ?_; (with_reducible refine (object_Word.calls a0_0 t135 _ A2.out).mono ?_); rintro e w10 ⟨rfl, hb⟩; refine ⟨_, rfl, ?_⟩; replace BK134 := ab_ BK134 hb; replace HB := Aside0.mk (below_step (hs_) hb); (try clear hb); (try clear hb2); (try clear hk); (try clear hi); obtain ⟨Z11_0, Z11_1, F11_0, F11_1⟩ := bc2 BK134.out)); go_ret2
  exact ⟨z3_, hs_⟩
 rw [if_neg c7] at H; have c7b0 := decide_eq_false c7; have c7b1 : decide (1048576 < a0_1.size) = false := decide_eq_false (by omega); clear c7; by_cases c12 : t135.size + 1 ≤ 9223372036854775807; rotate_left
 ·rw [if_neg c12] at H; exact absurd H (by simp)
 rw [if_pos c12] at H; have c12b0 := eq_true c12; have c12b1 := decide_eq_true c12; try have c12b2 := nl_ c12
 replace H := Option.bind_eq_some_iff.mp H; obtain ⟨t136, A130, H⟩ := H; have A13 := Aside0.mk A130; clear A130; by_cases c14 : (t135 ++ (⟨#[32]⟩ : ByteArray)).size + t136.size ≤ 9223372036854775807; rotate_left
 ·rw [if_neg c14] at H; exact absurd H (by simp)
 rw [if_pos c14] at H; have c14b0 := eq_true c14; have c14b1 := decide_eq_true c14; try have c14b3 : (9223372036854775807 < t135.size + 1 + t136.size) = False := have h_ := c14; ns_
 try have c14b2 := nl_ c14
 by_cases c15 : ((t135 ++ (⟨#[32]⟩ : ByteArray)) ++ t136).size + 1 ≤ 9223372036854775807; rotate_left
 ·rw [if_neg c15] at H; exact absurd H (by simp)
 rw [if_pos c15] at H; have c15b0 := eq_true c15; have c15b1 := decide_eq_true c15; try have c15b3 : (9223372036854775807 < t135.size + 1 + t136.size + 1) = False := have h_ := c15; ns_
 try have c15b2 := nl_ c15
 by_cases c16 : (((t135 ++ (⟨#[32]⟩ : ByteArray)) ++ t136) ++ (⟨#[0]⟩ : ByteArray)).size + a0_1.size ≤ 9223372036854775807; rotate_left
 ·rw [if_neg c16] at H; exact absurd H (by simp)
 rw [if_pos c16] at H; have c16b0 := eq_true c16; have c16b1 := decide_eq_true c16; try have c16b3 : (9223372036854775807 < t135.size + 1 + t136.size + 1 + a0_1.size) = False := have h_ := c16; ns_
 try have c16b2 := nl_ c16
 simp only [Option.some.injEq, Prod.mk.injEq] at H; obtain ⟨rfl, rfl⟩ := H; go_enter Tryz.func97, Tryz.ntmps97; try go_wp2_with (first | ((with_reducible refine gate_dst (N := 1) rfl ?_); refine be_ (cs := #[.int .i64 a0_0, .string a0_1]) (t := 50) ?_; intro gb134 hg w17 hbox hb; have BK134 := Aside0.mk (hbox); have GW134 := ag_ hg HB; have GE134 := ag_ hg HB; replace HB := ah_ HB hb; clear hb hbox hg; obtain ⟨Z18_0, Z18_1, F18_0, F18_1⟩ := bc2 BK134.out) | ((with_reducible refine gate_callee (f := 79) rfl ?_); refine gl_ (some 7) Tryz.func79 #[.int .i64 a0_0] ?_; (with_reducible refine (object_Word.calls a0_0 t135 _ A2.out).mono ?_); rintro e w19 ⟨rfl, hb⟩; refine ⟨_, rfl, ?_⟩; replace BK134 := ab_ BK134 hb; replace HB := Aside0.mk (below_step (hs_) hb); (try clear hb); (try clear hb2); (try clear hk); (try clear hi); obtain ⟨Z20_0, Z20_1, F20_0, F20_1⟩ := bc2 BK134.out)); replace BK134 := Aside0.mk (blk_drew BK134.out); replace HB := Aside0.mk (below_drew1 HB.out); refine start_ (n := 13) (S := fun w' => w'.cell? ⟨gb134, 0, none⟩ = some (.int .i64 a0_0) ∧ w'.cell? ⟨gb134, 1, none⟩ = some (.string a0_1)) (ds := []) (bs 13 0) (by kernel_rfl) rfl rfl ⟨(blk_cell BK134.out 0).trans rfl, (blk_cell BK134.out 1).trans rfl⟩ (fun hHeld => ?_); refine with_tabW object_Bytes.tab6 object_Bytes.bits6 (fun HT_ HW_ => ?_); generalize w19.drew = w21 at BK134 HB hHeld ⊢; refine pu_ (i := 0) (N := some 16) (bs 13 1) rfl rfl ?_; refine pu_ (i := 1) (N := some 17) (bs 13 3) rfl rfl ?_; refine pu_ (i := 2) (N := some 18) (bs 13 7) rfl rfl ?_; refine pu_ (i := 8) (N := some 24) (bs 13 263) rfl rfl ?_; refine tkW2_ (i := 3) (N := some 19) (bs 13 271) rfl rfl hHeld ?_; refine pu_ (i := 4) (N := some 20) (bs 13 287) rfl rfl ?_; refine tkW2_ (i := 9) (N := some 25) (bs 13 799) rfl rfl hHeld ?_; refine one_ (i := 5) (N := some 21) (bs 13 831) rfl rfl (one_of HT_.out (by kernel_rfl)) (by decide) (fun K hK => ?_); refine goes_ Tryz.func91 (by kernel_rfl) rfl #[.int .i64 (a0_1.size : Int)] (by rfl) rfl rfl z5_ ?_
 with_reducible refine (strconv_Itoa.calls (a0_1.size : Int) t136 _ ?side1 A13.out).mono ?_
 (case side1 => exact GV.below hgv (hs_))
 rintro e w22 ⟨rfl, hb⟩; refine ⟨_, rfl, ?_⟩; replace BK134 := ab_ BK134 hb; replace HB := Aside0.mk (below_step (hs_) hb); (try clear hb)
 (try clear hb2)
 (try clear hk)
 (try clear hi)
 refine hK.out _ _ ⟨(blk_cell BK134.out 0).trans rfl, (blk_cell BK134.out 1).trans rfl⟩ (fun hHeld => ?_); clear hK K; refine norm_ (a' := ?_) ?_ ?_; rotate_left
 ·show Act.put _ (some 21) _ = _
  simp only [Act.put, List.setIfInBounds_toArray, List.set_cons_zero, List.set_cons_succ, i64_w, i32_w]; rfl
 refine pu_ (i := 6) (N := some 22) (bs 13 895) rfl rfl ?_; refine pu_ (i := 7) (N := some 23) (bs 13 1023) rfl rfl ?_; refine pu_ (i := 10) (N := some 26) (bs 13 2047) rfl rfl ?_; refine pu_ (i := 11) (N := some 2) (bs 13 4095) rfl rfl ?_; refine pu_ (i := 12) (N := some 3) (bs 13 8191) rfl rfl ?_; refine done_ (done_of HT_.out (by kernel_rfl)) ?_; try go_wp2
 go_ret2
 exact ⟨z3_, hs_⟩


def tree_digits.f (a0 : Int) : Option (ByteArray) := if a0 = 1 then (some (⟨#[49, 48, 48, 54, 52, 52, 32]⟩ : ByteArray)) else (if a0 = 2 then (some (⟨#[49, 48, 48, 55, 53, 53, 32]⟩ : ByteArray)) else (if a0 = 3 then (some (⟨#[49, 50, 48, 48, 48, 48, 32]⟩ : ByteArray)) else (if a0 = 4 then (some (⟨#[52, 48, 48, 48, 48, 32]⟩ : ByteArray)) else (some (⟨#[]⟩ : ByteArray)))))
set_option maxHeartbeats 8000000 in
set_option maxRecDepth 100000 in
theorem tree_digits.calls (a0 : Int) (r : ByteArray) (w : World) (h : tree_digits.f a0 = some r) :
  Calls Tryz.prog 191 #[.int .i64 a0] w fun e w' => e = .returned (.string r) ∧ Drawn0 w w' := by
 unfold tree_digits.f at h; have H := h; clear h; by_cases c2 : a0 = 1
 ·rw [if_pos c2] at H; have c2b0 := beq_iff_eq.mpr c2; have c2b1 := bne_eq_false_iff_eq.mpr c2; clear c2; obtain rfl := Option.some.inj H; go_enter Tryz.func191, Tryz.ntmps191; go_wp2
  go_ret
  exact ⟨z1_, z2_⟩
 rw [if_neg c2] at H; have c2b0 := beq_eq_false_iff_ne.mpr c2; have c2b1 := bne_iff_ne.mpr c2; by_cases c3 : a0 = 2
 ·rw [if_pos c3] at H; have c3b0 := beq_iff_eq.mpr c3; have c3b1 := bne_eq_false_iff_eq.mpr c3; clear c3; obtain rfl := Option.some.inj H; go_enter Tryz.func191, Tryz.ntmps191; go_wp2
  go_ret
  exact ⟨z1_, z2_⟩
 rw [if_neg c3] at H; have c3b0 := beq_eq_false_iff_ne.mpr c3; have c3b1 := bne_iff_ne.mpr c3; by_cases c4 : a0 = 3
 ·rw [if_pos c4] at H; have c4b0 := beq_iff_eq.mpr c4; have c4b1 := bne_eq_false_iff_eq.mpr c4; clear c4; obtain rfl := Option.some.inj H; go_enter Tryz.func191, Tryz.ntmps191; go_wp2
  go_ret
  exact ⟨z1_, z2_⟩
 rw [if_neg c4] at H; have c4b0 := beq_eq_false_iff_ne.mpr c4; have c4b1 := bne_iff_ne.mpr c4; by_cases c5 : a0 = 4; rotate_left
 ·rw [if_neg c5] at H; have c5b0 := beq_eq_false_iff_ne.mpr c5; have c5b1 := bne_iff_ne.mpr c5; obtain rfl := Option.some.inj H; go_enter Tryz.func191, Tryz.ntmps191; go_wp2
  go_ret
  exact ⟨z1_, z2_⟩
 rw [if_pos c5] at H; have c5b0 := beq_iff_eq.mpr c5; have c5b1 := bne_eq_false_iff_eq.mpr c5; clear c5; obtain rfl := Option.some.inj H; go_enter Tryz.func191, Tryz.ntmps191; go_wp2
 go_ret
 exact ⟨z1_, z2_⟩


def tree_mode.l0 : Nat → ByteArray → Bool → Int → Option (Int × ByteArray × Int)
 | 0, _, _, _ => none
 | k + 1, x0, x5, x6 => if x6 ≤ 4 then ((tree_digits.f x6).bind fun t115 => ((strings_CutPrefix.f x0 t115).bind fun bt116 => (if bt116.2 = true then (some (x6, bt116.1, 0)) else (if x5 = true then (tree_mode.l0 k x0 true (wrap64 (x6 + 1))) else ((tree_digits.f x6).bind fun t118 => ((strings_HasPrefix.f t118 x0).bind fun t119 => (tree_mode.l0 k x0 t119 (wrap64 (x6 + 1))))))))) else (if x5 = true then (some (0, (⟨#[]⟩ : ByteArray), 3)) else (some (0, (⟨#[]⟩ : ByteArray), 2)))
def tree_mode.f (k : Nat) (a0 : ByteArray) : Option (Int × ByteArray × Int) := tree_mode.l0 k a0 false 1
theorem tree_mode.mono_l : ∀ k, (∀ y0 y1 y2, LeO (tree_mode.l0 k y0 y1 y2) (tree_mode.l0 (k + 1) y0 y1 y2))
 | 0 => fun _ _ _ r h => by simp [tree_mode.l0] at h
 | k + 1 => by
  have ih0 := tree_mode.mono_l k
  ·intro y0 y1 y2
   unfold tree_mode.l0
   have m0_ := @ih0
   exact mz_
theorem tree_mode.mono : ∀ a0 k, LeO (tree_mode.f k a0) (tree_mode.f (k + 1) a0) := by
 intro a0 k; have ih0 := tree_mode.mono_l k; unfold tree_mode.f; have m0_ := @ih0; exact mz_
set_option maxHeartbeats 8000000 in
set_option maxRecDepth 100000 in
theorem tree_mode.calls (k : Nat) (a0 : ByteArray) (r1 : Int) (r2 : ByteArray) (r3 : Int) (w : World) (h : tree_mode.f k a0 = some (r1, r2, r3)) :
  Calls Tryz.prog 148 #[.string a0] w fun e w' => e = .returned (.tuple #[.int .i64 r1, .string r2, .int .i64 r3]) ∧ Drawn0 w w' := by
 unfold tree_mode.f at h; have H := h; clear h; have H' := Aside0.mk H; clear H; go_enter Tryz.func148, Tryz.ntmps148; go_wp2
 go_loopg [5, 6] k (fun kq v5 v6 w' => ∃ (x5_1 : Bool) (x6_1 : Int), v5 = .bool x5_1 ∧ v6 = .int .i64 x6_1 ∧ Aside0 (tree_mode.l0 kq a0 x5_1 x6_1 = some (r1, r2, r3)) ∧ Aside0 (kq ≤ k) ∧ Drawn0 w w')
 case atStart => exact ⟨(false), (1), z1_, z1_, H', ⟨Nat.le_refl _⟩, z2_⟩
 case round =>
  clear H'; try clear c1
  obtain ⟨x5_1, x6_1, rfl, rfl, HA, HK1, ⟨m1, rfl⟩⟩ := hrel
  cases gk with
  | zero => exact absurd HA.out (by simp [tree_mode.l0])
  | succ k1 =>
   have H := HA.out; clear HA; simp only [tree_mode.l0] at H; by_cases c2 : x6_1 ≤ 4; rotate_left
   ·rw [if_neg c2] at H; have c2b0 := decide_eq_false c2; clear c2; by_cases c9 : x5_1 = true
    ·subst c9; rw [if_pos rfl] at H; simp only [Option.some.injEq, Prod.mk.injEq] at H; obtain ⟨rfl, rfl, rfl⟩ := H; go_wp2
     go_ret3
     exact ⟨z1_, z2_⟩
    replace c9 := Bool.eq_false_iff.mpr c9; subst c9; rw [if_neg nft_] at H; simp only [Option.some.injEq, Prod.mk.injEq] at H; obtain ⟨rfl, rfl, rfl⟩ := H; go_wp2
    go_ret3
    exact ⟨z1_, z2_⟩
   rw [if_pos c2] at H; have c2b0 := decide_eq_true c2; clear c2; replace H := Option.bind_eq_some_iff.mp H; obtain ⟨t115, A30, H⟩ := H; have A3 := Aside0.mk A30; clear A30; replace H := Option.bind_eq_some_iff.mp H; obtain ⟨⟨t116, t117⟩, A40, H⟩ := H; dsimp only at H; have A4 := Aside0.mk A40; clear A40; by_cases c5 : t117 = true
   ·subst c5; rw [if_pos rfl] at H; simp only [Option.some.injEq, Prod.mk.injEq] at H; obtain ⟨rfl, rfl, rfl⟩ := H; go_wp2_with (first | ((with_reducible refine gate_callee (f := 191) rfl ?_); refine gl_ (some 16) Tryz.func191 #[.int .i64 x6_1] ?_; (with_reducible refine (tree_digits.calls x6_1 t115 _ A3.out).mono ?_); rintro e w' ⟨rfl, ⟨nd, rfl⟩⟩; refine ⟨_, rfl, ?_⟩) | ((with_reducible refine gate_callee (f := 142) rfl ?_); refine gl_ (some 17) Tryz.func142 #[.string a0, .string t115] ?_; (with_reducible refine (strings_CutPrefix.calls a0 t115 t116 true _ A4.out).mono ?_); rintro e w' ⟨rfl, ⟨nd, rfl⟩⟩; refine ⟨_, rfl, ?_⟩)); go_ret3
    exact ⟨z1_, z2_⟩
   replace c5 := Bool.eq_false_iff.mpr c5; subst c5; rw [if_neg nft_] at H; by_cases c6 : x5_1 = true
   ·subst c6; rw [if_pos rfl] at H; have H' := Aside0.mk H; clear H; go_wp2_with (first | ((with_reducible refine gate_callee (f := 191) rfl ?_); refine gl_ (some 16) Tryz.func191 #[.int .i64 x6_1] ?_; (with_reducible refine (tree_digits.calls x6_1 t115 _ A3.out).mono ?_); rintro e w' ⟨rfl, ⟨nd, rfl⟩⟩; refine ⟨_, rfl, ?_⟩) | ((with_reducible refine gate_callee (f := 142) rfl ?_); refine gl_ (some 17) Tryz.func142 #[.string a0, .string t115] ?_; (with_reducible refine (strings_CutPrefix.calls a0 t115 t116 false _ A4.out).mono ?_); rintro e w' ⟨rfl, ⟨nd, rfl⟩⟩; refine ⟨_, rfl, ?_⟩)); go_roundg k1
    case measure => have := HK1.out; omega
    case rel => exact ⟨(true), (wrap64 (x6_1 + 1)), z1_, z1_, H', ⟨by have := HK1.out; omega⟩, z2_⟩
   replace c6 := Bool.eq_false_iff.mpr c6; subst c6; rw [if_neg nft_] at H; replace H := Option.bind_eq_some_iff.mp H; obtain ⟨t118, A70, H⟩ := H; have A7 := Aside0.mk A70; clear A70; replace H := Option.bind_eq_some_iff.mp H; obtain ⟨t119, A80, H⟩ := H; have A8 := Aside0.mk A80; clear A80; have H' := Aside0.mk H; clear H; have tk11_ : True := trivial; have tk12_ : True := trivial; go_wp2_with (first | (have _t := tk11_; (with_reducible refine gate_callee (f := 191) rfl ?_); refine gl_ (some 16) Tryz.func191 #[.int .i64 x6_1] ?_; (with_reducible refine (tree_digits.calls x6_1 t115 _ A3.out).mono ?_); rintro e w' ⟨rfl, ⟨nd, rfl⟩⟩; refine ⟨_, rfl, ?_⟩; clear tk11_) | ((with_reducible refine gate_callee (f := 142) rfl ?_); refine gl_ (some 17) Tryz.func142 #[.string a0, .string t115] ?_; (with_reducible refine (strings_CutPrefix.calls a0 t115 t116 false _ A4.out).mono ?_); rintro e w' ⟨rfl, ⟨nd, rfl⟩⟩; refine ⟨_, rfl, ?_⟩) | (go_at_call 191; have _t := tk12_; (with_reducible refine (tree_digits.calls x6_1 t118 _ A7.out).mono ?_); rintro e w' ⟨rfl, ⟨nd, rfl⟩⟩; clear tk12_) | (go_at_call 71; (with_reducible refine (strings_HasPrefix.calls t118 a0 t119 _ A8.out).mono ?_); rintro e w' ⟨rfl, ⟨nd, rfl⟩⟩)); go_roundg k1
   case measure => have := HK1.out; omega
   case rel => exact ⟨(t119), (wrap64 (x6_1 + 1)), z1_, z1_, H', ⟨by have := HK1.out; omega⟩, z2_⟩


def tree_key.f (a0_0 : Int) (a0_1 : ByteArray) (a0_2 : ByteArray) : Option (ByteArray) := if a0_0 = 4 then (if a0_1.size + 1 ≤ 9223372036854775807 then (some (a0_1 ++ (⟨#[47]⟩ : ByteArray))) else (none)) else (some a0_1)
set_option maxHeartbeats 8000000 in
set_option maxRecDepth 100000 in
theorem tree_key.calls (a0_0 : Int) (a0_1 : ByteArray) (a0_2 : ByteArray) (r : ByteArray) (w : World) (h : tree_key.f a0_0 a0_1 a0_2 = some r) :
  Calls Tryz.prog 231 #[.agg #[.int .i64 a0_0, .string a0_1, .string a0_2]] w fun e w' => e = .returned (.string r) ∧ Below w.heap.size w w' := by
 have hu108 := Tryz.underlying108; have HB := Aside0.mk (Below.refl w.heap.size w); unfold tree_key.f at h; have H := h; clear h; by_cases c2 : a0_0 = 4; rotate_left
 ·rw [if_neg c2] at H; have c2b0 := beq_eq_false_iff_ne.mpr c2; have c2b1 := bne_iff_ne.mpr c2; obtain rfl := Option.some.inj H; go_enter Tryz.func231, Tryz.ntmps231; go_wp2_with (first | ((with_reducible refine gate_dst (N := 1) rfl ?_); refine be_ (cs := #[.int .i64 a0_0, .string a0_1, .string a0_2]) (t := 108) ?_; intro gb205 hg w6 hbox hb; have BK205 := Aside0.mk (hbox); have GW205 := ag_ hg HB; have GE205 := ag_ hg HB; replace HB := ah_ HB hb; clear hb hbox hg; obtain ⟨Z7_0, Z7_1, Z7_2, F7_0, F7_1, F7_2⟩ := bc3 BK205.out)); go_ret
  exact ⟨z3_, hs_⟩
 rw [if_pos c2] at H; have c2b0 := beq_iff_eq.mpr c2; have c2b1 := bne_eq_false_iff_eq.mpr c2; clear c2; by_cases c3 : a0_1.size + 1 ≤ 9223372036854775807; rotate_left
 ·rw [if_neg c3] at H; exact absurd H (by simp)
 rw [if_pos c3] at H; have c3b0 := eq_true c3; have c3b1 := decide_eq_true c3; try have c3b2 := nl_ c3
 obtain rfl := Option.some.inj H; go_enter Tryz.func231, Tryz.ntmps231; go_wp2_with (first | ((with_reducible refine gate_dst (N := 1) rfl ?_); refine be_ (cs := #[.int .i64 a0_0, .string a0_1, .string a0_2]) (t := 108) ?_; intro gb205 hg w4 hbox hb; have BK205 := Aside0.mk (hbox); have GW205 := ag_ hg HB; have GE205 := ag_ hg HB; replace HB := ah_ HB hb; clear hb hbox hg; obtain ⟨Z5_0, Z5_1, Z5_2, F5_0, F5_1, F5_2⟩ := bc3 BK205.out)); go_ret
 exact ⟨z3_, hs_⟩


def tree_Less.f (a0_0 : Int) (a0_1 : ByteArray) (a0_2 : ByteArray) (a1_0 : Int) (a1_1 : ByteArray) (a1_2 : ByteArray) : Option (Bool) := (tree_key.f a0_0 a0_1 a0_2).bind fun t177 => ((tree_key.f a1_0 a1_1 a1_2).bind fun t178 => (some (Op.bytesLess t177.toList t178.toList)))
set_option maxHeartbeats 8000000 in
set_option maxRecDepth 100000 in
theorem tree_Less.calls (a0_0 : Int) (a0_1 : ByteArray) (a0_2 : ByteArray) (a1_0 : Int) (a1_1 : ByteArray) (a1_2 : ByteArray) (r : Bool) (w : World) (h : tree_Less.f a0_0 a0_1 a0_2 a1_0 a1_1 a1_2 = some r) :
  Calls Tryz.prog 193 #[.agg #[.int .i64 a0_0, .string a0_1, .string a0_2], .agg #[.int .i64 a1_0, .string a1_1, .string a1_2]] w fun e w' => e = .returned (.bool r) ∧ Below w.heap.size w w' := by
 have hu108 := Tryz.underlying108; have HB := Aside0.mk (Below.refl w.heap.size w); unfold tree_Less.f at h; have H := h; clear h; replace H := Option.bind_eq_some_iff.mp H; obtain ⟨t177, A30, H⟩ := H; have A3 := Aside0.mk A30; clear A30; replace H := Option.bind_eq_some_iff.mp H; obtain ⟨t178, A40, H⟩ := H; have A4 := Aside0.mk A40; clear A40; obtain rfl := Option.some.inj H; go_enter Tryz.func193, Tryz.ntmps193; try go_wp2_with (first | ((with_reducible refine gate_dst (N := 2) rfl ?_); refine be_ (cs := #[.int .i64 a0_0, .string a0_1, .string a0_2]) (t := 108) ?_; intro gb175 hg w5 hbox hb; have BK175 := Aside0.mk (hbox); have GW175 := ag_ hg HB; have GE175 := ag_ hg HB; replace HB := ah_ HB hb; clear hb hbox hg) | ((with_reducible refine gate_dst (N := 3) rfl ?_); refine be_ (cs := #[.int .i64 a1_0, .string a1_1, .string a1_2]) (t := 108) ?_; intro gb176 hg w6 hbox hb; have BK176 := Aside0.mk (hbox); have GW176 := Aside0.mk ((by rw [hg]; exact (below_size (hs_)) : w.heap.size ≤ gb176)); have GE176 := Aside0.mk ((by rw [hg]; exact (below_size (hs_)) : w.heap.size ≤ gb176)); replace HB := Aside0.mk (below_step (hs_) hb); have NB175_176 := Aside0.mk (nl2_ hg BK175.out); have NB176_175 := Aside0.mk (ng2_ hg BK175.out); replace BK175 := ab_ BK175 hb; clear hb hbox hg)); replace BK175 := Aside0.mk (blk_drew BK175.out); replace BK176 := Aside0.mk (blk_drew BK176.out); replace HB := Aside0.mk (below_drew1 HB.out); refine start_ (n := 6) (S := fun w' => w'.cell? ⟨gb175, 0, none⟩ = some (.int .i64 a0_0) ∧ w'.cell? ⟨gb175, 1, none⟩ = some (.string a0_1) ∧ w'.cell? ⟨gb175, 2, none⟩ = some (.string a0_2) ∧ w'.cell? ⟨gb176, 0, none⟩ = some (.int .i64 a1_0) ∧ w'.cell? ⟨gb176, 1, none⟩ = some (.string a1_1) ∧ w'.cell? ⟨gb176, 2, none⟩ = some (.string a1_2)) (ds := []) (bs 6 0) (by kernel_rfl) rfl rfl ⟨(blk_cell BK175.out 0).trans rfl, (blk_cell BK175.out 1).trans rfl, (blk_cell BK175.out 2).trans rfl, (blk_cell BK176.out 0).trans rfl, (blk_cell BK176.out 1).trans rfl, (blk_cell BK176.out 2).trans rfl⟩ (fun hHeld => ?_); generalize w6.drew = w7 at BK175 BK176 HB hHeld ⊢; refine tkK6_ (i := 0) (N := some 5) (bs 6 1) rfl rfl hHeld ?_; refine tkK6_ (i := 2) (N := some 7) (bs 6 5) rfl rfl hHeld ?_; refine one_ (i := 1) (N := some 6) (bs 6 7) rfl rfl (by kernel_rfl) (by decide) (fun K hK => ?_); refine goes_ Tryz.func231 (by kernel_rfl) rfl #[.agg #[.int .i64 a0_0, .string a0_1, .string a0_2]] (by rfl) rfl rfl z5_ ?_
 with_reducible refine (tree_key.calls a0_0 a0_1 a0_2 t177 _ A3.out).mono ?_
 rintro e w8 ⟨rfl, hb⟩; refine ⟨_, rfl, ?_⟩; replace BK175 := ab_ BK175 hb; replace BK176 := ab_ BK176 hb; replace HB := Aside0.mk (below_step (hs_) hb); (try clear hb)
 (try clear hb2)
 (try clear hk)
 (try clear hi)
 refine hK.out _ _ ⟨(blk_cell BK175.out 0).trans rfl, (blk_cell BK175.out 1).trans rfl, (blk_cell BK175.out 2).trans rfl, (blk_cell BK176.out 0).trans rfl, (blk_cell BK176.out 1).trans rfl, (blk_cell BK176.out 2).trans rfl⟩ (fun hHeld => ?_); clear hK K; refine norm_ (a' := ?_) ?_ ?_; rotate_left
 ·show Act.put _ (some 6) _ = _
  simp only [Act.put, List.setIfInBounds_toArray, List.set_cons_zero, List.set_cons_succ, i64_w, i32_w]; rfl
 refine one_ (i := 3) (N := some 8) (bs 6 15) rfl rfl (by kernel_rfl) (by decide) (fun K hK => ?_); refine goes_ Tryz.func231 (by kernel_rfl) rfl #[.agg #[.int .i64 a1_0, .string a1_1, .string a1_2]] (by rfl) rfl rfl z5_ ?_
 with_reducible refine (tree_key.calls a1_0 a1_1 a1_2 t178 _ A4.out).mono ?_
 rintro e w9 ⟨rfl, hb⟩; refine ⟨_, rfl, ?_⟩; replace BK175 := ab_ BK175 hb; replace BK176 := ab_ BK176 hb; replace HB := Aside0.mk (below_step (hs_) hb); (try clear hb)
 (try clear hb2)
 (try clear hk)
 (try clear hi)
 refine hK.out _ _ ⟨(blk_cell BK175.out 0).trans rfl, (blk_cell BK175.out 1).trans rfl, (blk_cell BK175.out 2).trans rfl, (blk_cell BK176.out 0).trans rfl, (blk_cell BK176.out 1).trans rfl, (blk_cell BK176.out 2).trans rfl⟩ (fun hHeld => ?_); clear hK K; refine norm_ (a' := ?_) ?_ ?_; rotate_left
 ·show Act.put _ (some 8) _ = _
  simp only [Act.put, List.setIfInBounds_toArray, List.set_cons_zero, List.set_cons_succ, i64_w, i32_w]; rfl
 refine pk_ (i := 4) (N := some 9) (bs 6 31) rfl rfl ?_; refine pk_ (i := 5) (N := some 4) (bs 6 63) rfl rfl ?_; refine done_ (by kernel_rfl) ?_; try go_wp2
 go_ret
 exact ⟨z3_, hs_⟩


def tree_may.f (k : Nat) (a0_0 : Int) (a0_1 : ByteArray) (a0_2 : ByteArray) : Option (Bool) := if a0_0 ≥ 1 then (if a0_0 ≤ 4 then ((path_Is.f k a0_1).bind fun t121 => (if t121 = true then ((strings_Contains2.f a0_1 ⟨#[47]⟩).bind fun t122 => (if t122 = true then (some false) else ((ident_Is.f k a0_2).bind fun t123 => (some t123)))) else (some false))) else (some false)) else (some false)
theorem tree_may.mono : ∀ a0 a1 a2 k, LeO (tree_may.f k a0 a1 a2) (tree_may.f (k + 1) a0 a1 a2) := by
 intro a0 a1 a2 k; unfold tree_may.f; have m0_ := @ident_Is.mono; have m1_ := @path_Is.mono; exact mz_
set_option maxHeartbeats 8000000 in
set_option maxRecDepth 100000 in
theorem tree_may.calls (k : Nat) (a0_0 : Int) (a0_1 : ByteArray) (a0_2 : ByteArray) (r : Bool) (w : World) (hgv : GV w) (h : tree_may.f k a0_0 a0_1 a0_2 = some r) :
  Calls Tryz.prog 192 #[.agg #[.int .i64 a0_0, .string a0_1, .string a0_2]] w fun e w' => e = .returned (.bool r) ∧ Below w.heap.size w w' := by
 have hu108 := Tryz.underlying108; have HB := Aside0.mk (Below.refl w.heap.size w); unfold tree_may.f at h; have H := h; clear h; by_cases c2 : a0_0 ≥ 1; rotate_left
 ·rw [if_neg c2] at H; have c2b0 := decide_eq_false c2; clear c2; obtain rfl := Option.some.inj H; go_enter Tryz.func192, Tryz.ntmps192; go_wp2_with (first | ((with_reducible refine gate_dst (N := 1) rfl ?_); refine be_ (cs := #[.int .i64 a0_0, .string a0_1, .string a0_2]) (t := 108) ?_; intro gb120 hg w22 hbox hb; have BK120 := Aside0.mk (hbox); have GW120 := ag_ hg HB; have GE120 := ag_ hg HB; replace HB := ah_ HB hb; clear hb hbox hg; obtain ⟨Z23_0, Z23_1, Z23_2, F23_0, F23_1, F23_2⟩ := bc3 BK120.out)); go_ret
  exact ⟨z3_, hs_⟩
 rw [if_pos c2] at H; have c2b0 := decide_eq_true c2; clear c2; by_cases c3 : a0_0 ≤ 4; rotate_left
 ·rw [if_neg c3] at H; have c3b0 := decide_eq_false c3; clear c3; obtain rfl := Option.some.inj H; go_enter Tryz.func192, Tryz.ntmps192; go_wp2_with (first | ((with_reducible refine gate_dst (N := 1) rfl ?_); refine be_ (cs := #[.int .i64 a0_0, .string a0_1, .string a0_2]) (t := 108) ?_; intro gb120 hg w20 hbox hb; have BK120 := Aside0.mk (hbox); have GW120 := ag_ hg HB; have GE120 := ag_ hg HB; replace HB := ah_ HB hb; clear hb hbox hg; obtain ⟨Z21_0, Z21_1, Z21_2, F21_0, F21_1, F21_2⟩ := bc3 BK120.out)); go_ret
  exact ⟨z3_, hs_⟩
 rw [if_pos c3] at H; have c3b0 := decide_eq_true c3; clear c3; replace H := Option.bind_eq_some_iff.mp H; obtain ⟨t121, A40, H⟩ := H; have A4 := Aside0.mk A40; clear A40; by_cases c5 : t121 = true; rotate_left
 ·replace c5 := Bool.eq_false_iff.mpr c5; subst c5; rw [if_neg nft_] at H; obtain rfl := Option.some.inj H; go_enter Tryz.func192, Tryz.ntmps192; go_wp2_with (first | ((with_reducible refine gate_dst (N := 1) rfl ?_); refine be_ (cs := #[.int .i64 a0_0, .string a0_1, .string a0_2]) (t := 108) ?_; intro gb120 hg w17 hbox hb; have BK120 := Aside0.mk (hbox); have GW120 := ag_ hg HB; have GE120 := ag_ hg HB; replace HB := ah_ HB hb; clear hb hbox hg; obtain ⟨Z18_0, Z18_1, Z18_2, F18_0, F18_1, F18_2⟩ := bc3 BK120.out) | (go_at_call 156; (with_reducible refine (path_Is.calls k a0_1 false _ A4.out).mono ?_); rintro e w19 ⟨rfl, hb⟩; replace BK120 := ab_ BK120 hb; replace HB := Aside0.mk (below_step (hs_) hb); (try clear hb); (try clear hb2); (try clear hk); (try clear hi)))
  go_ret
  exact ⟨z3_, hs_⟩
 subst c5; rw [if_pos rfl] at H; replace H := Option.bind_eq_some_iff.mp H; obtain ⟨t122, A60, H⟩ := H; have A6 := Aside0.mk A60; clear A60; by_cases c7 : t122 = true
 ·subst c7; rw [if_pos rfl] at H; obtain rfl := Option.some.inj H; go_enter Tryz.func192, Tryz.ntmps192; go_wp2_with (first | ((with_reducible refine gate_dst (N := 1) rfl ?_); refine be_ (cs := #[.int .i64 a0_0, .string a0_1, .string a0_2]) (t := 108) ?_; intro gb120 hg w8 hbox hb; have BK120 := Aside0.mk (hbox); have GW120 := ag_ hg HB; have GE120 := ag_ hg HB; replace HB := ah_ HB hb; clear hb hbox hg; obtain ⟨Z9_0, Z9_1, Z9_2, F9_0, F9_1, F9_2⟩ := bc3 BK120.out) | (go_at_call 156; (with_reducible refine (path_Is.calls k a0_1 true _ A4.out).mono ?_); rintro e w10 ⟨rfl, hb⟩; replace BK120 := ab_ BK120 hb; replace HB := Aside0.mk (below_step (hs_) hb); (try clear hb); (try clear hb2); (try clear hk); (try clear hi); obtain ⟨Z11_0, Z11_1, Z11_2, F11_0, F11_1, F11_2⟩ := bc3 BK120.out) | (go_at_call 68; (with_reducible refine (strings_Contains2.calls a0_1 ⟨#[47]⟩ true _ ?side1 A6.out).mono ?_); (case side1 => exact GV.below hgv (hs_)); rintro e w' ⟨rfl, ⟨nd, rfl⟩⟩)); go_ret
  exact ⟨z3_, hs_⟩
 replace c7 := Bool.eq_false_iff.mpr c7; subst c7; rw [if_neg nft_] at H; replace H := Option.bind_eq_some_iff.mp H; obtain ⟨t123, A120, H⟩ := H; have A12 := Aside0.mk A120; clear A120; obtain rfl := Option.some.inj H; go_enter Tryz.func192, Tryz.ntmps192; go_wp2_with (first | ((with_reducible refine gate_dst (N := 1) rfl ?_); refine be_ (cs := #[.int .i64 a0_0, .string a0_1, .string a0_2]) (t := 108) ?_; intro gb120 hg w13 hbox hb; have BK120 := Aside0.mk (hbox); have GW120 := ag_ hg HB; have GE120 := ag_ hg HB; replace HB := ah_ HB hb; clear hb hbox hg; obtain ⟨Z14_0, Z14_1, Z14_2, F14_0, F14_1, F14_2⟩ := bc3 BK120.out) | (go_at_call 156; (with_reducible refine (path_Is.calls k a0_1 true _ A4.out).mono ?_); rintro e w15 ⟨rfl, hb⟩; replace BK120 := ab_ BK120 hb; replace HB := Aside0.mk (below_step (hs_) hb); (try clear hb); (try clear hb2); (try clear hk); (try clear hi); obtain ⟨Z16_0, Z16_1, Z16_2, F16_0, F16_1, F16_2⟩ := bc3 BK120.out) | (go_at_call 68; (with_reducible refine (strings_Contains2.calls a0_1 ⟨#[47]⟩ false _ ?side1 A6.out).mono ?_); (case side1 => exact GV.below hgv (hs_)); rintro e w' ⟨rfl, ⟨nd, rfl⟩⟩) | (go_at_call 65; (with_reducible refine (ident_Is.calls k a0_2 t123 _ A12.out).mono ?_); rintro e w' ⟨rfl, ⟨nd, rfl⟩⟩)); go_ret
 exact ⟨z3_, hs_⟩

end Go.Proofs.YtbhfbbfjdklfgaaGreatDoor.Q


/- A map from strings to ints that the call makes, as a state: how often it was written, and what stands at a key. -/
namespace Go.Proofs.YtbhfbbfjdklfgaaGreatDoor.Q
open Go.RowKit Go.Maps Go.Proofs.YtbhfbbfjdklfgaaGreatDoorW.PrintWords Go.Proofs.YtbhfbbfjdklfgaaGreatDoorW.PrintLast Go.Proofs.YtbhfbbfjdklfgaaGreatDoorW.PrintMore
structure MSI where
  n : Nat
  f : List UInt8 → Option Int
def MSI.nil : MSI := ⟨0, fun _ => none⟩
def MSI.get (m : MSI) (k : ByteArray) : Int := (m.f k.data.toList).getD 0
def MSI.has (m : MSI) (k : ByteArray) : Bool := (m.f k.data.toList).isSome
def MSI.put (m : MSI) (k : ByteArray) (v : Int) : MSI := ⟨m.n + 1, fun x => if x = k.data.toList then some v else m.f x⟩
def IsS176 (w0 W : World) (g : Nat) (f0 : MSI) : Prop := w0.heap.size ≤ g ∧ ∃ D : DataW Unit, W.ownsMap Tryz.prog 9 (plainElem Tryz.prog 3) g f0.n D ∧
  ∀ s : List UInt8, s.length ≤ maxLen → D.atKey (.string s) (.lit (.int .i64 0)) = .lit (.int .i64 ((f0.f s).getD 0)) ∧ Maps.has D (.string s) = (f0.f s).isSome
theorem mapLaw : Keyed Tryz.prog 9 := string_keyed Tryz.underlying9
theorem mapZero (w : World) : (zeroValue 3).run Tryz.prog w = .ok (.int .i64 0) w := by kernel_rfl
section
variable {w0 W W1 : World} {g : Nat} {f0 : MSI}
theorem IsS176.block (h : IsS176 w0 W g f0) : ∃ es clock, W.heap[g]? = some (.map es clock) := by
  obtain ⟨_, D, ⟨es, c, hb, _⟩, _⟩ := h
  exact ⟨es, c, hb⟩
theorem IsS176.grown {row : Option Nat} (h : IsS176 w0 W g f0) (hw : W.grownBy W1 row) (hne : some g ≠ row) : IsS176 w0 W1 g f0 := by
  obtain ⟨h0, D, h1, h2⟩ := h
  exact ⟨h0, D, h1.kept hw hne, h2⟩
theorem IsS176.below (h : IsS176 w0 W g f0) (hw : Below W.heap.size W W1) : IsS176 w0 W1 g f0 := h.grown (grown_of_below hw none) (by simp)
theorem IsS176.alloc (h : IsS176 w0 W g f0) (o : Obj) : IsS176 w0 (W.alloc o) g f0 := h.below (below_alloc (Below.refl _ _) o)
theorem IsS176.drewN (h : IsS176 w0 W g f0) (m : Nat) : IsS176 w0 (W.drewN m) g f0 := h
theorem IsS176.drew (h : IsS176 w0 W g f0) : IsS176 w0 W.drew g f0 := h
theorem IsS176.at_ {m : Nat} (hq : W.drewN m = W1) (h : IsS176 w0 W g f0) : IsS176 w0 W1 g f0 := by subst hq; exact h
theorem IsS176.ge (h : IsS176 w0 W g f0) : w0.heap.size ≤ g := h.1
theorem IsS176.lt (h : IsS176 w0 W g f0) : g < W.heap.size := by
  obtain ⟨_, D, h1, _⟩ := h
  exact h1.lt
theorem IsS176.fresh (h : IsS176 w0 W g f0) : ∀ k, W.heap.size ≤ k → k ≠ g := fun k hk e => by have := h.lt; omega
theorem IsS176.far {p : Addr} (h : IsS176 w0 W g f0) (hne : g ≠ p.block) (u : Value) : IsS176 w0 (W.setCell p u) g f0 := by
  obtain ⟨h0, D, h1, h2⟩ := h
  exact ⟨h0, D, h1.setCell hne u, h2⟩
theorem IsS176.apart {α : Type} {d : Kd α} {e : Nat} {base : Nat} {ok : Nat → Prop} {v : Value} {xs : List α} (h : IsS176 w0 W g f0) (ho : d.R e W base ok v xs) (ht : ∀ q, q ∈ e :: d.E → q ≠ 176) : d.R e W base (fun k => ok k ∧ k ≠ g) v xs := by
  obtain ⟨es, c, hb⟩ := h.block
  refine Kd.R_mono (Kd.R_bound ho) (fun k hk => ⟨hk.1, ?_⟩)
  rintro rfl
  obtain ⟨_, _, _, q, _, cells, hc⟩ := hk
  rw [hc] at hb
  cases hb
theorem IsS176.own_ne {α : Type} {d : Kd α} {e : Nat} {base : Nat} {ok : Nat → Prop} {v : Value} {xs : List α} (h : IsS176 w0 W g f0) (ho : d.R e W base ok v xs) (ht : e ≠ 176) : some g ≠ v.ownBlock := by
  obtain ⟨es, c, hb⟩ := h.block
  intro he
  obtain ⟨_, _, _, q, _, cells, hc⟩ := (Kd.R_bound ho).1 g he.symm
  rw [hc] at hb
  cases hb
theorem IsS176.made (hb : W.ownsMap Tryz.prog 9 (plainElem (H := Unit) Tryz.prog 3) g 0 (.map [])) (hg : w0.heap.size ≤ g) : IsS176 w0 W g MSI.nil :=
  ⟨hg, .map [], hb, fun s hs => ⟨by simp [DataW.atKey, MSI.nil], by simp [Maps.has, MSI.nil]⟩⟩
end
section
variable {ops : Array Oper} {rest : List Oper} {o : Oper} {a : Act} {Q : Exit → Act → World → Prop} {w0 W : World} {g : Nat} {f0 : MSI}
theorem mkmap_event (hgd : o.guard = none) {N : Tmp} (hd : o.dst = some N) (hop : o.op = .makeMap 176 none)
    (h : ∀ g, g = W.heap.size → ∀ w1, w1.ownsMap Tryz.prog 9 (plainElem (H := Unit) Tryz.prog 3) g 0 (.map []) → Below W.heap.size W w1 → wpList Tryz.prog ops Q rest (a.put o.dst (.map (some g))) w1) : wpList Tryz.prog ops Q (o :: rest) a W := by
  have hmm := @run_makeMap Tryz.prog
  refine Kd.event_run hgd (v := .map (some W.heap.size)) (w1 := W.alloc (.map #[] 0)) ?_ (h _ rfl _ (World.ownsMap_made _ _ _ _) (below_alloc (Below.refl _ _) _))
  simp [execOp, hop, hmm, Result.andThen]
theorem IsS176.look {m x : Operand} {k : ByteArray} (h : IsS176 w0 W g f0) (hgd : o.guard = none) (hop : o.op = .lookup 176 m x false) (hm : a.eval m = .map (some g)) (hx : a.eval x = .string k) (hs : k.size ≤ 9223372036854775807)
    (K : wpList Tryz.prog ops Q rest (a.put o.dst (.int .i64 (MSI.get f0 k))) W) : wpList Tryz.prog ops Q (o :: rest) a W := by
  obtain ⟨h0, D, h1, h2⟩ := h
  refine wpList_lookup_own_int _ hgd m x 176 hop 9 3 .i64 mapLaw Tryz.underlying176 Tryz.underlying3 (mapZero _) g f0.n D hm h1 _ _ hx (WideMaps.keyOf_string_mk Tryz.underlying9 (by unfold maxLen; exact hs)) ?_
  intro c hat hwc
  have := (h2 k.data.toList (by unfold maxLen; exact hs)).1
  rw [this] at hat
  have e : c = MSI.get f0 k := by
    injection hat with hat
    injection hat with _ hat
    exact hat.symm
  rw [e]
  exact K
theorem IsS176.put_ {m x v : Operand} {k : ByteArray} {n : Int} (h : IsS176 w0 W g f0) (hgd : o.guard = none) (hop : o.op = .mapUpdate 176 m x v) (hm : a.eval m = .map (some g)) (hx : a.eval x = .string k) (hv : a.eval v = .int .i64 n) (hs : k.size ≤ 9223372036854775807) (hn : f0.n < 4611686018427387904) (hw : (Lit.int .i64 n).wf = true)
    (K : ∀ w1, IsS176 w0 w1 g (MSI.put f0 k n) → W.grownBy w1 (some g) → wpList Tryz.prog ops Q rest (a.put o.dst undef) w1) : wpList Tryz.prog ops Q (o :: rest) a W := by
  obtain ⟨h0, D, h1, h2⟩ := h
  have hk : keyOf Tryz.prog 9 (.string k) = some (.string k.data.toList) := WideMaps.keyOf_string_mk Tryz.underlying9 (by unfold maxLen; exact hs)
  refine wpList_mapUpdate_own _ hgd m x v 176 hop 9 3 mapLaw Tryz.underlying176 _ g f0.n D hm h1 (by unfold maxLen; omega) _ _ _ hx hv hk _ [] (plainElem_int Tryz.underlying3 hw) ?_
  intro w1 hown hg
  refine K w1 ⟨h0, _, hown, fun s hl => ?_⟩ hg
  have hD : IsMap D := by
    obtain ⟨es, c, _, _, _, rfl⟩ := h1
    exact ⟨_, rfl⟩
  have hkl : WideAt.IsKeyLit (.string k.data.toList) := trivial
  by_cases e : s = k.data.toList
  · subst e
    refine ⟨?_, ?_⟩
    · rw [atKey_put_same hD hkl]; simp [MSI.put]
    · rw [has_put_same hD hkl]; simp [MSI.put]
  · have hne : (Lit.string s) ≠ .string k.data.toList := fun h => e (by injection h)
    have := h2 s hl
    refine ⟨?_, ?_⟩
    · rw [atKey_put_other hne, this.1]; simp [MSI.put, e]
    · rw [has_put_other hne, this.2]; simp [MSI.put, e]
end
end Go.Proofs.YtbhfbbfjdklfgaaGreatDoor.Q


namespace Go.Proofs.YtbhfbbfjdklfgaaGreatDoor.Q
open Go.RowKit Go.Proofs.YtbhfbbfjdklfgaaGreatDoorW.PrintWords Go.Proofs.YtbhfbbfjdklfgaaGreatDoorW.PrintLast Go.Proofs.YtbhfbbfjdklfgaaGreatDoorW.PrintMore
attribute [local go_sem] max2_int min2_int max_two min_two max_three min_three max_four min_four   -- for this text's walks alone

mutual
def tree_Check.l0 : Nat → List (S108) → List (S108) → Int → Int → MSI → Option (Int)
 | 0, _, _, _, _, _ => none
 | k + 1, x0, x10, x11, x12, x102000 => if x12 < x11 then (if 0 ≤ x12 then (if x12 < (x10.length : Int) then (if ((rd_T108 x10 x12).f1).size ≤ 9223372036854775807 then (if x102000.n < 4611686018427387904 then ((tree_may.f k ((rd_T108 x10 x12).f0) ((rd_T108 x10 x12).f1) ((rd_T108 x10 x12).f2)).bind fun t104 => (if t104 = true then (if x12 > 0 then (if 0 ≤ (wrap64 (x12 - 1)) then (if (wrap64 (x12 - 1)) < (x0.length : Int) then ((tree_Less.f ((rd_T108 x0 (wrap64 (x12 - 1))).f0) ((rd_T108 x0 (wrap64 (x12 - 1))).f1) ((rd_T108 x0 (wrap64 (x12 - 1))).f2) ((rd_T108 x10 x12).f0) ((rd_T108 x10 x12).f1) ((rd_T108 x10 x12).f2)).bind fun t106 => (tree_Check.j1 k x0 x10 x11 x12 (!t106) (MSI.put x102000 ((rd_T108 x10 x12).f1) (wrap64 ((MSI.get x102000 ((rd_T108 x10 x12).f1)) + 1))) ((rd_T108 x10 x12).f0) ((rd_T108 x10 x12).f1) ((rd_T108 x10 x12).f2))) else (none)) else (none)) else (tree_Check.j1 k x0 x10 x11 x12 false (MSI.put x102000 ((rd_T108 x10 x12).f1) (wrap64 ((MSI.get x102000 ((rd_T108 x10 x12).f1)) + 1))) ((rd_T108 x10 x12).f0) ((rd_T108 x10 x12).f1) ((rd_T108 x10 x12).f2))) else (some 1))) else (none)) else (none)) else (none)) else (none)) else (some 0)
def tree_Check.j1 : Nat → List (S108) → List (S108) → Int → Int → Bool → MSI → Int → ByteArray → ByteArray → Option (Int)
 | 0, _, _, _, _, _, _, _, _, _ => none
 | k + 1, x0, x10, x11, x12, x26, x102000, x104000, x104001, x104002 => if x26 = true then (some 150) else (if x104001.size ≤ 9223372036854775807 then (if (MSI.get x102000 x104001) > 1 then (some 6) else (tree_Check.l0 k x0 x10 x11 (wrap64 (x12 + 1)) x102000)) else (none))
end
def tree_Check.f (k : Nat) (l0 : List (S108)) : Option (Int) := if (l0.length : Int) > 1024 then (some 4) else (tree_Check.l0 k l0 l0 (l0.length : Int) 0 MSI.nil)
theorem tree_Check.mono_l : ∀ k, (∀ y0 y1 y2 y3 y4, LeO (tree_Check.l0 k y0 y1 y2 y3 y4) (tree_Check.l0 (k + 1) y0 y1 y2 y3 y4)) ∧ (∀ y0 y1 y2 y3 y4 y5 y6 y7 y8, LeO (tree_Check.j1 k y0 y1 y2 y3 y4 y5 y6 y7 y8) (tree_Check.j1 (k + 1) y0 y1 y2 y3 y4 y5 y6 y7 y8))
 | 0 => ⟨fun _ _ _ _ _ r h => by simp [tree_Check.l0] at h, fun _ _ _ _ _ _ _ _ _ r h => by simp [tree_Check.j1] at h⟩
 | k + 1 => by
  obtain ⟨ih0, ih1⟩ := tree_Check.mono_l k
  refine ⟨?_, ?_⟩
  ·intro y0 y1 y2 y3 y4
   unfold tree_Check.l0
   have m0_ := @ih0
   have m1_ := @ih1
   have m2_ := @tree_may.mono
   exact mz_
  ·intro y0 y1 y2 y3 y4 y5 y6 y7 y8
   unfold tree_Check.j1
   have m0_ := @ih0
   have m1_ := @ih1
   have m2_ := @tree_may.mono
   exact mz_
theorem tree_Check.mono : ∀ a0 k, LeO (tree_Check.f k a0) (tree_Check.f (k + 1) a0) := by
 intro a0 k; obtain ⟨ih0, ih1⟩ := tree_Check.mono_l k; unfold tree_Check.f; have m0_ := @ih0; have m1_ := @ih1; have m2_ := @tree_may.mono; exact mz_
def tree_Check.T10 : Bool × List (List Nat × List Nat) := (true, [([], []), ([0], [0]), ([1], [1]), ([2], [2]), ([2], [2]), ([4, 2], [2, 4]), ([3, 5, 2], [2, 3, 5]), ([6, 2], [2, 6]), ([2], [2]), ([7, 8, 2, 2], [2, 7, 8]), ([9, 2], [2, 9]), ([2, 10], [2, 10]), ([11, 9], [11])])
def tree_Check.B10 : List Nat := [0, 1, 3, 7, 7, 23, 63, 127, 7, 511, 1023, 2047, 4095]
theorem tree_Check.tab10 : rtab .any (opsOf Tryz.f150 10) = tree_Check.T10 := by kernel_rfl
theorem tree_Check.bits10 : waitsOk tree_Check.T10.2 tree_Check.B10 = true := by kernel_rfl
set_option maxHeartbeats 8000000 in
set_option maxRecDepth 100000 in
theorem tree_Check.calls (k : Nat) (A0 : Option Addr) (c0 : Nat) (l0 : List (S108)) (r : Int) (w : World) (hr0 : Kd.C k108 w A0 l0.length l0) (hc0 : l0.length ≤ c0) (hgv : GV w) (h : tree_Check.f k l0 = some r) :
  Calls Tryz.prog 150 #[.slice A0 l0.length c0] w fun e w' => e = .returned (.int .i64 r) ∧ Below w.heap.size w w' := by
 have hu108 := Tryz.underlying108; have HR0 := Aside0.mk hr0; have HC0 := Aside0.mk hc0; clear hr0 hc0; have HB := Aside0.mk (Below.refl w.heap.size w); unfold tree_Check.f at h; have H := h; clear h; by_cases c2 : (l0.length : Int) > 1024
 ·rw [if_pos c2] at H; have c2b0 := decide_eq_true c2; have c2b1 : decide (1024 < l0.length) = true := decide_eq_true (by omega); clear c2; obtain rfl := Option.some.inj H; go_enter Tryz.func150, Tryz.ntmps150; go_wp2
  go_ret
  exact ⟨z3_, hb_ HB.out⟩
 rw [if_neg c2] at H; have c2b0 := decide_eq_false c2; have c2b1 : decide (1024 < l0.length) = false := decide_eq_false (by omega); clear c2; have H' := Aside0.mk H; clear H; go_enter Tryz.func150, Tryz.ntmps150; go_wp2_with (first | ((with_reducible refine gate_dst (N := 9) rfl ?_); refine mkmap_event rfl (N := 9) rfl rfl ?_; intro gb101 hg w3 hbox hb; have HI101 := Aside0.mk (IsS176.made hbox (gw_ hg HB.out)); replace HB := ah_ HB hb; clear hb hbox hg)); go_loopg [12] k (fun kq v12 w' => ∃ (x12_1 : Int) (x102000_1 : MSI), v12 = .int .i64 x12_1 ∧ Aside0 (tree_Check.l0 kq l0 l0 (l0.length : Int) x12_1 x102000_1 = some r) ∧ Aside0 (kq ≤ k) ∧ Aside0 (IsS176 w w' gb101 x102000_1) ∧ Aside0 (Below w.heap.size w w'))
 case atStart => exact ⟨(0), (MSI.nil), z1_, H', ⟨Nat.le_refl _⟩, ⟨z23_⟩, ⟨z20_⟩⟩
 case round =>
  clear H'; try clear c1
  try clear c2
  try clear c2b0
  try clear c2b1
  try clear p2
  obtain ⟨x12_1, x102000_1, rfl, HA, HK1, HI101, HB⟩ := hrel
  cases gk with
  | zero => exact absurd HA.out (by simp [tree_Check.l0])
  | succ k1 =>
   have H := HA.out; clear HA; simp only [tree_Check.l0] at H; by_cases c4 : x12_1 < (l0.length : Int); rotate_left
   ·rw [if_neg c4] at H; have c4b0 := decide_eq_false c4; clear c4; obtain rfl := Option.some.inj H; go_wp2
    go_ret
    exact ⟨z3_, z20_⟩
   rw [if_pos c4] at H; have c4b0 := decide_eq_true c4; clear c4; by_cases c5 : 0 ≤ x12_1; rotate_left
   ·rw [if_neg c5] at H; exact absurd H (by simp)
   rw [if_pos c5] at H; have c5b0 := decide_eq_true c5; clear c5; by_cases c6 : x12_1 < (l0.length : Int); rotate_left
   ·rw [if_neg c6] at H; exact absurd H (by simp)
   rw [if_pos c6] at H; have c6b0 := decide_eq_true c6; clear c6; by_cases c7 : ((rd_T108 l0 x12_1).f1).size ≤ 9223372036854775807; rotate_left
   ·rw [if_neg c7] at H; exact absurd H (by simp)
   rw [if_pos c7] at H; have c7b0 := eq_true c7; have c7b1 := decide_eq_true c7; try have c7b2 := nl_ c7
   clear c7; have c8b0 := eq_true (of_decide_eq_true z0_ : ((rd_T108 l0 x12_1).f1).size ≤ 9223372036854775807); by_cases c9 : x102000_1.n < 4611686018427387904; rotate_left
   ·rw [if_neg c9] at H; exact absurd H (by simp)
   rw [if_pos c9] at H; have c9b0 := eq_true c9; have c9b1 := decide_eq_true c9; clear c9; replace H := Option.bind_eq_some_iff.mp H; obtain ⟨t104, A100, H⟩ := H; have A10 := Aside0.mk A100; clear A100; by_cases c11 : t104 = true; rotate_left
   ·replace c11 := Bool.eq_false_iff.mpr c11; subst c11; rw [if_neg nft_] at H; obtain rfl := Option.some.inj H; have p102 : 0 ≤ (x12_1 : Int) := of_decide_eq_true z0_; have q102 : x12_1 < (l0.length : Int) := of_decide_eq_true z0_; obtain ⟨ad102, e102, hx102_0, hx102_1, hx102_2⟩ := at_T108 HR0.out x12_1 p102 q102
    cases e102
    replace hx102_0 := (HB.out.cell (World.block_lt_of_cell? w _ hx102_0)).trans hx102_0; replace hx102_1 := (HB.out.cell (World.block_lt_of_cell? w _ hx102_1)).trans hx102_1; replace hx102_2 := (HB.out.cell (World.block_lt_of_cell? w _ hx102_2)).trans hx102_2; replace p102 := eq_true p102; replace q102 := eq_true q102; go_wp2_with (first | ((with_reducible refine gate_dst (N := 5) rfl ?_); refine be_ (cs := #[.int .i64 0, .string ⟨#[]⟩, .string ⟨#[]⟩]) (t := 108) ?_; intro gb103 hg w34 hbox hb; have BK103 := Aside0.mk (hbox); have GW103 := Aside0.mk ((by rw [hg]; exact (below_size z20_) : w.heap.size ≤ gb103)); have GE103 := Aside0.mk ((by rw [hg]; exact (below_size z20_) : w.heap.size ≤ gb103)); replace HB := Aside0.mk (below_step z20_ hb); have NB101_103 := Aside0.mk ((by rw [hg]; exact Nat.ne_of_lt (IsS176.lt (show IsS176 w _ gb101 x102000_1 from z23_)) : gb101 ≠ gb103)); have NB103_101 := Aside0.mk ((by rw [hg]; exact Nat.ne_of_gt (IsS176.lt (show IsS176 w _ gb101 x102000_1 from z23_)) : gb103 ≠ gb101)); replace HI101 := Aside0.mk (IsS176.below z23_ hb); clear hb hbox hg; have hnb35 := NB103_101.out; have hnc35 := NB101_103.out; obtain ⟨Z36_0, Z36_1, Z36_2, F36_0, F36_1, F36_2⟩ := bc3 BK103.out) | ((with_reducible refine gate_dst (N := 20) rfl ?_); refine IsS176.look (show IsS176 w _ gb101 x102000_1 from z14_) rfl rfl rfl rfl (of_decide_eq_true z0_ : ((rd_T108 l0 x12_1).f1).size ≤ 9223372036854775807) ?_) | (at_mapUpdate; refine IsS176.put_ (k := ((rd_T108 l0 x12_1).f1)) (n := (wrap64 ((MSI.get x102000_1 ((rd_T108 l0 x12_1).f1)) + 1))) (show IsS176 w _ gb101 x102000_1 from z14_) rfl rfl rfl rfl rfl (of_decide_eq_true z0_ : ((rd_T108 l0 x12_1).f1).size ≤ 9223372036854775807) (of_decide_eq_true z0_ : x102000_1.n < 4611686018427387904) (wrap64_wf _) ?_; intro w37 hi hg; replace BK103 := Aside0.mk (blk_grown (g := gb103) (o := .cells #[.int .i64 ((rd_T108 l0 x12_1).f0), .string ((rd_T108 l0 x12_1).f1), .string ((rd_T108 l0 x12_1).f2)] 108 (0, 0)) (by have b_ := BK103; exact zb_) hg (fun e_ => NB103_101.out (Option.some.inj e_))); replace HB := Aside0.mk (Below.grown z10_ hg ((below_size z10_)) (fun k_ e_ => (Option.some.inj e_) ▸ (IsS176.ge hi))); replace HI101 := Aside0.mk (hi); clear hi hg; obtain ⟨Z38_0, Z38_1, Z38_2, F38_0, F38_1, F38_2⟩ := bc3 BK103.out) | ((with_reducible refine gate_callee (f := 192) rfl ?_); refine gl_ (some 24) Tryz.func192 #[.agg #[.int .i64 ((rd_T108 l0 x12_1).f0), .string ((rd_T108 l0 x12_1).f1), .string ((rd_T108 l0 x12_1).f2)]] ?_; (with_reducible refine (tree_may.calls k1 ((rd_T108 l0 x12_1).f0) ((rd_T108 l0 x12_1).f1) ((rd_T108 l0 x12_1).f2) false _ ?side1 A10.out).mono ?_); (case side1 => exact GV.below hgv z10_); rintro e w39 ⟨rfl, hb⟩; refine ⟨_, rfl, ?_⟩; replace BK103 := ab_ BK103 hb; replace HB := Aside0.mk (below_step z10_ hb); replace HI101 := Aside0.mk (IsS176.below z14_ hb); (try clear hb); (try clear hb2); (try clear hk); (try clear hi)))
    go_ret
    exact ⟨z3_, z10_⟩
   subst c11; rw [if_pos rfl] at H; have HC12 := Aside0.mk H; clear H; have p102 : 0 ≤ (x12_1 : Int) := of_decide_eq_true z0_; have q102 : x12_1 < (l0.length : Int) := of_decide_eq_true z0_; obtain ⟨ad102, e102, hx102_0, hx102_1, hx102_2⟩ := at_T108 HR0.out x12_1 p102 q102
   cases e102
   replace hx102_0 := (HB.out.cell (World.block_lt_of_cell? w _ hx102_0)).trans hx102_0; replace hx102_1 := (HB.out.cell (World.block_lt_of_cell? w _ hx102_1)).trans hx102_1; replace hx102_2 := (HB.out.cell (World.block_lt_of_cell? w _ hx102_2)).trans hx102_2; replace p102 := eq_true p102; replace q102 := eq_true q102; go_upto_region 10 with (first | ((with_reducible refine gate_dst (N := 5) rfl ?_); refine be_ (cs := #[.int .i64 0, .string ⟨#[]⟩, .string ⟨#[]⟩]) (t := 108) ?_; intro gb103 hg w13 hbox hb; have BK103 := Aside0.mk (hbox); have GW103 := Aside0.mk ((by rw [hg]; exact (below_size z20_) : w.heap.size ≤ gb103)); have GE103 := Aside0.mk ((by rw [hg]; exact (below_size z20_) : w.heap.size ≤ gb103)); replace HB := Aside0.mk (below_step z20_ hb); have NB101_103 := Aside0.mk ((by rw [hg]; exact Nat.ne_of_lt (IsS176.lt (show IsS176 w _ gb101 x102000_1 from z23_)) : gb101 ≠ gb103)); have NB103_101 := Aside0.mk ((by rw [hg]; exact Nat.ne_of_gt (IsS176.lt (show IsS176 w _ gb101 x102000_1 from z23_)) : gb103 ≠ gb101)); replace HI101 := Aside0.mk (IsS176.below z23_ hb); clear hb hbox hg; have hnb14 := NB103_101.out; have hnc14 := NB101_103.out; obtain ⟨Z15_0, Z15_1, Z15_2, F15_0, F15_1, F15_2⟩ := bc3 BK103.out) | ((with_reducible refine gate_dst (N := 20) rfl ?_); refine IsS176.look (show IsS176 w _ gb101 x102000_1 from z14_) rfl rfl rfl rfl (of_decide_eq_true z0_ : ((rd_T108 l0 x12_1).f1).size ≤ 9223372036854775807) ?_) | (at_mapUpdate; refine IsS176.put_ (k := ((rd_T108 l0 x12_1).f1)) (n := (wrap64 ((MSI.get x102000_1 ((rd_T108 l0 x12_1).f1)) + 1))) (show IsS176 w _ gb101 x102000_1 from z14_) rfl rfl rfl rfl rfl (of_decide_eq_true z0_ : ((rd_T108 l0 x12_1).f1).size ≤ 9223372036854775807) (of_decide_eq_true z0_ : x102000_1.n < 4611686018427387904) (wrap64_wf _) ?_; intro w16 hi hg; replace BK103 := Aside0.mk (blk_grown (g := gb103) (o := .cells #[.int .i64 ((rd_T108 l0 x12_1).f0), .string ((rd_T108 l0 x12_1).f1), .string ((rd_T108 l0 x12_1).f2)] 108 (0, 0)) (by have b_ := BK103; exact zb_) hg (fun e_ => NB103_101.out (Option.some.inj e_))); replace HB := Aside0.mk (Below.grown z10_ hg ((below_size z10_)) (fun k_ e_ => (Option.some.inj e_) ▸ (IsS176.ge hi))); replace HI101 := Aside0.mk (hi); clear hi hg; obtain ⟨Z17_0, Z17_1, Z17_2, F17_0, F17_1, F17_2⟩ := bc3 BK103.out) | ((with_reducible refine gate_callee (f := 192) rfl ?_); refine gl_ (some 24) Tryz.func192 #[.agg #[.int .i64 ((rd_T108 l0 x12_1).f0), .string ((rd_T108 l0 x12_1).f1), .string ((rd_T108 l0 x12_1).f2)]] ?_; (with_reducible refine (tree_may.calls k1 ((rd_T108 l0 x12_1).f0) ((rd_T108 l0 x12_1).f1) ((rd_T108 l0 x12_1).f2) true _ ?side1 A10.out).mono ?_); (case side1 => exact GV.below hgv z10_); rintro e w18 ⟨rfl, hb⟩; refine ⟨_, rfl, ?_⟩; replace BK103 := ab_ BK103 hb; replace HB := Aside0.mk (below_step z10_ hb); replace HI101 := Aside0.mk (IsS176.below z14_ hb); (try clear hb); (try clear hb2); (try clear hk); (try clear hi)))
   (try simp only [Act.put, List.setIfInBounds_toArray, List.set_cons_zero, List.set_cons_succ])
   go_cut [26] (fun v26 wc => ∃ (kq : Nat) (x26_11 : Bool), v26 = .bool x26_11 ∧ Aside0 (tree_Check.j1 kq l0 l0 (l0.length : Int) x12_1 x26_11 (MSI.put x102000_1 ((rd_T108 l0 x12_1).f1) (wrap64 ((MSI.get x102000_1 ((rd_T108 l0 x12_1).f1)) + 1))) ((rd_T108 l0 x12_1).f0) ((rd_T108 l0 x12_1).f1) ((rd_T108 l0 x12_1).f2) = some r) ∧ Aside0 (kq ≤ k1) ∧ Aside0 (wc.heap[gb103]? = some (.cells #[.int .i64 ((rd_T108 l0 x12_1).f0), .string ((rd_T108 l0 x12_1).f1), .string ((rd_T108 l0 x12_1).f2)] 108 (0, 0))) ∧ Aside0 (IsS176 w wc gb101 (MSI.put x102000_1 ((rd_T108 l0 x12_1).f1) (wrap64 ((MSI.get x102000_1 ((rd_T108 l0 x12_1).f1)) + 1)))) ∧ Aside0 (Below w.heap.size w wc))
   case first =>
    have H := HC12.out; clear HC12; by_cases c19 : x12_1 > 0; rotate_left
    ·rw [if_neg c19] at H; have c19b0 := decide_eq_false c19; clear c19; (first | rw [c19b0] | (simp only [i64_w, i32_w]; rw [c19b0]) | skip); have H' := Aside0.mk H; clear H; try go_wp2
     replace BK103 := Aside0.mk (blk_drew BK103.out); replace HI101 := Aside0.mk (IsS176.drew HI101.out); replace HB := Aside0.mk (below_drew1 HB.out); refine start_ (n := 13) (S := fun w' => True) (ds := []) (bs 13 0) (by kernel_rfl) rfl rfl trivial (fun hHeld => ?_); refine with_tabW tree_Check.tab10 tree_Check.bits10 (fun HT_ HW_ => ?_); generalize w18.drew = w26 at BK103 HI101 HB hHeld ⊢; refine pu_ (i := 0) (N := some 27) (bs 13 1) rfl rfl ?_; refine pu_ (i := 1) (N := some 28) (bs 13 3) rfl rfl ?_; refine pu_ (i := 2) (N := some 29) (bs 13 7) rfl rfl ?_; refine pn_ (i := 3) (N := some 30) (bs 13 15) rfl rfl ?_; refine pn_ (i := 4) (N := some 31) (bs 13 31) rfl rfl ?_; refine pn_ (i := 5) (N := some 32) (bs 13 63) rfl rfl ?_; refine pn_ (i := 6) (N := some 33) (bs 13 127) rfl rfl ?_; refine pn_ (i := 7) (N := some 34) (bs 13 255) rfl rfl ?_; refine pn_ (i := 8) (N := some 35) (bs 13 511) rfl rfl ?_; refine pn_ (i := 9) (N := some 36) (bs 13 1023) rfl rfl ?_; refine pn_ (i := 10) (N := some 37) (bs 13 2047) rfl rfl ?_; refine pu_ (i := 11) (N := some 38) (bs 13 4095) rfl rfl ?_; refine pu_ (i := 12) (N := some 26) (bs 13 8191) rfl rfl ?_; refine done_ (done_of HT_.out (by kernel_rfl)) ?_; try go_wp2
     go_meet
     case rel => exact ⟨_, (false), z1_, H', ⟨by have := HK1.out; first | omega | exact Nat.le_refl _⟩, ⟨bk_ BK103.out⟩, ⟨z14_⟩, ⟨z10_⟩⟩
    rw [if_pos c19] at H; have c19b0 := decide_eq_true c19; clear c19; (first | rw [c19b0] | (simp only [i64_w, i32_w]; rw [c19b0]) | skip); obtain ⟨ji20, hji20⟩ : ∃ j_ : Int, (wrap64 (x12_1 - 1)) = j_ := ⟨_, rfl⟩; replace H : (if 0 ≤ (ji20) then (if (ji20) < (l0.length : Int) then ((tree_Less.f ((rd_T108 l0 (ji20)).f0) ((rd_T108 l0 (ji20)).f1) ((rd_T108 l0 (ji20)).f2) ((rd_T108 l0 x12_1).f0) ((rd_T108 l0 x12_1).f1) ((rd_T108 l0 x12_1).f2)).bind fun t106 => (tree_Check.j1 k1 l0 l0 (l0.length : Int) x12_1 (!t106) (MSI.put x102000_1 ((rd_T108 l0 x12_1).f1) (wrap64 ((MSI.get x102000_1 ((rd_T108 l0 x12_1).f1)) + 1))) ((rd_T108 l0 x12_1).f0) ((rd_T108 l0 x12_1).f1) ((rd_T108 l0 x12_1).f2))) else (none)) else (none)) = some r := by first | (rw [hji20] at H; exact H) | (simp only [hji20] at H ⊢; exact H)
    have hji20w : (IntKind.i64.wrap (x12_1 - 1)) = ji20 := (i64_w _).trans hji20; by_cases c21 : 0 ≤ (ji20); rotate_left
    ·rw [if_neg c21] at H; exact absurd H (by simp)
    rw [if_pos c21] at H; have c21b0 := decide_eq_true c21; clear c21; by_cases c22 : (ji20) < (l0.length : Int); rotate_left
    ·rw [if_neg c22] at H; exact absurd H (by simp)
    rw [if_pos c22] at H; have c22b0 := decide_eq_true c22; clear c22; replace H := Option.bind_eq_some_iff.mp H; obtain ⟨t106, A230, H⟩ := H; have A23 := Aside0.mk A230; clear A230; have H' := Aside0.mk H; clear H; try go_wp2
    replace BK103 := Aside0.mk (blk_drew BK103.out); replace HI101 := Aside0.mk (IsS176.drew HI101.out); replace HB := Aside0.mk (below_drew1 HB.out); have p105 : 0 ≤ ((ji20) : Int) := of_decide_eq_true z0_; have q105 : (ji20) < (l0.length : Int) := of_decide_eq_true z0_; obtain ⟨ad105, e105, hx105_0, hx105_1, hx105_2⟩ := at_T108 HR0.out (ji20) p105 q105; have hw105_2 := hx105_2; have hw105_1 := hx105_1; have hw105_0 := hx105_0; obtain rfl : ad102 = ad105 := (by injection e105); replace hx105_0 := (HB.out.cell (World.block_lt_of_cell? w _ hx105_0)).trans hx105_0; replace hx105_1 := (HB.out.cell (World.block_lt_of_cell? w _ hx105_1)).trans hx105_1; replace hx105_2 := (HB.out.cell (World.block_lt_of_cell? w _ hx105_2)).trans hx105_2; replace p105 := eq_true p105; replace q105 := eq_true q105; refine start_ (n := 13) (S := fun w' => w'.cell? ⟨gb103, 0, none⟩ = some (.int .i64 ((rd_T108 l0 x12_1).f0)) ∧ w'.cell? ⟨gb103, 1, none⟩ = some (.string ((rd_T108 l0 x12_1).f1)) ∧ w'.cell? ⟨gb103, 2, none⟩ = some (.string ((rd_T108 l0 x12_1).f2)) ∧ w'.cell? (ad102.add (((ji20)).toNat * 3)) = some (.int .i64 ((rd_T108 l0 (ji20)).f0)) ∧ w'.cell? ⟨(ad102.add (((ji20)).toNat * 3)).block, (ad102.add (((ji20)).toNat * 3)).off + 1, none⟩ = some (.string ((rd_T108 l0 (ji20)).f1)) ∧ w'.cell? ⟨(ad102.add (((ji20)).toNat * 3)).block, (ad102.add (((ji20)).toNat * 3)).off + 2, none⟩ = some (.string ((rd_T108 l0 (ji20)).f2))) (ds := []) (bs 13 0) (by kernel_rfl) rfl rfl ⟨(blk_cell BK103.out 0).trans rfl, (blk_cell BK103.out 1).trans rfl, (blk_cell BK103.out 2).trans rfl, ((HB.out.cell (World.block_lt_of_cell? w _ hw105_0)).trans hw105_0), ((HB.out.cell (World.block_lt_of_cell? w _ hw105_1)).trans hw105_1), ((HB.out.cell (World.block_lt_of_cell? w _ hw105_2)).trans hw105_2)⟩ (fun hHeld => ?_); refine with_tabW tree_Check.tab10 tree_Check.bits10 (fun HT_ HW_ => ?_); generalize w18.drew = w24 at BK103 HI101 HB hx105_0 hx105_1 hx105_2 hHeld ⊢; refine pu_ (i := 0) (N := some 27) (bs 13 1) rfl rfl ?_; refine pu_ (i := 1) (N := some 28) (bs 13 3) rfl rfl ?_; refine pu_ (i := 2) (N := some 29) (bs 13 7) rfl rfl ?_; refine pu_ (i := 3) (N := some 30) (bs 13 15) rfl rfl ?_; refine pu_ (i := 4) (N := some 31) (bs 13 31) rfl rfl ?_; refine pu_ (i := 5) (N := some 32) (bs 13 63) rfl rfl ?_; refine pu_ (i := 6) (N := some 33) (bs 13 127) rfl rfl ?_; refine tkW6_ (i := 7) (N := some 34) (bs 13 255) rfl rfl hHeld ?_; refine tkW6_ (i := 8) (N := some 35) (bs 13 511) rfl rfl hHeld ?_; refine one_ (i := 9) (N := some 36) (bs 13 1023) rfl rfl (one_of HT_.out (by kernel_rfl)) (by decide) (fun K hK => ?_); refine goes_ Tryz.func193 (by kernel_rfl) rfl #[.agg #[.int .i64 ((rd_T108 l0 (ji20)).f0), .string ((rd_T108 l0 (ji20)).f1), .string ((rd_T108 l0 (ji20)).f2)], .agg #[.int .i64 ((rd_T108 l0 x12_1).f0), .string ((rd_T108 l0 x12_1).f1), .string ((rd_T108 l0 x12_1).f2)]] (by rfl) rfl rfl (by (try simp only [List.map_toArray, List.map_cons, List.map_nil]); first | done | (simp only [hji20]; rfl) | rfl | (simp only [List.length_drop, List.length_take]; rfl)) ?_
    with_reducible refine (tree_Less.calls ((rd_T108 l0 (ji20)).f0) ((rd_T108 l0 (ji20)).f1) ((rd_T108 l0 (ji20)).f2) ((rd_T108 l0 x12_1).f0) ((rd_T108 l0 x12_1).f1) ((rd_T108 l0 x12_1).f2) t106 _ A23.out).mono ?_
    rintro e w25 ⟨rfl, hb⟩; refine ⟨_, rfl, ?_⟩; replace BK103 := ab_ BK103 hb; replace HB := Aside0.mk (below_step z10_ hb); replace HI101 := Aside0.mk (IsS176.below z14_ hb); (try clear hb)
    (try clear hb2)
    (try clear hk)
    (try clear hi)
    refine hK.out _ _ ⟨(blk_cell BK103.out 0).trans rfl, (blk_cell BK103.out 1).trans rfl, (blk_cell BK103.out 2).trans rfl, ((HB.out.cell (World.block_lt_of_cell? w _ hw105_0)).trans hw105_0), ((HB.out.cell (World.block_lt_of_cell? w _ hw105_1)).trans hw105_1), ((HB.out.cell (World.block_lt_of_cell? w _ hw105_2)).trans hw105_2)⟩ (fun hHeld => ?_); clear hK K; refine norm_ (a' := ?_) ?_ ?_; rotate_left
    ·show Act.put _ (some 36) _ = _
     simp only [Act.put, List.setIfInBounds_toArray, List.set_cons_zero, List.set_cons_succ, i64_w, i32_w]; rfl
    refine pu_ (i := 10) (N := some 37) (bs 13 2047) rfl rfl ?_; refine pu_ (i := 11) (N := some 38) (bs 13 4095) rfl rfl ?_; refine pu_ (i := 12) (N := some 26) (bs 13 8191) rfl rfl ?_; refine done_ (done_of HT_.out (by kernel_rfl)) ?_; try go_wp2
    (try subst hji20)
    go_meet
    case rel => exact ⟨_, (!t106), z1_, H', ⟨by have := HK1.out; first | omega | exact Nat.le_refl _⟩, ⟨bk_ BK103.out⟩, ⟨z14_⟩, ⟨z10_⟩⟩
   case rest =>
    clear HC12; try clear c1
    try clear p1
    try clear q1
    try clear hx1
    try clear c2
    try clear c2b0
    try clear c2b1
    try clear p2
    try clear c4
    try clear c4b0
    try clear c5
    try clear c5b0
    try clear c6
    try clear c6b0
    try clear p6
    try clear c7
    try clear c7b0
    try clear c7b1
    try clear c7b2
    try clear c8
    try clear c8b0
    try clear c9
    try clear c9b0
    try clear c9b1
    try clear p10
    try clear q10
    try clear hx10
    try clear c11
    try clear c14
    try clear c15
    try clear c19
    try clear c19b0
    try clear c21
    try clear c21b0
    try clear c22
    try clear c22b0
    try clear Z15_0 Z15_1 Z15_2
    try clear Z17_0 Z17_1 Z17_2
    try clear F15_0 F15_1 F15_2
    try clear F17_0 F17_1 F17_2
    try clear hx102_0
    try clear hx102_1
    try clear hx102_2
    try clear hx105_0
    try clear hx105_1
    try clear hx105_2
    try clear p102
    try clear p105
    try clear p2
    try clear q102
    try clear q105
    obtain ⟨kq, x26_11, rfl, HA, HJ11, BK103, HI101, HB⟩ := hcut
    cases kq with
    | zero => exact absurd HA.out (by simp [tree_Check.j1])
    | succ kj11 =>
     have H := HA.out; clear HA; simp only [tree_Check.j1] at H; by_cases c27 : x26_11 = true
     ·subst c27; rw [if_pos rfl] at H; obtain rfl := Option.some.inj H; go_wp2
      go_ret
      exact ⟨z3_, z10_⟩
     replace c27 := Bool.eq_false_iff.mpr c27; subst c27; rw [if_neg nft_] at H; by_cases c28 : ((rd_T108 l0 x12_1).f1).size ≤ 9223372036854775807; rotate_left
     ·rw [if_neg c28] at H; exact absurd H (by simp)
     rw [if_pos c28] at H; have c28b0 := eq_true c28; have c28b1 := decide_eq_true c28; try have c28b2 := nl_ c28
     clear c28; by_cases c29 : (MSI.get (MSI.put x102000_1 ((rd_T108 l0 x12_1).f1) (wrap64 ((MSI.get x102000_1 ((rd_T108 l0 x12_1).f1)) + 1))) ((rd_T108 l0 x12_1).f1)) > 1
     ·rw [if_pos c29] at H; have c29b0 := decide_eq_true c29; clear c29; obtain rfl := Option.some.inj H; have hnb30 := NB103_101.out; have hnc30 := NB101_103.out; obtain ⟨Z31_0, Z31_1, Z31_2, F31_0, F31_1, F31_2⟩ := bc3 BK103.out; go_wp2_with (first | ((with_reducible refine gate_dst (N := 43) rfl ?_); refine IsS176.look (show IsS176 w _ gb101 (MSI.put x102000_1 ((rd_T108 l0 x12_1).f1) (wrap64 ((MSI.get x102000_1 ((rd_T108 l0 x12_1).f1)) + 1))) from z14_) rfl rfl rfl rfl (of_decide_eq_true z0_ : ((rd_T108 l0 x12_1).f1).size ≤ 9223372036854775807) ?_)); go_ret
      exact ⟨z3_, z10_⟩
     rw [if_neg c29] at H; have c29b0 := decide_eq_false c29; clear c29; have H' := Aside0.mk H; clear H; have hnb32 := NB103_101.out; have hnc32 := NB101_103.out; obtain ⟨Z33_0, Z33_1, Z33_2, F33_0, F33_1, F33_2⟩ := bc3 BK103.out; go_wp2_with (first | ((with_reducible refine gate_dst (N := 43) rfl ?_); refine IsS176.look (show IsS176 w _ gb101 (MSI.put x102000_1 ((rd_T108 l0 x12_1).f1) (wrap64 ((MSI.get x102000_1 ((rd_T108 l0 x12_1).f1)) + 1))) from z14_) rfl rfl rfl rfl (of_decide_eq_true z0_ : ((rd_T108 l0 x12_1).f1).size ≤ 9223372036854775807) ?_)); go_roundg kj11
     case measure => have := HK1.out; have := HJ11.out; omega
     case rel => exact ⟨(wrap64 (x12_1 + 1)), ((MSI.put x102000_1 ((rd_T108 l0 x12_1).f1) (wrap64 ((MSI.get x102000_1 ((rd_T108 l0 x12_1).f1)) + 1)))), z1_, H', ⟨by have := HK1.out; have := HJ11.out; omega⟩, ⟨z14_⟩, ⟨z10_⟩⟩


def tree_Parse.l0 : Nat → ByteArray → List (S108) → Option ((List (S108)) × Int)
 | 0, _, _ => none
 | k + 1, x0, x4 => if x0.toList = ([] : List UInt8) then ((tree_Check.f k x4).bind fun t101 => (if t101 = 0 then (some (x4, 0)) else (some (([] : List (S108)), t101)))) else ((tree_mode.f k x0).bind fun bt102 => (if bt102.2.2 = 0 then ((strings_Cut.f bt102.2.1 ⟨#[0]⟩).bind fun bt105 => (if bt105.2.2 = true then (if (bt105.2.1.size : Int) < 20 then (some (([] : List (S108)), 3)) else (if 0 ≤ 20 then (if 20 ≤ (bt105.2.1.size : Int) then ((ident_Hex.f k (bt105.2.1.extract 0 20)).bind fun t108 => (if x4.length < 3518437208883 then (tree_Parse.l0 k (bt105.2.1.extract 20 bt105.2.1.size) (x4 ++ [(⟨bt102.1, bt105.1, t108⟩ : S108)])) else (none))) else (none)) else (none))) else (some (([] : List (S108)), 3)))) else (some (([] : List (S108)), bt102.2.2))))
def tree_Parse.f (k : Nat) (a0 : ByteArray) : Option ((List (S108)) × Int) := tree_Parse.l0 k a0 ([] : List (S108))
theorem tree_Parse.mono_l : ∀ k, (∀ y0 y1, LeO (tree_Parse.l0 k y0 y1) (tree_Parse.l0 (k + 1) y0 y1))
 | 0 => fun _ _ r h => by simp [tree_Parse.l0] at h
 | k + 1 => by
  have ih0 := tree_Parse.mono_l k
  ·intro y0 y1
   unfold tree_Parse.l0
   have m0_ := @ih0
   have m1_ := @ident_Hex.mono
   have m2_ := @tree_Check.mono
   have m3_ := @tree_mode.mono
   exact mz_
theorem tree_Parse.mono : ∀ a0 k, LeO (tree_Parse.f k a0) (tree_Parse.f (k + 1) a0) := by
 intro a0 k; have ih0 := tree_Parse.mono_l k; unfold tree_Parse.f; have m0_ := @ih0; have m1_ := @ident_Hex.mono; have m2_ := @tree_Check.mono; have m3_ := @tree_mode.mono; exact mz_
set_option maxHeartbeats 8000000 in
set_option maxRecDepth 100000 in
theorem tree_Parse.calls (k : Nat) (a0 : ByteArray) (r1 : List (S108)) (r2 : Int) (w : World) (hgv : GV w) (h : tree_Parse.f k a0 = some (r1, r2)) :
  Calls Tryz.prog 94 #[.string a0] w fun e w' => ∃ v0_ : Value, e = .returned (.tuple #[v0_, .int .i64 r2]) ∧ Kd.R k108 108 w' w.heap.size (fun _ => True) v0_ r1 ∧ Below w.heap.size w w' := by
 have hu108 := Tryz.underlying108; have HB := Aside0.mk (Below.refl w.heap.size w); unfold tree_Parse.f at h; have H := h; clear h; have H' := Aside0.mk H; clear H; go_enter Tryz.func94, Tryz.ntmps94; go_wp2
 go_loopg [0, 4] k (fun kq v0 v4 w' => ∃ (x0_1 : ByteArray) (x4_1 : List (S108)), v0 = .string x0_1 ∧ Aside0 (tree_Parse.l0 kq x0_1 x4_1 = some (r1, r2)) ∧ Aside0 (kq ≤ k) ∧ Aside0 (Kd.R k108 108 w' w.heap.size (fun _ => True) v4 x4_1) ∧ Aside0 (Below w.heap.size w w'))
 case atStart => exact ⟨(a0), (([] : List (S108))), z1_, H', ⟨Nat.le_refl _⟩, ⟨z6_⟩, ⟨hb_ HB.out⟩⟩
 case round =>
  clear H'; obtain ⟨x0_1, x4_1, rfl, HA, HK1, HO_4, HB⟩ := hrel
  cases gk with
  | zero => exact absurd HA.out (by simp [tree_Parse.l0])
  | succ k1 =>
   have H := HA.out; clear HA; simp only [tree_Parse.l0] at H; by_cases c2 : x0_1.toList = ([] : List UInt8)
   ·rw [if_pos c2] at H; have c2b0 := beq_iff_eq.mpr c2; have c2b1 := bne_eq_false_iff_eq.mpr c2; clear c2; replace H := Option.bind_eq_some_iff.mp H; obtain ⟨t101, A30, H⟩ := H; have A3 := Aside0.mk A30; clear A30; by_cases c4 : t101 = 0
    ·rw [if_pos c4] at H; have c4b0 := beq_iff_eq.mpr c4; have c4b1 := bne_eq_false_iff_eq.mpr c4; clear c4; simp only [Option.some.injEq, Prod.mk.injEq] at H; obtain ⟨rfl, rfl⟩ := H; obtain ⟨Ao5, co5, eo5⟩ := Kd.R_slice HO_4.out; subst eo5; go_wp2_with (first | ((with_reducible refine gate_callee (f := 150) rfl ?_); refine gl_ (some 48) Tryz.func150 #[.slice Ao5 x4_1.length co5] ?_; (with_reducible refine (tree_Check.calls k1 _ _ x4_1 t101 _ ?side1 ?side2 ?side3 A3.out).mono ?_); (case side1 => repeat (first | exact (Kd.R_reads' HO_4.out).2.2 | (with_reducible refine Kd.C_alloc ?_ _) | (with_reducible refine Kd.C_drewN ?_ _) | (with_reducible refine Kd.C_drew ?_))); (case side2 => exact (Kd.R_reads' HO_4.out).2.1); (case side3 => exact GV.below hgv (hb_ HB.out)); rintro e w6 ⟨rfl, hb⟩; refine ⟨_, rfl, ?_⟩; replace HO_4 := Aside0.mk (Kd.R_below (rk_ HO_4.out) hb); replace HB := ah_ HB hb; (try clear hb); (try clear hb2); (try clear hk); (try clear hi)))
     go_ret2
     exact ⟨_, z3_, rk_ HO_4.out, hb_ HB.out⟩
    rw [if_neg c4] at H; have c4b0 := beq_eq_false_iff_ne.mpr c4; have c4b1 := bne_iff_ne.mpr c4; simp only [Option.some.injEq, Prod.mk.injEq] at H; obtain ⟨rfl, rfl⟩ := H; obtain ⟨Ao7, co7, eo7⟩ := Kd.R_slice HO_4.out; subst eo7; go_wp2_with (first | ((with_reducible refine gate_callee (f := 150) rfl ?_); refine gl_ (some 48) Tryz.func150 #[.slice Ao7 x4_1.length co7] ?_; (with_reducible refine (tree_Check.calls k1 _ _ x4_1 t101 _ ?side1 ?side2 ?side3 A3.out).mono ?_); (case side1 => repeat (first | exact (Kd.R_reads' HO_4.out).2.2 | (with_reducible refine Kd.C_alloc ?_ _) | (with_reducible refine Kd.C_drewN ?_ _) | (with_reducible refine Kd.C_drew ?_))); (case side2 => exact (Kd.R_reads' HO_4.out).2.1); (case side3 => exact GV.below hgv (hb_ HB.out)); rintro e w8 ⟨rfl, hb⟩; refine ⟨_, rfl, ?_⟩; replace HO_4 := Aside0.mk (Kd.R_below (rk_ HO_4.out) hb); replace HB := ah_ HB hb; (try clear hb); (try clear hb2); (try clear hk); (try clear hi)))
    go_ret2
    exact ⟨_, z3_, z6_, hb_ HB.out⟩
   rw [if_neg c2] at H; have c2b0 := beq_eq_false_iff_ne.mpr c2; have c2b1 := bne_iff_ne.mpr c2; replace H := Option.bind_eq_some_iff.mp H; obtain ⟨⟨t102, t103, t104⟩, A90, H⟩ := H; dsimp only at H; have A9 := Aside0.mk A90; clear A90; by_cases c10 : t104 = 0; rotate_left
   ·rw [if_neg c10] at H; have c10b0 := beq_eq_false_iff_ne.mpr c10; have c10b1 := bne_iff_ne.mpr c10; simp only [Option.some.injEq, Prod.mk.injEq] at H; obtain ⟨rfl, rfl⟩ := H; go_wp2_with (first | ((with_reducible refine gate_callee (f := 148) rfl ?_); refine gl_ (some 16) Tryz.func148 #[.string x0_1] ?_; (with_reducible refine (tree_mode.calls k1 x0_1 t102 t103 t104 _ A9.out).mono ?_); rintro e w' ⟨rfl, ⟨nd, rfl⟩⟩; refine ⟨_, rfl, ?_⟩)); go_ret2
    exact ⟨_, z3_, z6_, hb_ HB.out⟩
   rw [if_pos c10] at H; have c10b0 := beq_iff_eq.mpr c10; have c10b1 := bne_eq_false_iff_eq.mpr c10; clear c10; replace H := Option.bind_eq_some_iff.mp H; obtain ⟨⟨t105, t106, t107⟩, A110, H⟩ := H; dsimp only at H; have A11 := Aside0.mk A110; clear A110; by_cases c12 : t107 = true; rotate_left
   ·replace c12 := Bool.eq_false_iff.mpr c12; subst c12; rw [if_neg nft_] at H; simp only [Option.some.injEq, Prod.mk.injEq] at H; obtain ⟨rfl, rfl⟩ := H; go_wp2_with (first | ((with_reducible refine gate_callee (f := 148) rfl ?_); refine gl_ (some 16) Tryz.func148 #[.string x0_1] ?_; (with_reducible refine (tree_mode.calls k1 x0_1 t102 t103 t104 _ A9.out).mono ?_); rintro e w' ⟨rfl, ⟨nd, rfl⟩⟩; refine ⟨_, rfl, ?_⟩) | ((with_reducible refine gate_callee (f := 82) rfl ?_); refine gl_ (some 25) Tryz.func82 #[.string t103, .string ⟨#[0]⟩] ?_; (with_reducible refine (strings_Cut.calls t103 ⟨#[0]⟩ t105 t106 false _ ?side1 A11.out).mono ?_); (case side1 => exact GV.below hgv (hb_ HB.out)); rintro e w' ⟨rfl, ⟨nd, rfl⟩⟩; refine ⟨_, rfl, ?_⟩)); go_ret2
    exact ⟨_, z3_, z6_, hb_ HB.out⟩
   subst c12; rw [if_pos rfl] at H; by_cases c13 : (t106.size : Int) < 20
   ·rw [if_pos c13] at H; have c13b0 := decide_eq_true c13; have c13b1 : decide (t106.size < 20) = true := decide_eq_true (by omega); clear c13; simp only [Option.some.injEq, Prod.mk.injEq] at H; obtain ⟨rfl, rfl⟩ := H; go_wp2_with (first | ((with_reducible refine gate_callee (f := 148) rfl ?_); refine gl_ (some 16) Tryz.func148 #[.string x0_1] ?_; (with_reducible refine (tree_mode.calls k1 x0_1 t102 t103 t104 _ A9.out).mono ?_); rintro e w' ⟨rfl, ⟨nd, rfl⟩⟩; refine ⟨_, rfl, ?_⟩) | ((with_reducible refine gate_callee (f := 82) rfl ?_); refine gl_ (some 25) Tryz.func82 #[.string t103, .string ⟨#[0]⟩] ?_; (with_reducible refine (strings_Cut.calls t103 ⟨#[0]⟩ t105 t106 true _ ?side1 A11.out).mono ?_); (case side1 => exact GV.below hgv (hb_ HB.out)); rintro e w' ⟨rfl, ⟨nd, rfl⟩⟩; refine ⟨_, rfl, ?_⟩)); go_ret2
    exact ⟨_, z3_, z6_, hb_ HB.out⟩
   rw [if_neg c13] at H; have c13b0 := decide_eq_false c13; have c13b1 : decide (t106.size < 20) = false := decide_eq_false (by omega); clear c13; by_cases c14 : 0 ≤ 20; rotate_left
   ·rw [if_neg c14] at H; exact absurd H (by simp)
   rw [if_pos c14] at H; have c14b0 := eq_true c14; have c14b1 := decide_eq_true c14; clear c14; by_cases c15 : 20 ≤ (t106.size : Int); rotate_left
   ·rw [if_neg c15] at H; exact absurd H (by simp)
   rw [if_pos c15] at H; have c15b0 := eq_true c15; have c15b1 := decide_eq_true c15; clear c15; replace H := Option.bind_eq_some_iff.mp H; obtain ⟨t108, A160, H⟩ := H; have A16 := Aside0.mk A160; clear A160; by_cases c17 : x4_1.length < 3518437208883; rotate_left
   ·rw [if_neg c17] at H; exact absurd H (by simp)
   rw [if_pos c17] at H; have LMc17 := Aside0.mk c17; clear c17; obtain ⟨y109, hy109⟩ : ∃ y_ : List (S108), y_ = (x4_1 ++ [(⟨t102, t105, t108⟩ : S108)]) := ⟨_, rfl⟩; replace H : (tree_Parse.l0 k1 (t106.extract 20 t106.size) y109) = some (r1, r2) := by first | (rw [hy109]; with_reducible exact H) | (have H2_ := (Option.bind_some _ _).symm.trans H; rw [hy109]; with_reducible exact H2_) | (have H2_ := (Option.bind_some _ _).symm.trans H; with_reducible exact H2_) | with_reducible exact H | (rw [hy109]; exact H) | exact H
   have Ny109 := Aside0.mk hy109; clear hy109; have c18b0 := eq_true (of_decide_eq_true z0_ : 20 ≤ (t106.size : Int)); have H' := Aside0.mk H; clear H; go_wp2_with (first | ((with_reducible refine gate_callee (f := 148) rfl ?_); refine gl_ (some 16) Tryz.func148 #[.string x0_1] ?_; (with_reducible refine (tree_mode.calls k1 x0_1 t102 t103 t104 _ A9.out).mono ?_); rintro e w' ⟨rfl, ⟨nd, rfl⟩⟩; refine ⟨_, rfl, ?_⟩) | ((with_reducible refine gate_callee (f := 82) rfl ?_); refine gl_ (some 25) Tryz.func82 #[.string t103, .string ⟨#[0]⟩] ?_; (with_reducible refine (strings_Cut.calls t103 ⟨#[0]⟩ t105 t106 true _ ?side1 A11.out).mono ?_); (case side1 => exact GV.below hgv (hb_ HB.out)); rintro e w' ⟨rfl, ⟨nd, rfl⟩⟩; refine ⟨_, rfl, ?_⟩) | ((with_reducible refine gate_callee (f := 149) rfl ?_); refine gl_ (some 41) Tryz.func149 #[.string (t106.extract 0 20)] ?_; (with_reducible refine (ident_Hex.calls k1 (t106.extract 0 20) t108 _ A16.out).mono ?_); rintro e w19 ⟨rfl, hb⟩; refine ⟨_, rfl, ?_⟩; replace HO_4 := Aside0.mk (Kd.R_below (rk_ HO_4.out) hb); replace HB := ah_ HB hb; (try clear hb); (try clear hb2); (try clear hk); (try clear hi)) | ((with_reducible refine gate_builtin (b := .append) (xs := #[.tmp 36, .tmp 43]) rfl ?_); (try (refine gate_guard (by rfl) ?_; dsimp only)); at_builtin; refine Kd.R_append k108 (w0 := w) w.heap.size rfl (.tmp 36) (.tmp 43) 104 108 (.agg #[(.int .i64 0), (.string ⟨#[]⟩), (.string ⟨#[]⟩)]) 40 rfl Tryz.underlying104 info108 rfl (by decide) (by omega) u4 x4_1 (⟨t102, t105, t108⟩ : S108) [.int .i64 t102, .string t105, .string t108] (fun _ => True) (fun _ => False) rfl rfl ?aP (fun _ hk => hk.elim) ?aF ?aO ?aB ?aS ?aL ?_; (case aP => exact k108_mkM _ _ _ (⟨t102, t105, t108⟩ : S108)); (case aB => exact (hb_ HB.out)); (case aF => exact (fun _ _ => trivial)); (case aO => exact (rk_ HO_4.out)); (case aS => exact (below_size (hb_ HB.out))); (case aL => have := LMc17.out; omega); intro v110 w20 ho hb hg hat; rw [← Ny109.out] at ho; have n0_ := Aside0.mk (hb); have n1_ := Aside0.mk (ho); clear HB; clear HO_4; have HB := n0_; have HO111 := n1_; clear n0_ n1_; clear ho hb hg hat)); go_roundg k1
   case measure => have := HK1.out; omega
   case rel => exact ⟨(t106.extract 20 t106.size), (y109), z1_, H', ⟨by have := HK1.out; omega⟩, ⟨by (with_reducible repeat (first | apply Kd.R_alloc | apply Kd.R_drewN | apply Kd.R_drew)); exact HO111.out⟩, ⟨hb_ HB.out⟩⟩


mutual
def commit_ParseTag.j0 : Nat → ByteArray → Int → ByteArray → Int → ByteArray → ByteArray → ByteArray → Int → Int → ByteArray → Option (ByteArray × Int × ByteArray × ByteArray × ByteArray × Int × Int × ByteArray × Int)
 | 0, _, _, _, _, _, _, _, _, _, _ => none
 | k + 1, x103000, x103001, x107000, x107001, x107002, x107003, x107004, x107005, x107006, x107007 => (commit_reader_line.f x103000 x103001 ⟨#[116, 97, 103, 32]⟩).bind fun bt113 => ((commit_reader_who.f k bt113.2.1 bt113.2.2 ⟨#[116, 97, 103, 103, 101, 114, 32]⟩).bind fun bt116 => ((commit_reader_line.f bt116.2.2.2.2.1 bt116.2.2.2.2.2 ⟨#[]⟩).bind fun bt122 => (if bt122.1.toList = ([] : List UInt8) then (commit_ParseTag.j1 k bt122.2.1 bt122.2.2 x107000 x107001 bt113.1 bt116.1 bt116.2.1 bt116.2.2.1 bt116.2.2.2.1 x107007) else ((commit_reader_fail.f bt122.2.1 bt122.2.2 2).bind fun bt125 => (commit_ParseTag.j1 k bt125.1 bt125.2 x107000 x107001 bt113.1 bt116.1 bt116.2.1 bt116.2.2.1 bt116.2.2.2.1 x107007)))))
def commit_ParseTag.j1 : Nat → ByteArray → Int → ByteArray → Int → ByteArray → ByteArray → ByteArray → Int → Int → ByteArray → Option (ByteArray × Int × ByteArray × ByteArray × ByteArray × Int × Int × ByteArray × Int)
 | 0, _, _, _, _, _, _, _, _, _, _ => none
 | k + 1, x103000, x103001, x107000, x107001, x107002, x107003, x107004, x107005, x107006, x107007 => if x103001 = 0 then ((commit_CheckTag.f k x107000 x107001 x107002 x107003 x107004 x107005 x107006 x103000).bind fun t127 => (if t127 = 0 then (some (x107000, x107001, x107002, x107003, x107004, x107005, x107006, x103000, 0)) else (some ((⟨#[]⟩ : ByteArray), 0, (⟨#[]⟩ : ByteArray), (⟨#[]⟩ : ByteArray), (⟨#[]⟩ : ByteArray), 0, 0, (⟨#[]⟩ : ByteArray), t127)))) else (some ((⟨#[]⟩ : ByteArray), 0, (⟨#[]⟩ : ByteArray), (⟨#[]⟩ : ByteArray), (⟨#[]⟩ : ByteArray), 0, 0, (⟨#[]⟩ : ByteArray), x103001))
end
def commit_ParseTag.f (k : Nat) (a0 : ByteArray) : Option (ByteArray × Int × ByteArray × ByteArray × ByteArray × Int × Int × ByteArray × Int) := (commit_reader_id.f k a0 0 ⟨#[111, 98, 106, 101, 99, 116, 32]⟩).bind fun bt103 => ((commit_reader_line.f bt103.2.1 bt103.2.2 ⟨#[116, 121, 112, 101, 32]⟩).bind fun bt107 => ((object_Kind.f bt107.1).bind fun t110 => (if t110 = 0 then ((commit_reader_fail.f bt107.2.1 bt107.2.2 2).bind fun bt111 => (commit_ParseTag.j0 k bt111.1 bt111.2 bt103.1 t110 ⟨#[]⟩ ⟨#[]⟩ ⟨#[]⟩ 0 0 ⟨#[]⟩)) else (commit_ParseTag.j0 k bt107.2.1 bt107.2.2 bt103.1 t110 ⟨#[]⟩ ⟨#[]⟩ ⟨#[]⟩ 0 0 ⟨#[]⟩))))
theorem commit_ParseTag.mono_l : ∀ k, (∀ y0 y1 y2 y3 y4 y5 y6 y7 y8 y9, LeO (commit_ParseTag.j0 k y0 y1 y2 y3 y4 y5 y6 y7 y8 y9) (commit_ParseTag.j0 (k + 1) y0 y1 y2 y3 y4 y5 y6 y7 y8 y9)) ∧ (∀ y0 y1 y2 y3 y4 y5 y6 y7 y8 y9, LeO (commit_ParseTag.j1 k y0 y1 y2 y3 y4 y5 y6 y7 y8 y9) (commit_ParseTag.j1 (k + 1) y0 y1 y2 y3 y4 y5 y6 y7 y8 y9))
 | 0 => ⟨fun _ _ _ _ _ _ _ _ _ _ r h => by simp [commit_ParseTag.j0] at h, fun _ _ _ _ _ _ _ _ _ _ r h => by simp [commit_ParseTag.j1] at h⟩
 | k + 1 => by
  obtain ⟨ih0, ih1⟩ := commit_ParseTag.mono_l k
  refine ⟨?_, ?_⟩
  ·intro y0 y1 y2 y3 y4 y5 y6 y7 y8 y9
   unfold commit_ParseTag.j0
   have m0_ := @ih0
   have m1_ := @ih1
   have m2_ := @commit_CheckTag.mono
   have m3_ := @commit_reader_id.mono
   have m4_ := @commit_reader_who.mono
   exact mz_
  ·intro y0 y1 y2 y3 y4 y5 y6 y7 y8 y9
   unfold commit_ParseTag.j1
   have m0_ := @ih0
   have m1_ := @ih1
   have m2_ := @commit_CheckTag.mono
   have m3_ := @commit_reader_id.mono
   have m4_ := @commit_reader_who.mono
   exact mz_
theorem commit_ParseTag.mono : ∀ a0 k, LeO (commit_ParseTag.f k a0) (commit_ParseTag.f (k + 1) a0) := by
 intro a0 k; obtain ⟨ih0, ih1⟩ := commit_ParseTag.mono_l k; unfold commit_ParseTag.f; have m0_ := @ih0; have m1_ := @ih1; have m2_ := @commit_CheckTag.mono; have m3_ := @commit_reader_id.mono; have m4_ := @commit_reader_who.mono; exact mz_
set_option maxHeartbeats 8000000 in
set_option maxRecDepth 100000 in
theorem commit_ParseTag.calls (k : Nat) (a0 : ByteArray) (r1 : ByteArray) (r2 : Int) (r3 : ByteArray) (r4 : ByteArray) (r5 : ByteArray) (r6 : Int) (r7 : Int) (r8 : ByteArray) (r9 : Int) (w : World) (hgv : GV w) (h : commit_ParseTag.f k a0 = some (r1, r2, r3, r4, r5, r6, r7, r8, r9)) :
  Calls Tryz.prog 23 #[.string a0] w fun e w' => e = .returned (.tuple #[.agg #[.string r1, .int .i64 r2, .string r3, .string r4, .string r5, .int .i64 r6, .int .i64 r7, .string r8], .int .i64 r9]) ∧ Below w.heap.size w w' := by
 have hu37 := Tryz.underlying37; have hu87 := Tryz.underlying87; have hu24 := Tryz.underlying24; have HB := Aside0.mk (Below.refl w.heap.size w); unfold commit_ParseTag.f at h; have H := h; clear h; replace H := Option.bind_eq_some_iff.mp H; obtain ⟨⟨t103, t104, t105⟩, A20, H⟩ := H; dsimp only at H; have A2 := Aside0.mk A20; clear A20; replace H := Option.bind_eq_some_iff.mp H; obtain ⟨⟨t107, t108, t109⟩, A30, H⟩ := H; dsimp only at H; have A3 := Aside0.mk A30; clear A30; replace H := Option.bind_eq_some_iff.mp H; obtain ⟨t110, A40, H⟩ := H; have A4 := Aside0.mk A40; clear A40; have HC5 := Aside0.mk H; clear H; go_enter Tryz.func23, Tryz.ntmps23; go_upto_if 18 with (first | ((with_reducible refine gate_dst (N := 2) rfl ?_); refine be_ (cs := #[.string ⟨#[]⟩, .int .i64 0, .string ⟨#[]⟩, .string ⟨#[]⟩, .string ⟨#[]⟩, .int .i64 0, .int .i64 0, .string ⟨#[]⟩]) (t := 37) ?_; intro gb101 hg w6 hbox hb; have BK101 := Aside0.mk (hbox); have GW101 := ag_ hg HB; have GE101 := ag_ hg HB; replace HB := ah_ HB hb; clear hb hbox hg) | ((with_reducible refine gate_dst (N := 8) rfl ?_); refine be_ (cs := #[.string a0, .int .i64 0]) (t := 87) ?_; intro gb102 hg w7 hbox hb; have BK102 := Aside0.mk (hbox); have GW102 := Aside0.mk ((by rw [hg]; exact (below_size (hs_)) : w.heap.size ≤ gb102)); have GE102 := Aside0.mk ((by rw [hg]; exact (below_size (hs_)) : w.heap.size ≤ gb102)); replace HB := Aside0.mk (below_step (hs_) hb); have NB101_102 := Aside0.mk (nl2_ hg BK101.out); have NB102_101 := Aside0.mk (ng2_ hg BK101.out); replace BK101 := ab_ BK101 hb; clear hb hbox hg) | ((with_reducible refine gate_callee (f := 70) rfl ?_); refine gl_ (some 10) Tryz.func70 #[.pointer (some ⟨gb102, 0, none⟩), .string ⟨#[111, 98, 106, 101, 99, 116, 32]⟩] ?_; (with_reducible refine (commit_reader_id.calls k gb102 a0 0 ⟨#[111, 98, 106, 101, 99, 116, 32]⟩ t103 t104 t105 w _ ?side1 ?side2 ?side3 A2.out).mono ?_); (case side1 => exact (show IsS87 w _ gb102 a0 0 from ⟨(bk_ BK102.out), GE102.out⟩)); (case side2 => repeat (first | (with_reducible first | exact HB.out | apply below_alloc | apply pw_below_drewN | apply below_drew1 | refine below_set ?_ (IsS87.ge HI102.out) | refine below_set ?_ GE101.out) | exact HB.out)); (case side3 => exact hgv); rintro e w8 ⟨rfl, hi, hb, hk⟩; refine ⟨_, rfl, ?_⟩; replace BK101 := Aside0.mk (KeepBut.blk hk (g' := gb101) (o := .cells #[.string ⟨#[]⟩, .int .i64 0, .string ⟨#[]⟩, .string ⟨#[]⟩, .string ⟨#[]⟩, .int .i64 0, .int .i64 0, .string ⟨#[]⟩] 37 (0, 0)) (bk_ BK101.out) NB101_102.out (by simp)); replace HB := Aside0.mk (hb); replace BK102 := Aside0.mk (hi.1); (try clear hb); (try clear hb2); (try clear hk); (try clear hi)) | ((with_reducible refine gate_dst (N := 5) rfl ?_); refine be_ (cs := #[.string ⟨#[]⟩, .int .i64 0, .string ⟨#[]⟩, .string ⟨#[]⟩, .string ⟨#[]⟩, .int .i64 0, .int .i64 0, .string ⟨#[]⟩]) (t := 37) ?_; intro gb106 hg w9 hbox hb; have BK106 := Aside0.mk (hbox); have GW106 := Aside0.mk ((by rw [hg]; exact (below_size (hs_)) : w.heap.size ≤ gb106)); have GE106 := Aside0.mk ((by rw [hg]; exact (below_size (hs_)) : w.heap.size ≤ gb106)); replace HB := Aside0.mk (below_step (hs_) hb); have NB101_106 := Aside0.mk (nl2_ hg BK101.out); have NB106_101 := Aside0.mk (ng2_ hg BK101.out); replace BK101 := ab_ BK101 hb; have NB102_106 := Aside0.mk (nl2_ hg BK102.out); have NB106_102 := Aside0.mk (ng2_ hg BK102.out); replace BK102 := ab_ BK102 hb; clear hb hbox hg; have hnb10 := NB106_101.out; have hnc10 := NB101_106.out; have hnb11 := NB106_102.out; have hnc11 := NB102_106.out; obtain ⟨Z12_0, Z12_1, Z12_2, Z12_3, Z12_4, Z12_5, Z12_6, Z12_7, F12_0, F12_1, F12_2, F12_3, F12_4, F12_5, F12_6, F12_7⟩ := bc8 BK106.out) | ((with_reducible refine gate_callee (f := 73) rfl ?_); refine gl_ (some 13) Tryz.func73 #[.pointer (some ⟨gb102, 0, none⟩), .string ⟨#[116, 121, 112, 101, 32]⟩] ?_; (with_reducible refine (commit_reader_line.calls gb102 t104 t105 ⟨#[116, 121, 112, 101, 32]⟩ t107 t108 t109 w _ ?side1 ?side2 ?side3 A3.out).mono ?_); (case side1 => exact (show IsS87 w _ gb102 t104 t105 from ⟨(by have b_ := BK102; have f_ := NB102_106; exact zb_), GE102.out⟩)); (case side2 => repeat (first | (with_reducible first | exact HB.out | apply below_alloc | apply pw_below_drewN | apply below_drew1 | refine below_set ?_ (IsS87.ge HI102.out) | refine below_set ?_ GE101.out | refine below_set ?_ GE106.out) | exact HB.out)); (case side3 => exact hgv); rintro e w13 ⟨rfl, hi, hb, hk⟩; refine ⟨_, rfl, ?_⟩; replace BK101 := Aside0.mk (KeepBut.blk hk (g' := gb101) (o := .cells #[.string ⟨#[]⟩, .int .i64 0, .string ⟨#[]⟩, .string ⟨#[]⟩, .string ⟨#[]⟩, .int .i64 0, .int .i64 0, .string ⟨#[]⟩] 37 (0, 0)) (by have b_ := BK101; have f_ := NB101_106; exact zb_) NB101_102.out (by simp)); replace BK106 := Aside0.mk (KeepBut.blk hk (g' := gb106) (o := .cells #[.string t103, .int .i64 0, .string ⟨#[]⟩, .string ⟨#[]⟩, .string ⟨#[]⟩, .int .i64 0, .int .i64 0, .string ⟨#[]⟩] 37 (0, 0)) (by have b_ := BK106; exact zb_) NB106_102.out (by simp)); replace HB := Aside0.mk (hb); replace BK102 := Aside0.mk (hi.1); (try clear hb); (try clear hb2); (try clear hk); (try clear hi)) | ((with_reducible refine gate_callee (f := 77) rfl ?_); refine gl_ (some 14) Tryz.func77 #[.string t107] ?_; (with_reducible refine (object_Kind.calls t107 t110 _ A4.out).mono ?_); rintro e w14 ⟨rfl, hb⟩; refine ⟨_, rfl, ?_⟩; replace BK101 := ab_ BK101 hb; replace BK102 := ab_ BK102 hb; replace BK106 := ab_ BK106 hb; replace HB := Aside0.mk (below_step (hs_) hb); (try clear hb); (try clear hb2); (try clear hk); (try clear hi); obtain ⟨Z15_0, Z15_1, Z15_2, Z15_3, Z15_4, Z15_5, Z15_6, Z15_7, F15_0, F15_1, F15_2, F15_3, F15_4, F15_5, F15_6, F15_7⟩ := bc8 BK106.out))
 (try simp only [Act.put, List.setIfInBounds_toArray, List.set_cons_zero, List.set_cons_succ])
 go_cut [] (fun wc => ∃ (kq : Nat) (x103000_4 : ByteArray) (x103001_4 : Int), Aside0 (commit_ParseTag.j0 kq x103000_4 x103001_4 t103 t110 ⟨#[]⟩ ⟨#[]⟩ ⟨#[]⟩ 0 0 ⟨#[]⟩ = some (r1, r2, r3, r4, r5, r6, r7, r8, r9)) ∧ Aside0 (kq ≤ k) ∧ Aside0 (wc.heap[gb101]? = some (.cells #[.string ⟨#[]⟩, .int .i64 0, .string ⟨#[]⟩, .string ⟨#[]⟩, .string ⟨#[]⟩, .int .i64 0, .int .i64 0, .string ⟨#[]⟩] 37 (0, 0))) ∧ Aside0 (wc.heap[gb102]? = some (.cells #[.string x103000_4, .int .i64 x103001_4] 87 (0, 0))) ∧ Aside0 (wc.heap[gb106]? = some (.cells #[.string t103, .int .i64 t110, .string ⟨#[]⟩, .string ⟨#[]⟩, .string ⟨#[]⟩, .int .i64 0, .int .i64 0, .string ⟨#[]⟩] 37 (0, 0))) ∧ Aside0 (Below w.heap.size w wc))
 case first =>
  have H := HC5.out; clear HC5; by_cases c16 : t110 = 0; rotate_left
  ·rw [if_neg c16] at H; have c16b0 := beq_eq_false_iff_ne.mpr c16; have c16b1 := bne_iff_ne.mpr c16; (first | rw [c16b0] | (simp only [i64_w, i32_w]; rw [c16b0]) | skip); (try rw [c16b8])
   have H' := Aside0.mk H; clear H; go_wp2
   go_meet
   case rel => exact ⟨_, (t108), (t109), H', ⟨z4_⟩, ⟨by have b_ := BK101; have f_ := NB101_106; exact zb_⟩, ⟨by have b_ := BK102; have f_ := NB102_106; exact zb_⟩, ⟨by have b_ := BK106; exact zb_⟩, ⟨hs_⟩⟩
  rw [if_pos c16] at H; have c16b0 := beq_iff_eq.mpr c16; have c16b1 := bne_eq_false_iff_eq.mpr c16; clear c16; (first | rw [c16b0] | (simp only [i64_w, i32_w]; rw [c16b0]) | skip); (try rw [c16b8])
  replace H := Option.bind_eq_some_iff.mp H; obtain ⟨⟨t111, t112⟩, A170, H⟩ := H; dsimp only at H; have A17 := Aside0.mk A170; clear A170; have H' := Aside0.mk H; clear H; go_wp2_with (first | ((with_reducible refine gate_callee (f := 74) rfl ?_); refine gl_ (some 20) Tryz.func74 #[.pointer (some ⟨gb102, 0, none⟩), .int .i64 2] ?_; (with_reducible refine (commit_reader_fail.calls gb102 t108 t109 2 t111 t112 w _ ?side1 ?side2 A17.out).mono ?_); (case side1 => exact (show IsS87 w _ gb102 t108 t109 from ⟨(by have b_ := BK102; have f_ := NB102_106; exact zb_), GE102.out⟩)); (case side2 => repeat (first | (with_reducible first | exact HB.out | apply below_alloc | apply pw_below_drewN | apply below_drew1 | refine below_set ?_ (IsS87.ge HI102.out) | refine below_set ?_ GE101.out | refine below_set ?_ GE106.out) | exact HB.out)); rintro e w18 ⟨rfl, hi, hb, hk⟩; refine ⟨_, rfl, ?_⟩; replace BK101 := Aside0.mk (KeepBut.blk hk (g' := gb101) (o := .cells #[.string ⟨#[]⟩, .int .i64 0, .string ⟨#[]⟩, .string ⟨#[]⟩, .string ⟨#[]⟩, .int .i64 0, .int .i64 0, .string ⟨#[]⟩] 37 (0, 0)) (by have b_ := BK101; have f_ := NB101_106; exact zb_) NB101_102.out (by simp)); replace BK106 := Aside0.mk (KeepBut.blk hk (g' := gb106) (o := .cells #[.string t103, .int .i64 t110, .string ⟨#[]⟩, .string ⟨#[]⟩, .string ⟨#[]⟩, .int .i64 0, .int .i64 0, .string ⟨#[]⟩] 37 (0, 0)) (by have b_ := BK106; exact zb_) NB106_102.out (by simp)); replace HB := Aside0.mk (hb); replace BK102 := Aside0.mk (hi.1); (try clear hb); (try clear hb2); (try clear hk); (try clear hi)))
  go_meet
  case rel => exact ⟨_, (t111), (t112), H', ⟨z4_⟩, ⟨bk_ BK101.out⟩, ⟨bk_ BK102.out⟩, ⟨bk_ BK106.out⟩, ⟨hs_⟩⟩
 case rest =>
  clear HC5; try clear c1
  try clear c2
  try clear p2
  try clear c7
  try clear c10
  try clear c11
  try clear c16
  try clear c16b0
  try clear c16b1
  try clear Z12_0 Z12_1 Z12_2 Z12_3 Z12_4 Z12_5 Z12_6 Z12_7
  try clear Z15_0 Z15_1 Z15_2 Z15_3 Z15_4 Z15_5 Z15_6 Z15_7
  try clear F12_0 F12_1 F12_2 F12_3 F12_4 F12_5 F12_6 F12_7
  try clear F15_0 F15_1 F15_2 F15_3 F15_4 F15_5 F15_6 F15_7
  obtain ⟨kq, x103000_4, x103001_4, HA, HJ4, BK101, BK102, BK106, HB⟩ := hcut
  cases kq with
  | zero => exact absurd HA.out (by simp [commit_ParseTag.j0])
  | succ kj4 =>
   have H := HA.out; clear HA; simp only [commit_ParseTag.j0] at H; replace H := Option.bind_eq_some_iff.mp H; obtain ⟨⟨t113, t114, t115⟩, A190, H⟩ := H; dsimp only at H; have A19 := Aside0.mk A190; clear A190; replace H := Option.bind_eq_some_iff.mp H; obtain ⟨⟨t116, t117, t118, t119, t120, t121⟩, A200, H⟩ := H; dsimp only at H; have A20 := Aside0.mk A200; clear A200; replace H := Option.bind_eq_some_iff.mp H; obtain ⟨⟨t122, t123, t124⟩, A210, H⟩ := H; dsimp only at H; have A21 := Aside0.mk A210; clear A210; have HC22 := Aside0.mk H; clear H; go_upto_if 29 with (first | ((with_reducible refine gate_callee (f := 73) rfl ?_); refine gl_ (some 22) Tryz.func73 #[.pointer (some ⟨gb102, 0, none⟩), .string ⟨#[116, 97, 103, 32]⟩] ?_; (with_reducible refine (commit_reader_line.calls gb102 x103000_4 x103001_4 ⟨#[116, 97, 103, 32]⟩ t113 t114 t115 w _ ?side1 ?side2 ?side3 A19.out).mono ?_); (case side1 => exact (show IsS87 w _ gb102 x103000_4 x103001_4 from ⟨(bk_ BK102.out), GE102.out⟩)); (case side2 => repeat (first | (with_reducible first | exact HB.out | apply below_alloc | apply pw_below_drewN | apply below_drew1 | refine below_set ?_ (IsS87.ge HI102.out) | refine below_set ?_ GE101.out | refine below_set ?_ GE106.out) | exact HB.out)); (case side3 => exact hgv); rintro e w23 ⟨rfl, hi, hb, hk⟩; refine ⟨_, rfl, ?_⟩; replace BK101 := Aside0.mk (KeepBut.blk hk (g' := gb101) (o := .cells #[.string ⟨#[]⟩, .int .i64 0, .string ⟨#[]⟩, .string ⟨#[]⟩, .string ⟨#[]⟩, .int .i64 0, .int .i64 0, .string ⟨#[]⟩] 37 (0, 0)) (bk_ BK101.out) NB101_102.out (by simp)); replace BK106 := Aside0.mk (KeepBut.blk hk (g' := gb106) (o := .cells #[.string t103, .int .i64 t110, .string ⟨#[]⟩, .string ⟨#[]⟩, .string ⟨#[]⟩, .int .i64 0, .int .i64 0, .string ⟨#[]⟩] 37 (0, 0)) (bk_ BK106.out) NB106_102.out (by simp)); replace HB := Aside0.mk (hb); replace BK102 := Aside0.mk (hi.1); (try clear hb); (try clear hb2); (try clear hk); (try clear hi); have hnb24 := NB106_101.out; have hnc24 := NB101_106.out; have hnb25 := NB106_102.out; have hnc25 := NB102_106.out; obtain ⟨Z26_0, Z26_1, Z26_2, Z26_3, Z26_4, Z26_5, Z26_6, Z26_7, F26_0, F26_1, F26_2, F26_3, F26_4, F26_5, F26_6, F26_7⟩ := bc8 BK106.out) | ((with_reducible refine gate_callee (f := 72) rfl ?_); refine gl_ (some 25) Tryz.func72 #[.pointer (some ⟨gb102, 0, none⟩), .string ⟨#[116, 97, 103, 103, 101, 114, 32]⟩] ?_; (with_reducible refine (commit_reader_who.calls kj4 gb102 t114 t115 ⟨#[116, 97, 103, 103, 101, 114, 32]⟩ t116 t117 t118 t119 t120 t121 w _ ?side1 ?side2 ?side3 A20.out).mono ?_); (case side1 => exact (show IsS87 w _ gb102 t114 t115 from ⟨(by have b_ := BK102; have f_ := NB102_106; exact zb_), GE102.out⟩)); (case side2 => repeat (first | (with_reducible first | exact HB.out | apply below_alloc | apply pw_below_drewN | apply below_drew1 | refine below_set ?_ (IsS87.ge HI102.out) | refine below_set ?_ GE101.out | refine below_set ?_ GE106.out) | exact HB.out)); (case side3 => exact hgv); rintro e w27 ⟨rfl, hi, hb, hk⟩; refine ⟨_, rfl, ?_⟩; replace BK101 := Aside0.mk (KeepBut.blk hk (g' := gb101) (o := .cells #[.string ⟨#[]⟩, .int .i64 0, .string ⟨#[]⟩, .string ⟨#[]⟩, .string ⟨#[]⟩, .int .i64 0, .int .i64 0, .string ⟨#[]⟩] 37 (0, 0)) (by have b_ := BK101; have f_ := NB101_106; exact zb_) NB101_102.out (by simp)); replace BK106 := Aside0.mk (KeepBut.blk hk (g' := gb106) (o := .cells #[.string t103, .int .i64 t110, .string t113, .string ⟨#[]⟩, .string ⟨#[]⟩, .int .i64 0, .int .i64 0, .string ⟨#[]⟩] 37 (0, 0)) (by have b_ := BK106; exact zb_) NB106_102.out (by simp)); replace HB := Aside0.mk (hb); replace BK102 := Aside0.mk (hi.1); (try clear hb); (try clear hb2); (try clear hk); (try clear hi); obtain ⟨Z28_0, Z28_1, Z28_2, Z28_3, Z28_4, Z28_5, Z28_6, Z28_7, F28_0, F28_1, F28_2, F28_3, F28_4, F28_5, F28_6, F28_7⟩ := bc8 BK106.out) | ((with_reducible refine gate_callee (f := 73) rfl ?_); refine gl_ (some 28) Tryz.func73 #[.pointer (some ⟨gb102, 0, none⟩), .string ⟨#[]⟩] ?_; (with_reducible refine (commit_reader_line.calls gb102 t120 t121 ⟨#[]⟩ t122 t123 t124 w _ ?side1 ?side2 ?side3 A21.out).mono ?_); (case side1 => exact (show IsS87 w _ gb102 t120 t121 from ⟨(by have b_ := BK102; have f_ := NB102_106; exact zb_), GE102.out⟩)); (case side2 => repeat (first | (with_reducible first | exact HB.out | apply below_alloc | apply pw_below_drewN | apply below_drew1 | refine below_set ?_ (IsS87.ge HI102.out) | refine below_set ?_ GE101.out | refine below_set ?_ GE106.out) | exact HB.out)); (case side3 => exact hgv); rintro e w29 ⟨rfl, hi, hb, hk⟩; refine ⟨_, rfl, ?_⟩; replace BK101 := Aside0.mk (KeepBut.blk hk (g' := gb101) (o := .cells #[.string ⟨#[]⟩, .int .i64 0, .string ⟨#[]⟩, .string ⟨#[]⟩, .string ⟨#[]⟩, .int .i64 0, .int .i64 0, .string ⟨#[]⟩] 37 (0, 0)) (by have b_ := BK101; have f_ := NB101_106; exact zb_) NB101_102.out (by simp)); replace BK106 := Aside0.mk (KeepBut.blk hk (g' := gb106) (o := .cells #[.string t103, .int .i64 t110, .string t113, .string t116, .string t117, .int .i64 t118, .int .i64 t119, .string ⟨#[]⟩] 37 (0, 0)) (by have b_ := BK106; exact zb_) NB106_102.out (by simp)); replace HB := Aside0.mk (hb); replace BK102 := Aside0.mk (hi.1); (try clear hb); (try clear hb2); (try clear hk); (try clear hi)))
   (try simp only [Act.put, List.setIfInBounds_toArray, List.set_cons_zero, List.set_cons_succ])
   go_cut [] (fun wc => ∃ (kq : Nat) (x103000_21 : ByteArray) (x103001_21 : Int), Aside0 (commit_ParseTag.j1 kq x103000_21 x103001_21 t103 t110 t113 t116 t117 t118 t119 ⟨#[]⟩ = some (r1, r2, r3, r4, r5, r6, r7, r8, r9)) ∧ Aside0 (kq ≤ kj4) ∧ Aside0 (wc.heap[gb101]? = some (.cells #[.string ⟨#[]⟩, .int .i64 0, .string ⟨#[]⟩, .string ⟨#[]⟩, .string ⟨#[]⟩, .int .i64 0, .int .i64 0, .string ⟨#[]⟩] 37 (0, 0))) ∧ Aside0 (wc.heap[gb102]? = some (.cells #[.string x103000_21, .int .i64 x103001_21] 87 (0, 0))) ∧ Aside0 (wc.heap[gb106]? = some (.cells #[.string t103, .int .i64 t110, .string t113, .string t116, .string t117, .int .i64 t118, .int .i64 t119, .string ⟨#[]⟩] 37 (0, 0))) ∧ Aside0 (Below w.heap.size w wc))
   case first =>
    have H := HC22.out; clear HC22; by_cases c30 : t122.toList = ([] : List UInt8)
    ·rw [if_pos c30] at H; have c30b0 := beq_iff_eq.mpr c30; have c30b1 := bne_eq_false_iff_eq.mpr c30; (try (have c30b8 : (!t122.toList.isEmpty) = false := (by have h_ := c30b1; rw [ne_nil_bool] at h_; exact h_))); (try (have c30b9 : t122.toList.isEmpty = true := (by have h_ := c30b1; rw [ne_nil_bool] at h_; simpa using h_)))
     clear c30; (first | rw [c30b0] | (simp only [i64_w, i32_w]; rw [c30b0]) | skip); (try rw [c30b8])
     have H' := Aside0.mk H; clear H; go_wp2
     go_meet
     case rel => exact ⟨_, (t123), (t124), H', ⟨by have := HJ4.out; first | omega | exact Nat.le_refl _⟩, ⟨bk_ BK101.out⟩, ⟨bk_ BK102.out⟩, ⟨bk_ BK106.out⟩, ⟨hs_⟩⟩
    rw [if_neg c30] at H; have c30b0 := beq_eq_false_iff_ne.mpr c30; have c30b1 := bne_iff_ne.mpr c30; (try (have c30b8 : (!t122.toList.isEmpty) = true := (by have h_ := c30b1; rw [ne_nil_bool] at h_; exact h_))); (try (have c30b9 : t122.toList.isEmpty = false := (by have h_ := c30b1; rw [ne_nil_bool] at h_; simpa using h_)))
    (first | rw [c30b0] | (simp only [i64_w, i32_w]; rw [c30b0]) | skip)
    (try rw [c30b8])
    replace H := Option.bind_eq_some_iff.mp H; obtain ⟨⟨t125, t126⟩, A310, H⟩ := H; dsimp only at H; have A31 := Aside0.mk A310; clear A310; have H' := Aside0.mk H; clear H; go_wp2_with (first | ((with_reducible refine gate_callee (f := 74) rfl ?_); refine gl_ (some 31) Tryz.func74 #[.pointer (some ⟨gb102, 0, none⟩), .int .i64 2] ?_; (with_reducible refine (commit_reader_fail.calls gb102 t123 t124 2 t125 t126 w _ ?side1 ?side2 A31.out).mono ?_); (case side1 => exact (show IsS87 w _ gb102 t123 t124 from ⟨(bk_ BK102.out), GE102.out⟩)); (case side2 => repeat (first | (with_reducible first | exact HB.out | apply below_alloc | apply pw_below_drewN | apply below_drew1 | refine below_set ?_ (IsS87.ge HI102.out) | refine below_set ?_ GE101.out | refine below_set ?_ GE106.out) | exact HB.out)); rintro e w32 ⟨rfl, hi, hb, hk⟩; refine ⟨_, rfl, ?_⟩; replace BK101 := Aside0.mk (KeepBut.blk hk (g' := gb101) (o := .cells #[.string ⟨#[]⟩, .int .i64 0, .string ⟨#[]⟩, .string ⟨#[]⟩, .string ⟨#[]⟩, .int .i64 0, .int .i64 0, .string ⟨#[]⟩] 37 (0, 0)) (bk_ BK101.out) NB101_102.out (by simp)); replace BK106 := Aside0.mk (KeepBut.blk hk (g' := gb106) (o := .cells #[.string t103, .int .i64 t110, .string t113, .string t116, .string t117, .int .i64 t118, .int .i64 t119, .string ⟨#[]⟩] 37 (0, 0)) (bk_ BK106.out) NB106_102.out (by simp)); replace HB := Aside0.mk (hb); replace BK102 := Aside0.mk (hi.1); (try clear hb); (try clear hb2); (try clear hk); (try clear hi)))
    go_meet
    case rel => exact ⟨_, (t125), (t126), H', ⟨by have := HJ4.out; first | omega | exact Nat.le_refl _⟩, ⟨bk_ BK101.out⟩, ⟨bk_ BK102.out⟩, ⟨bk_ BK106.out⟩, ⟨hs_⟩⟩
   case rest =>
    clear HC22; try clear c1
    try clear c2
    try clear p2
    try clear c3
    try clear c7
    try clear c10
    try clear c11
    try clear c16
    try clear c16b0
    try clear c16b1
    try clear c23
    try clear c24
    try clear c25
    try clear c30
    try clear c30b0
    try clear c30b1
    try clear Z12_0 Z12_1 Z12_2 Z12_3 Z12_4 Z12_5 Z12_6 Z12_7
    try clear Z15_0 Z15_1 Z15_2 Z15_3 Z15_4 Z15_5 Z15_6 Z15_7
    try clear Z26_0 Z26_1 Z26_2 Z26_3 Z26_4 Z26_5 Z26_6 Z26_7
    try clear Z28_0 Z28_1 Z28_2 Z28_3 Z28_4 Z28_5 Z28_6 Z28_7
    try clear F12_0 F12_1 F12_2 F12_3 F12_4 F12_5 F12_6 F12_7
    try clear F15_0 F15_1 F15_2 F15_3 F15_4 F15_5 F15_6 F15_7
    try clear F26_0 F26_1 F26_2 F26_3 F26_4 F26_5 F26_6 F26_7
    try clear F28_0 F28_1 F28_2 F28_3 F28_4 F28_5 F28_6 F28_7
    try clear p2
    obtain ⟨kq, x103000_21, x103001_21, HA, HJ21, BK101, BK102, BK106, HB⟩ := hcut
    cases kq with
    | zero => exact absurd HA.out (by simp [commit_ParseTag.j1])
    | succ kj21 =>
     have H := HA.out; clear HA; simp only [commit_ParseTag.j1] at H; by_cases c33 : x103001_21 = 0; rotate_left
     ·rw [if_neg c33] at H; have c33b0 := beq_eq_false_iff_ne.mpr c33; have c33b1 := bne_iff_ne.mpr c33; simp only [Option.some.injEq, Prod.mk.injEq] at H; obtain ⟨rfl, rfl, rfl, rfl, rfl, rfl, rfl, rfl, rfl⟩ := H; have hnb62 := NB102_101.out; have hnc62 := NB101_102.out; have hnb63 := NB102_106.out; have hnc63 := NB106_102.out; obtain ⟨Z64_0, Z64_1, F64_0, F64_1⟩ := bc2 BK102.out; have hnb65 := NB106_101.out; have hnc65 := NB101_106.out; obtain ⟨Z66_0, Z66_1, Z66_2, Z66_3, Z66_4, Z66_5, Z66_6, Z66_7, F66_0, F66_1, F66_2, F66_3, F66_4, F66_5, F66_6, F66_7⟩ := bc8 BK106.out; try go_wp2
      have n0_ : Aside0 ((wc.setCell ⟨gb106, 7, none⟩ (.string x103000_21)).heap[gb101]? = some (.cells #[.string ⟨#[]⟩, .int .i64 0, .string ⟨#[]⟩, .string ⟨#[]⟩, .string ⟨#[]⟩, .int .i64 0, .int .i64 0, .string ⟨#[]⟩] 37 (0, 0))) := ⟨by have b_ := BK101; have f_ := NB101_106; exact zb_⟩; have n1_ : Aside0 ((wc.setCell ⟨gb106, 7, none⟩ (.string x103000_21)).heap[gb102]? = some (.cells #[.string x103000_21, .int .i64 x103001_21] 87 (0, 0))) := ⟨by have b_ := BK102; have f_ := NB102_106; exact zb_⟩; have n2_ : Aside0 ((wc.setCell ⟨gb106, 7, none⟩ (.string x103000_21)).heap[gb106]? = some (.cells #[.string t103, .int .i64 t110, .string t113, .string t116, .string t117, .int .i64 t118, .int .i64 t119, .string x103000_21] 37 (0, 0))) := ⟨by have b_ := BK106; exact zb_⟩; have n3_ : Aside0 (Below w.heap.size w (wc.setCell ⟨gb106, 7, none⟩ (.string x103000_21))) := ⟨hs_⟩; (try clear BK101)
      (try clear BK102)
      (try clear BK106)
      (try clear HB)
      generalize (wc.setCell ⟨gb106, 7, none⟩ (.string x103000_21)) = w67 at n0_ n1_ n2_ n3_ ⊢; have BK101 := n0_; have BK102 := n1_; have BK106 := n2_; have HB := n3_; clear n0_ n1_ n2_ n3_; replace BK101 := Aside0.mk (blk_drew BK101.out); replace BK102 := Aside0.mk (blk_drew BK102.out); replace BK106 := Aside0.mk (blk_drew BK106.out); replace HB := Aside0.mk (below_drew1 HB.out); refine start_ (n := 7) (S := fun w' => w'.cell? ⟨gb102, 0, none⟩ = some (.string x103000_21) ∧ w'.cell? ⟨gb102, 1, none⟩ = some (.int .i64 x103001_21)) (ds := []) (bs 7 0) (by kernel_rfl) rfl rfl ⟨(blk_cell BK102.out 0).trans rfl, (blk_cell BK102.out 1).trans rfl⟩ (fun hHeld => ?_); generalize w67.drew = w68 at BK101 BK102 BK106 HB hHeld ⊢; refine pk_ (i := 0) (N := some 52) (bs 7 1) rfl rfl ?_; refine pk_ (i := 1) (N := some 53) (bs 7 3) rfl rfl ?_; refine pk_ (i := 2) (N := some 54) (bs 7 7) rfl rfl ?_; refine pk_ (i := 3) (N := some 55) (bs 7 15) rfl rfl ?_; refine tkK2_ (i := 4) (N := some 56) (bs 7 31) rfl rfl hHeld ?_; refine one_ (i := 5) (N := none) (bs 7 63) rfl rfl (by kernel_rfl) (by decide) (fun K hK => ?_); have hs69 : w68.cell? ⟨gb101, 0, none⟩ = some (.string ⟨#[]⟩) := (blk_cell BK101.out 0).trans rfl; have hfs69 := blk_frozen BK101.out 0; have hns69_1 := NB102_101.out; have hns69_2 := NB106_101.out; have hms69_1 := NB101_102.out; have hms69_2 := NB101_106.out; have hs70 : w68.cell? ⟨gb101, 1, none⟩ = some (.int .i64 0) := (blk_cell BK101.out 1).trans rfl; have hfs70 := blk_frozen BK101.out 1; have hns70_1 := NB102_101.out; have hns70_2 := NB106_101.out; have hms70_1 := NB101_102.out; have hms70_2 := NB101_106.out; have hs71 : w68.cell? ⟨gb101, 2, none⟩ = some (.string ⟨#[]⟩) := (blk_cell BK101.out 2).trans rfl; have hfs71 := blk_frozen BK101.out 2; have hns71_1 := NB102_101.out; have hns71_2 := NB106_101.out; have hms71_1 := NB101_102.out; have hms71_2 := NB101_106.out; have hs72 : w68.cell? ⟨gb101, 3, none⟩ = some (.string ⟨#[]⟩) := (blk_cell BK101.out 3).trans rfl; have hfs72 := blk_frozen BK101.out 3; have hns72_1 := NB102_101.out; have hns72_2 := NB106_101.out; have hms72_1 := NB101_102.out; have hms72_2 := NB101_106.out; have hs73 : w68.cell? ⟨gb101, 4, none⟩ = some (.string ⟨#[]⟩) := (blk_cell BK101.out 4).trans rfl; have hfs73 := blk_frozen BK101.out 4; have hns73_1 := NB102_101.out; have hns73_2 := NB106_101.out; have hms73_1 := NB101_102.out; have hms73_2 := NB101_106.out; have hs74 : w68.cell? ⟨gb101, 5, none⟩ = some (.int .i64 0) := (blk_cell BK101.out 5).trans rfl; have hfs74 := blk_frozen BK101.out 5; have hns74_1 := NB102_101.out; have hns74_2 := NB106_101.out; have hms74_1 := NB101_102.out; have hms74_2 := NB101_106.out; have hs75 : w68.cell? ⟨gb101, 6, none⟩ = some (.int .i64 0) := (blk_cell BK101.out 6).trans rfl; have hfs75 := blk_frozen BK101.out 6; have hns75_1 := NB102_101.out; have hns75_2 := NB106_101.out; have hms75_1 := NB101_102.out; have hms75_2 := NB101_106.out; have hs76 : w68.cell? ⟨gb101, 7, none⟩ = some (.string ⟨#[]⟩) := (blk_cell BK101.out 7).trans rfl
      have hfs76 := blk_frozen BK101.out 7; have hns76_1 := NB102_101.out; have hns76_2 := NB106_101.out; have hms76_1 := NB101_102.out; have hms76_2 := NB101_106.out; refine skip_ (w1 := ?_) (by rfl) rfl ?_ ?_; rotate_left
      ·go_simp
       rfl
      refine hK.out _ _ ⟨((cell_far (p := ⟨gb101, _, none⟩) NB102_101.out _).trans (((cell_far (p := ⟨gb101, _, none⟩) NB102_101.out _).trans (((cell_far (p := ⟨gb101, _, none⟩) NB102_101.out _).trans (((cell_far (p := ⟨gb101, _, none⟩) NB102_101.out _).trans (((cell_far (p := ⟨gb101, _, none⟩) NB102_101.out _).trans (((cell_far (p := ⟨gb101, _, none⟩) NB102_101.out _).trans (((cell_far (p := ⟨gb101, _, none⟩) NB102_101.out _).trans (((cell_far (p := ⟨gb101, _, none⟩) NB102_101.out _).trans (hHeld.1)))))))))))))))), ((cell_far (p := ⟨gb101, _, none⟩) NB102_101.out _).trans (((cell_far (p := ⟨gb101, _, none⟩) NB102_101.out _).trans (((cell_far (p := ⟨gb101, _, none⟩) NB102_101.out _).trans (((cell_far (p := ⟨gb101, _, none⟩) NB102_101.out _).trans (((cell_far (p := ⟨gb101, _, none⟩) NB102_101.out _).trans (((cell_far (p := ⟨gb101, _, none⟩) NB102_101.out _).trans (((cell_far (p := ⟨gb101, _, none⟩) NB102_101.out _).trans (((cell_far (p := ⟨gb101, _, none⟩) NB102_101.out _).trans (hHeld.2))))))))))))))))⟩ (fun hHeld => ?_); clear hK K; refine pk_ (i := 6) (N := some 3) (bs 7 127) rfl rfl ?_; refine done_ (by kernel_rfl) ?_; try go_wp2
      refine bodyPost_ret (results_ct rfl _ _ gb101 37 #[.string ⟨#[]⟩, .int .i64 0, .string ⟨#[]⟩, .string ⟨#[]⟩, .string ⟨#[]⟩, .int .i64 0, .int .i64 0, .string ⟨#[]⟩] (0, 0) _ rfl (by have b_ := BK101; exact zb_) Tryz.underlying37 rfl (by kernel_rfl)) rfl ?_; exact ⟨z3_, hs_⟩
     rw [if_pos c33] at H; have c33b0 := beq_iff_eq.mpr c33; have c33b1 := bne_eq_false_iff_eq.mpr c33; clear c33; replace H := Option.bind_eq_some_iff.mp H; obtain ⟨t127, A340, H⟩ := H; have A34 := Aside0.mk A340; clear A340; by_cases c35 : t127 = 0
     ·rw [if_pos c35] at H; have c35b0 := beq_iff_eq.mpr c35; have c35b1 := bne_eq_false_iff_eq.mpr c35; clear c35; simp only [Option.some.injEq, Prod.mk.injEq] at H; obtain ⟨rfl, rfl, rfl, rfl, rfl, rfl, rfl, rfl, rfl⟩ := H; have hnb36 := NB102_101.out; have hnc36 := NB101_102.out; have hnb37 := NB102_106.out; have hnc37 := NB106_102.out; obtain ⟨Z38_0, Z38_1, F38_0, F38_1⟩ := bc2 BK102.out; have hnb39 := NB106_101.out; have hnc39 := NB101_106.out; obtain ⟨Z40_0, Z40_1, Z40_2, Z40_3, Z40_4, Z40_5, Z40_6, Z40_7, F40_0, F40_1, F40_2, F40_3, F40_4, F40_5, F40_6, F40_7⟩ := bc8 BK106.out; go_wp2_with (first | ((with_reducible refine gate_callee (f := 27) rfl ?_); refine gl_ (some 44) Tryz.func27 #[.agg #[.string t103, .int .i64 t110, .string t113, .string t116, .string t117, .int .i64 t118, .int .i64 t119, .string x103000_21]] ?_; (with_reducible refine (commit_CheckTag.calls kj21 t103 t110 t113 t116 t117 t118 t119 x103000_21 t127 _ ?side1 A34.out).mono ?_); (case side1 => exact GV.below hgv (hs_)); rintro e w41 ⟨rfl, hb⟩; refine ⟨_, rfl, ?_⟩; replace BK101 := Aside0.mk (blk_below (g := gb101) (o := .cells #[.string ⟨#[]⟩, .int .i64 0, .string ⟨#[]⟩, .string ⟨#[]⟩, .string ⟨#[]⟩, .int .i64 0, .int .i64 0, .string ⟨#[]⟩] 37 (0, 0)) (by have b_ := BK101; have f_ := NB101_106; exact zb_) hb); replace BK102 := Aside0.mk (blk_below (g := gb102) (o := .cells #[.string x103000_21, .int .i64 x103001_21] 87 (0, 0)) (by have b_ := BK102; have f_ := NB102_106; exact zb_) hb); replace BK106 := Aside0.mk (blk_below (g := gb106) (o := .cells #[.string t103, .int .i64 t110, .string t113, .string t116, .string t117, .int .i64 t118, .int .i64 t119, .string x103000_21] 37 (0, 0)) (by have b_ := BK106; exact zb_) hb); replace HB := Aside0.mk (below_step (hs_) hb); (try clear hb); (try clear hb2); (try clear hk); (try clear hi); obtain ⟨Z42_0, Z42_1, F42_0, F42_1⟩ := bc2 BK102.out; obtain ⟨Z43_0, Z43_1, Z43_2, Z43_3, Z43_4, Z43_5, Z43_6, Z43_7, F43_0, F43_1, F43_2, F43_3, F43_4, F43_5, F43_6, F43_7⟩ := bc8 BK106.out; obtain ⟨Z44_0, Z44_1, Z44_2, Z44_3, Z44_4, Z44_5, Z44_6, Z44_7, F44_0, F44_1, F44_2, F44_3, F44_4, F44_5, F44_6, F44_7⟩ := bc8 BK101.out)); refine bodyPost_ret (results_ct rfl _ _ gb101 37 #[.string t103, .int .i64 t110, .string t113, .string t116, .string t117, .int .i64 t118, .int .i64 t119, .string x103000_21] (0, 0) _ rfl (by have b_ := BK101; have f_ := NB101_102; exact zb_) Tryz.underlying37 rfl (by kernel_rfl)) rfl ?_; exact ⟨z3_, hs_⟩
     rw [if_neg c35] at H; have c35b0 := beq_eq_false_iff_ne.mpr c35; have c35b1 := bne_iff_ne.mpr c35; simp only [Option.some.injEq, Prod.mk.injEq] at H; obtain ⟨rfl, rfl, rfl, rfl, rfl, rfl, rfl, rfl, rfl⟩ := H; have hnb45 := NB102_101.out; have hnc45 := NB101_102.out; have hnb46 := NB102_106.out; have hnc46 := NB106_102.out; obtain ⟨Z47_0, Z47_1, F47_0, F47_1⟩ := bc2 BK102.out; have hnb48 := NB106_101.out; have hnc48 := NB101_106.out; obtain ⟨Z49_0, Z49_1, Z49_2, Z49_3, Z49_4, Z49_5, Z49_6, Z49_7, F49_0, F49_1, F49_2, F49_3, F49_4, F49_5, F49_6, F49_7⟩ := bc8 BK106.out; try go_wp2_with (first | ((with_reducible refine gate_callee (f := 27) rfl ?_); refine gl_ (some 44) Tryz.func27 #[.agg #[.string t103, .int .i64 t110, .string t113, .string t116, .string t117, .int .i64 t118, .int .i64 t119, .string x103000_21]] ?_; (with_reducible refine (commit_CheckTag.calls kj21 t103 t110 t113 t116 t117 t118 t119 x103000_21 t127 _ ?side1 A34.out).mono ?_); (case side1 => exact GV.below hgv (hs_)); rintro e w50 ⟨rfl, hb⟩; refine ⟨_, rfl, ?_⟩; replace BK101 := Aside0.mk (blk_below (g := gb101) (o := .cells #[.string ⟨#[]⟩, .int .i64 0, .string ⟨#[]⟩, .string ⟨#[]⟩, .string ⟨#[]⟩, .int .i64 0, .int .i64 0, .string ⟨#[]⟩] 37 (0, 0)) (by have b_ := BK101; have f_ := NB101_106; exact zb_) hb); replace BK102 := Aside0.mk (blk_below (g := gb102) (o := .cells #[.string x103000_21, .int .i64 x103001_21] 87 (0, 0)) (by have b_ := BK102; have f_ := NB102_106; exact zb_) hb); replace BK106 := Aside0.mk (blk_below (g := gb106) (o := .cells #[.string t103, .int .i64 t110, .string t113, .string t116, .string t117, .int .i64 t118, .int .i64 t119, .string x103000_21] 37 (0, 0)) (by have b_ := BK106; exact zb_) hb); replace HB := Aside0.mk (below_step (hs_) hb); (try clear hb); (try clear hb2); (try clear hk); (try clear hi); obtain ⟨Z51_0, Z51_1, F51_0, F51_1⟩ := bc2 BK102.out)); have n0_ : Aside0 ((w50.setCell ⟨gb102, 1, none⟩ (.int .i64 t127)).heap[gb101]? = some (.cells #[.string ⟨#[]⟩, .int .i64 0, .string ⟨#[]⟩, .string ⟨#[]⟩, .string ⟨#[]⟩, .int .i64 0, .int .i64 0, .string ⟨#[]⟩] 37 (0, 0))) := ⟨by have b_ := BK101; have f_ := NB101_102; exact zb_⟩; have n1_ : Aside0 ((w50.setCell ⟨gb102, 1, none⟩ (.int .i64 t127)).heap[gb102]? = some (.cells #[.string x103000_21, .int .i64 t127] 87 (0, 0))) := ⟨by have b_ := BK102; exact zb_⟩; have n2_ : Aside0 ((w50.setCell ⟨gb102, 1, none⟩ (.int .i64 t127)).heap[gb106]? = some (.cells #[.string t103, .int .i64 t110, .string t113, .string t116, .string t117, .int .i64 t118, .int .i64 t119, .string x103000_21] 37 (0, 0))) := ⟨by have b_ := BK106; have f_ := NB106_102; exact zb_⟩; have n3_ : Aside0 (Below w.heap.size w (w50.setCell ⟨gb102, 1, none⟩ (.int .i64 t127))) := ⟨hs_⟩; (try clear BK101)
     (try clear BK102)
     (try clear BK106)
     (try clear HB)
     generalize (w50.setCell ⟨gb102, 1, none⟩ (.int .i64 t127)) = w52 at n0_ n1_ n2_ n3_ ⊢; have BK101 := n0_; have BK102 := n1_; have BK106 := n2_; have HB := n3_; clear n0_ n1_ n2_ n3_; replace BK101 := Aside0.mk (blk_drew BK101.out); replace BK102 := Aside0.mk (blk_drew BK102.out); replace BK106 := Aside0.mk (blk_drew BK106.out); replace HB := Aside0.mk (below_drew1 HB.out); refine start_ (n := 7) (S := fun w' => w'.cell? ⟨gb102, 0, none⟩ = some (.string x103000_21) ∧ w'.cell? ⟨gb102, 1, none⟩ = some (.int .i64 t127)) (ds := []) (bs 7 0) (by kernel_rfl) rfl rfl ⟨(blk_cell BK102.out 0).trans rfl, (blk_cell BK102.out 1).trans rfl⟩ (fun hHeld => ?_); generalize w52.drew = w53 at BK101 BK102 BK106 HB hHeld ⊢; refine pk_ (i := 0) (N := some 52) (bs 7 1) rfl rfl ?_; refine pk_ (i := 1) (N := some 53) (bs 7 3) rfl rfl ?_; refine pk_ (i := 2) (N := some 54) (bs 7 7) rfl rfl ?_; refine pk_ (i := 3) (N := some 55) (bs 7 15) rfl rfl ?_; refine tkK2_ (i := 4) (N := some 56) (bs 7 31) rfl rfl hHeld ?_; refine one_ (i := 5) (N := none) (bs 7 63) rfl rfl (by kernel_rfl) (by decide) (fun K hK => ?_); have hs54 : w53.cell? ⟨gb101, 0, none⟩ = some (.string ⟨#[]⟩) := (blk_cell BK101.out 0).trans rfl; have hfs54 := blk_frozen BK101.out 0; have hns54_1 := NB102_101.out; have hns54_2 := NB106_101.out; have hms54_1 := NB101_102.out; have hms54_2 := NB101_106.out; have hs55 : w53.cell? ⟨gb101, 1, none⟩ = some (.int .i64 0) := (blk_cell BK101.out 1).trans rfl; have hfs55 := blk_frozen BK101.out 1; have hns55_1 := NB102_101.out; have hns55_2 := NB106_101.out; have hms55_1 := NB101_102.out; have hms55_2 := NB101_106.out; have hs56 : w53.cell? ⟨gb101, 2, none⟩ = some (.string ⟨#[]⟩) := (blk_cell BK101.out 2).trans rfl; have hfs56 := blk_frozen BK101.out 2; have hns56_1 := NB102_101.out; have hns56_2 := NB106_101.out; have hms56_1 := NB101_102.out; have hms56_2 := NB101_106.out; have hs57 : w53.cell? ⟨gb101, 3, none⟩ = some (.string ⟨#[]⟩) := (blk_cell BK101.out 3).trans rfl; have hfs57 := blk_frozen BK101.out 3; have hns57_1 := NB102_101.out; have hns57_2 := NB106_101.out; have hms57_1 := NB101_102.out; have hms57_2 := NB101_106.out; have hs58 : w53.cell? ⟨gb101, 4, none⟩ = some (.string ⟨#[]⟩) := (blk_cell BK101.out 4).trans rfl; have hfs58 := blk_frozen BK101.out 4; have hns58_1 := NB102_101.out; have hns58_2 := NB106_101.out; have hms58_1 := NB101_102.out; have hms58_2 := NB101_106.out; have hs59 : w53.cell? ⟨gb101, 5, none⟩ = some (.int .i64 0) := (blk_cell BK101.out 5).trans rfl; have hfs59 := blk_frozen BK101.out 5; have hns59_1 := NB102_101.out; have hns59_2 := NB106_101.out; have hms59_1 := NB101_102.out; have hms59_2 := NB101_106.out; have hs60 : w53.cell? ⟨gb101, 6, none⟩ = some (.int .i64 0) := (blk_cell BK101.out 6).trans rfl; have hfs60 := blk_frozen BK101.out 6; have hns60_1 := NB102_101.out; have hns60_2 := NB106_101.out; have hms60_1 := NB101_102.out; have hms60_2 := NB101_106.out; have hs61 : w53.cell? ⟨gb101, 7, none⟩ = some (.string ⟨#[]⟩) := (blk_cell BK101.out 7).trans rfl
     have hfs61 := blk_frozen BK101.out 7; have hns61_1 := NB102_101.out; have hns61_2 := NB106_101.out; have hms61_1 := NB101_102.out; have hms61_2 := NB101_106.out; refine skip_ (w1 := ?_) (by rfl) rfl ?_ ?_; rotate_left
     ·go_simp
      rfl
     refine hK.out _ _ ⟨((cell_far (p := ⟨gb101, _, none⟩) NB102_101.out _).trans (((cell_far (p := ⟨gb101, _, none⟩) NB102_101.out _).trans (((cell_far (p := ⟨gb101, _, none⟩) NB102_101.out _).trans (((cell_far (p := ⟨gb101, _, none⟩) NB102_101.out _).trans (((cell_far (p := ⟨gb101, _, none⟩) NB102_101.out _).trans (((cell_far (p := ⟨gb101, _, none⟩) NB102_101.out _).trans (((cell_far (p := ⟨gb101, _, none⟩) NB102_101.out _).trans (((cell_far (p := ⟨gb101, _, none⟩) NB102_101.out _).trans (hHeld.1)))))))))))))))), ((cell_far (p := ⟨gb101, _, none⟩) NB102_101.out _).trans (((cell_far (p := ⟨gb101, _, none⟩) NB102_101.out _).trans (((cell_far (p := ⟨gb101, _, none⟩) NB102_101.out _).trans (((cell_far (p := ⟨gb101, _, none⟩) NB102_101.out _).trans (((cell_far (p := ⟨gb101, _, none⟩) NB102_101.out _).trans (((cell_far (p := ⟨gb101, _, none⟩) NB102_101.out _).trans (((cell_far (p := ⟨gb101, _, none⟩) NB102_101.out _).trans (((cell_far (p := ⟨gb101, _, none⟩) NB102_101.out _).trans (hHeld.2))))))))))))))))⟩ (fun hHeld => ?_); clear hK K; refine pk_ (i := 6) (N := some 3) (bs 7 127) rfl rfl ?_; refine done_ (by kernel_rfl) ?_; try go_wp2
     refine bodyPost_ret (results_ct rfl _ _ gb101 37 #[.string ⟨#[]⟩, .int .i64 0, .string ⟨#[]⟩, .string ⟨#[]⟩, .string ⟨#[]⟩, .int .i64 0, .int .i64 0, .string ⟨#[]⟩] (0, 0) _ rfl (by have b_ := BK101; exact zb_) Tryz.underlying37 rfl (by kernel_rfl)) rfl ?_; exact ⟨z3_, hs_⟩


def commit_Whole.f (k : Nat) (a0_0 : Int) (a0_1 : ByteArray) : Option (Int) := (object_Bytes.f a0_0 a0_1).bind fun bt102 => (if bt102.2 = 0 then (if a0_0 = 2 then ((tree_Parse.f k a0_1).bind fun bt104 => (some bt104.2)) else (if a0_0 = 3 then ((commit_Parse.f k a0_1).bind fun bt108 => (some bt108.2.2.2.2.2.2.2.2.2.2.2)) else (if a0_0 = 4 then ((commit_ParseTag.f k a0_1).bind fun bt122 => (some bt122.2.2.2.2.2.2.2.2)) else (some bt102.2)))) else (some bt102.2))
theorem commit_Whole.mono : ∀ a0 a1 k, LeO (commit_Whole.f k a0 a1) (commit_Whole.f (k + 1) a0 a1) := by
 intro a0 a1 k; unfold commit_Whole.f; have m0_ := @commit_Parse.mono; have m1_ := @commit_ParseTag.mono; have m2_ := @tree_Parse.mono; exact mz_
set_option maxHeartbeats 8000000 in
set_option maxRecDepth 100000 in
theorem commit_Whole.calls (k : Nat) (a0_0 : Int) (a0_1 : ByteArray) (r : Int) (w : World) (hgv : GV w) (h : commit_Whole.f k a0_0 a0_1 = some r) :
  Calls Tryz.prog 36 #[.agg #[.int .i64 a0_0, .string a0_1]] w fun e w' => e = .returned (.int .i64 r) ∧ Below w.heap.size w w' := by
 have hu50 := Tryz.underlying50; have HB := Aside0.mk (Below.refl w.heap.size w); unfold commit_Whole.f at h; have H := h; clear h; replace H := Option.bind_eq_some_iff.mp H; obtain ⟨⟨t102, t103⟩, A20, H⟩ := H; dsimp only at H; have A2 := Aside0.mk A20; clear A20; by_cases c3 : t103 = 0; rotate_left
 ·rw [if_neg c3] at H; have c3b0 := beq_eq_false_iff_ne.mpr c3; have c3b1 := bne_iff_ne.mpr c3; obtain rfl := Option.some.inj H; go_enter Tryz.func36, Tryz.ntmps36; go_wp2_with (first | ((with_reducible refine gate_dst (N := 1) rfl ?_); refine be_ (cs := #[.int .i64 a0_0, .string a0_1]) (t := 50) ?_; intro gb101 hg w29 hbox hb; have BK101 := Aside0.mk (hbox); have GW101 := ag_ hg HB; have GE101 := ag_ hg HB; replace HB := ah_ HB hb; clear hb hbox hg; obtain ⟨Z30_0, Z30_1, F30_0, F30_1⟩ := bc2 BK101.out) | ((with_reducible refine gate_callee (f := 97) rfl ?_); refine gl_ (some 7) Tryz.func97 #[.agg #[.int .i64 a0_0, .string a0_1]] ?_; (with_reducible refine (object_Bytes.calls a0_0 a0_1 t102 t103 _ ?side1 A2.out).mono ?_); (case side1 => exact GV.below hgv (hs_)); rintro e w31 ⟨rfl, hb⟩; refine ⟨_, rfl, ?_⟩; replace BK101 := ab_ BK101 hb; replace HB := Aside0.mk (below_step (hs_) hb); (try clear hb); (try clear hb2); (try clear hk); (try clear hi)))
  go_ret
  exact ⟨z3_, hs_⟩
 rw [if_pos c3] at H; have c3b0 := beq_iff_eq.mpr c3; have c3b1 := bne_eq_false_iff_eq.mpr c3; clear c3; by_cases c4 : a0_0 = 2
 ·rw [if_pos c4] at H; have c4b0 := beq_iff_eq.mpr c4; have c4b1 := bne_eq_false_iff_eq.mpr c4; clear c4; replace H := Option.bind_eq_some_iff.mp H; obtain ⟨⟨t104, t105⟩, A50, H⟩ := H; dsimp only at H; have A5 := Aside0.mk A50; clear A50; obtain rfl := Option.some.inj H; go_enter Tryz.func36, Tryz.ntmps36; go_wp2_with (first | ((with_reducible refine gate_dst (N := 1) rfl ?_); refine be_ (cs := #[.int .i64 a0_0, .string a0_1]) (t := 50) ?_; intro gb101 hg w6 hbox hb; have BK101 := Aside0.mk (hbox); have GW101 := ag_ hg HB; have GE101 := ag_ hg HB; replace HB := ah_ HB hb; clear hb hbox hg; obtain ⟨Z7_0, Z7_1, F7_0, F7_1⟩ := bc2 BK101.out) | ((with_reducible refine gate_callee (f := 97) rfl ?_); refine gl_ (some 7) Tryz.func97 #[.agg #[.int .i64 a0_0, .string a0_1]] ?_; (with_reducible refine (object_Bytes.calls a0_0 a0_1 t102 t103 _ ?side1 A2.out).mono ?_); (case side1 => exact GV.below hgv (hs_)); rintro e w8 ⟨rfl, hb⟩; refine ⟨_, rfl, ?_⟩; replace BK101 := ab_ BK101 hb; replace HB := Aside0.mk (below_step (hs_) hb); (try clear hb); (try clear hb2); (try clear hk); (try clear hi); obtain ⟨Z9_0, Z9_1, F9_0, F9_1⟩ := bc2 BK101.out) | ((with_reducible refine gate_callee (f := 94) rfl ?_); refine gl_ (some 20) Tryz.func94 #[.string a0_1] ?_; (with_reducible refine (tree_Parse.calls k a0_1 t104 t105 _ ?side1 A5.out).mono ?_); (case side1 => exact GV.below hgv (hs_)); rintro e w10 ⟨v106, rfl, ho0, hb⟩; refine ⟨_, rfl, ?_⟩; have HO107 := Aside0.mk (Kd.R_lower ho0 (below_size (hs_))); replace BK101 := ab_ BK101 hb; replace HB := Aside0.mk (below_step (hs_) hb); (try clear hb); (try clear hb2); (try clear hk); (try clear hi); (try clear ho0)))
  go_ret
  exact ⟨z3_, hs_⟩
 rw [if_neg c4] at H; have c4b0 := beq_eq_false_iff_ne.mpr c4; have c4b1 := bne_iff_ne.mpr c4; by_cases c11 : a0_0 = 3
 ·rw [if_pos c11] at H; have c11b0 := beq_iff_eq.mpr c11; have c11b1 := bne_eq_false_iff_eq.mpr c11; clear c11; replace H := Option.bind_eq_some_iff.mp H; obtain ⟨⟨t108, t109, t112, t113, t114, t115, t116, t117, t118, t119, t120, t121⟩, A120, H⟩ := H; dsimp only at H; have A12 := Aside0.mk A120; clear A120; obtain rfl := Option.some.inj H; go_enter Tryz.func36, Tryz.ntmps36; go_wp2_with (first | ((with_reducible refine gate_dst (N := 1) rfl ?_); refine be_ (cs := #[.int .i64 a0_0, .string a0_1]) (t := 50) ?_; intro gb101 hg w13 hbox hb; have BK101 := Aside0.mk (hbox); have GW101 := ag_ hg HB; have GE101 := ag_ hg HB; replace HB := ah_ HB hb; clear hb hbox hg; obtain ⟨Z14_0, Z14_1, F14_0, F14_1⟩ := bc2 BK101.out) | ((with_reducible refine gate_callee (f := 97) rfl ?_); refine gl_ (some 7) Tryz.func97 #[.agg #[.int .i64 a0_0, .string a0_1]] ?_; (with_reducible refine (object_Bytes.calls a0_0 a0_1 t102 t103 _ ?side1 A2.out).mono ?_); (case side1 => exact GV.below hgv (hs_)); rintro e w15 ⟨rfl, hb⟩; refine ⟨_, rfl, ?_⟩; replace BK101 := ab_ BK101 hb; replace HB := Aside0.mk (below_step (hs_) hb); (try clear hb); (try clear hb2); (try clear hk); (try clear hi); obtain ⟨Z16_0, Z16_1, F16_0, F16_1⟩ := bc2 BK101.out) | ((with_reducible refine gate_callee (f := 20) rfl ?_); refine gl_ (some 28) Tryz.func20 #[.string a0_1] ?_; (with_reducible refine (commit_Parse.calls k a0_1 t108 t109 t112 t113 t114 t115 t116 t117 t118 t119 t120 t121 _ ?side1 A12.out).mono ?_); (case side1 => exact GV.below hgv (hs_)); rintro e w17 ⟨v110, rfl, ho0, hb⟩; refine ⟨_, rfl, ?_⟩; have HO111 := Aside0.mk (Kd.R_lower ho0 (below_size (hs_))); replace BK101 := ab_ BK101 hb; replace HB := Aside0.mk (below_step (hs_) hb); (try clear hb); (try clear hb2); (try clear hk); (try clear hi); (try clear ho0)))
  go_ret
  exact ⟨z3_, hs_⟩
 rw [if_neg c11] at H; have c11b0 := beq_eq_false_iff_ne.mpr c11; have c11b1 := bne_iff_ne.mpr c11; by_cases c18 : a0_0 = 4; rotate_left
 ·rw [if_neg c18] at H; have c18b0 := beq_eq_false_iff_ne.mpr c18; have c18b1 := bne_iff_ne.mpr c18; obtain rfl := Option.some.inj H; go_enter Tryz.func36, Tryz.ntmps36; go_wp2_with (first | ((with_reducible refine gate_dst (N := 1) rfl ?_); refine be_ (cs := #[.int .i64 a0_0, .string a0_1]) (t := 50) ?_; intro gb101 hg w25 hbox hb; have BK101 := Aside0.mk (hbox); have GW101 := ag_ hg HB; have GE101 := ag_ hg HB; replace HB := ah_ HB hb; clear hb hbox hg; obtain ⟨Z26_0, Z26_1, F26_0, F26_1⟩ := bc2 BK101.out) | ((with_reducible refine gate_callee (f := 97) rfl ?_); refine gl_ (some 7) Tryz.func97 #[.agg #[.int .i64 a0_0, .string a0_1]] ?_; (with_reducible refine (object_Bytes.calls a0_0 a0_1 t102 t103 _ ?side1 A2.out).mono ?_); (case side1 => exact GV.below hgv (hs_)); rintro e w27 ⟨rfl, hb⟩; refine ⟨_, rfl, ?_⟩; replace BK101 := ab_ BK101 hb; replace HB := Aside0.mk (below_step (hs_) hb); (try clear hb); (try clear hb2); (try clear hk); (try clear hi); obtain ⟨Z28_0, Z28_1, F28_0, F28_1⟩ := bc2 BK101.out)); go_ret
  exact ⟨z3_, hs_⟩
 rw [if_pos c18] at H; have c18b0 := beq_iff_eq.mpr c18; have c18b1 := bne_eq_false_iff_eq.mpr c18; clear c18; replace H := Option.bind_eq_some_iff.mp H; obtain ⟨⟨t122, t123, t124, t125, t126, t127, t128, t129, t130⟩, A190, H⟩ := H; dsimp only at H; have A19 := Aside0.mk A190; clear A190; obtain rfl := Option.some.inj H; go_enter Tryz.func36, Tryz.ntmps36; go_wp2_with (first | ((with_reducible refine gate_dst (N := 1) rfl ?_); refine be_ (cs := #[.int .i64 a0_0, .string a0_1]) (t := 50) ?_; intro gb101 hg w20 hbox hb; have BK101 := Aside0.mk (hbox); have GW101 := ag_ hg HB; have GE101 := ag_ hg HB; replace HB := ah_ HB hb; clear hb hbox hg; obtain ⟨Z21_0, Z21_1, F21_0, F21_1⟩ := bc2 BK101.out) | ((with_reducible refine gate_callee (f := 97) rfl ?_); refine gl_ (some 7) Tryz.func97 #[.agg #[.int .i64 a0_0, .string a0_1]] ?_; (with_reducible refine (object_Bytes.calls a0_0 a0_1 t102 t103 _ ?side1 A2.out).mono ?_); (case side1 => exact GV.below hgv (hs_)); rintro e w22 ⟨rfl, hb⟩; refine ⟨_, rfl, ?_⟩; replace BK101 := ab_ BK101 hb; replace HB := Aside0.mk (below_step (hs_) hb); (try clear hb); (try clear hb2); (try clear hk); (try clear hi); obtain ⟨Z23_0, Z23_1, F23_0, F23_1⟩ := bc2 BK101.out) | ((with_reducible refine gate_callee (f := 23) rfl ?_); refine gl_ (some 36) Tryz.func23 #[.string a0_1] ?_; (with_reducible refine (commit_ParseTag.calls k a0_1 t122 t123 t124 t125 t126 t127 t128 t129 t130 _ ?side1 A19.out).mono ?_); (case side1 => exact GV.below hgv (hs_)); rintro e w24 ⟨rfl, hb⟩; refine ⟨_, rfl, ?_⟩; replace BK101 := ab_ BK101 hb; replace HB := Aside0.mk (below_step (hs_) hb); (try clear hb); (try clear hb2); (try clear hk); (try clear hi)))
 go_ret
 exact ⟨z3_, hs_⟩


def slices_Index_string_string.l0 : Nat → List ByteArray → ByteArray → Int → Int → Option (Int)
 | 0, _, _, _, _ => none
 | k + 1, x0, x1, x7, x8 => if x8 < x7 then (if 0 ≤ x8 then (if x8 < (x0.length : Int) then (if x1.toList = (rdOf ByteArray.empty x0 x8).toList then (some x8) else (slices_Index_string_string.l0 k x0 x1 x7 (wrap64 (x8 + 1)))) else (none)) else (none)) else (some (-1))
def slices_Index_string_string.f (k : Nat) (l0 : List ByteArray) (a1 : ByteArray) : Option (Int) := slices_Index_string_string.l0 k l0 a1 (l0.length : Int) 0
theorem slices_Index_string_string.mono_l : ∀ k, (∀ y0 y1 y2 y3, LeO (slices_Index_string_string.l0 k y0 y1 y2 y3) (slices_Index_string_string.l0 (k + 1) y0 y1 y2 y3))
 | 0 => fun _ _ _ _ r h => by simp [slices_Index_string_string.l0] at h
 | k + 1 => by
  have ih0 := slices_Index_string_string.mono_l k
  ·intro y0 y1 y2 y3
   unfold slices_Index_string_string.l0
   have m0_ := @ih0
   exact mz_
theorem slices_Index_string_string.mono : ∀ a0 a1 k, LeO (slices_Index_string_string.f k a0 a1) (slices_Index_string_string.f (k + 1) a0 a1) := by
 intro a0 a1 k; have ih0 := slices_Index_string_string.mono_l k; unfold slices_Index_string_string.f; have m0_ := @ih0; exact mz_
set_option maxHeartbeats 8000000 in
set_option maxRecDepth 100000 in
theorem slices_Index_string_string.calls (k : Nat) (A0 : Option Addr) (c0 : Nat) (l0 : List ByteArray) (a1 : ByteArray) (r : Int) (w : World) (hr0 : Kd.C Kd.string w A0 l0.length l0) (hc0 : l0.length ≤ c0) (h : slices_Index_string_string.f k l0 a1 = some r) :
  Calls Tryz.prog 151 #[.slice A0 l0.length c0, .string a1] w fun e w' => e = .returned (.int .i64 r) ∧ Drawn0 w w' := by
 have HR0 := Aside0.mk hr0; have HC0 := Aside0.mk hc0; clear hr0 hc0; unfold slices_Index_string_string.f at h; have H := h; clear h; have H' := Aside0.mk H; clear H; go_enter Tryz.func151, Tryz.ntmps151; go_wp2
 go_loopg [8] k (fun kq v8 w' => ∃ (x8_1 : Int), v8 = .int .i64 x8_1 ∧ Aside0 (slices_Index_string_string.l0 kq l0 a1 (l0.length : Int) x8_1 = some r) ∧ Aside0 (kq ≤ k) ∧ Drawn0 w w')
 case atStart => exact ⟨(0), z1_, H', ⟨Nat.le_refl _⟩, z2_⟩
 case round =>
  clear H'; try clear c1
  try clear p2
  obtain ⟨x8_1, rfl, HA, HK1, ⟨m1, rfl⟩⟩ := hrel
  cases gk with
  | zero => exact absurd HA.out (by simp [slices_Index_string_string.l0])
  | succ k1 =>
   have H := HA.out; clear HA; simp only [slices_Index_string_string.l0] at H; by_cases c3 : x8_1 < (l0.length : Int); rotate_left
   ·rw [if_neg c3] at H; have c3b0 := decide_eq_false c3; clear c3; obtain rfl := Option.some.inj H; go_wp2
    go_ret
    exact ⟨z1_, z2_⟩
   rw [if_pos c3] at H; have c3b0 := decide_eq_true c3; clear c3; by_cases c4 : 0 ≤ x8_1; rotate_left
   ·rw [if_neg c4] at H; exact absurd H (by simp)
   rw [if_pos c4] at H; have c4b0 := decide_eq_true c4; clear c4; by_cases c5 : x8_1 < (l0.length : Int); rotate_left
   ·rw [if_neg c5] at H; exact absurd H (by simp)
   rw [if_pos c5] at H; have c5b0 := decide_eq_true c5; clear c5; by_cases c6 : a1.toList = (rdOf ByteArray.empty l0 x8_1).toList
   ·rw [if_pos c6] at H; have c6b0 := beq_iff_eq.mpr c6; have c6b1 := bne_eq_false_iff_eq.mpr c6; clear c6; obtain rfl := Option.some.inj H; have p190 : 0 ≤ (x8_1 : Int) := of_decide_eq_true z0_; have q190 : x8_1 < (l0.length : Int) := of_decide_eq_true z0_; obtain ⟨ad190, e190, hx190_0⟩ := Kd.at_string HR0.out x8_1 p190 q190
    cases e190
    replace p190 := eq_true p190; replace q190 := eq_true q190; go_wp2
    go_ret
    exact ⟨z1_, z2_⟩
   rw [if_neg c6] at H; have c6b0 := beq_eq_false_iff_ne.mpr c6; have c6b1 := bne_iff_ne.mpr c6; have H' := Aside0.mk H; clear H; have p190 : 0 ≤ (x8_1 : Int) := of_decide_eq_true z0_; have q190 : x8_1 < (l0.length : Int) := of_decide_eq_true z0_; obtain ⟨ad190, e190, hx190_0⟩ := Kd.at_string HR0.out x8_1 p190 q190
   cases e190
   replace p190 := eq_true p190; replace q190 := eq_true q190; go_wp2
   go_roundg k1
   case measure => have := HK1.out; omega
   case rel => exact ⟨(wrap64 (x8_1 + 1)), z1_, H', ⟨by have := HK1.out; omega⟩, z2_⟩


def slices_Contains_string_string.f (k : Nat) (l0 : List ByteArray) (a1 : ByteArray) : Option (Bool) := (slices_Index_string_string.f k l0 a1).bind fun t191 => (some (decide (t191 ≥ 0)))
theorem slices_Contains_string_string.mono : ∀ a0 a1 k, LeO (slices_Contains_string_string.f k a0 a1) (slices_Contains_string_string.f (k + 1) a0 a1) := by
 intro a0 a1 k; unfold slices_Contains_string_string.f; have m0_ := @slices_Index_string_string.mono; exact mz_
set_option maxHeartbeats 8000000 in
set_option maxRecDepth 100000 in
theorem slices_Contains_string_string.calls (k : Nat) (A0 : Option Addr) (c0 : Nat) (l0 : List ByteArray) (a1 : ByteArray) (r : Bool) (w : World) (hr0 : Kd.C Kd.string w A0 l0.length l0) (hc0 : l0.length ≤ c0) (h : slices_Contains_string_string.f k l0 a1 = some r) :
  Calls Tryz.prog 95 #[.slice A0 l0.length c0, .string a1] w fun e w' => e = .returned (.bool r) ∧ Drawn0 w w' := by
 have HR0 := Aside0.mk hr0; have HC0 := Aside0.mk hc0; clear hr0 hc0; unfold slices_Contains_string_string.f at h; have H := h; clear h; replace H := Option.bind_eq_some_iff.mp H; obtain ⟨t191, A30, H⟩ := H; have A3 := Aside0.mk A30; clear A30; obtain rfl := Option.some.inj H; go_enter Tryz.func95, Tryz.ntmps95; go_wp2_with (first | ((with_reducible refine gate_callee (f := 151) rfl ?_); refine gl_ (some 7) Tryz.func151 #[.slice A0 l0.length c0, .string a1] ?_; (with_reducible refine (slices_Index_string_string.calls k _ _ l0 a1 t191 _ ?side1 ?side2 A3.out).mono ?_); (case side1 => repeat (first | exact HR0.out | (with_reducible refine Kd.C_alloc ?_ _) | (with_reducible refine Kd.C_drewN ?_ _) | (with_reducible refine Kd.C_drew ?_))); (case side2 => exact HC0.out); rintro e w' ⟨rfl, ⟨nd, rfl⟩⟩; refine ⟨_, rfl, ?_⟩)); go_ret
 exact ⟨z1_, z2_⟩

end Go.Proofs.YtbhfbbfjdklfgaaGreatDoor.Q


