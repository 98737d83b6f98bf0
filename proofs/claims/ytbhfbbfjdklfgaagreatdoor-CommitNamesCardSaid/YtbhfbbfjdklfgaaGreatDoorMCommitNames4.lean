/- The law CommitNames holds: for every input it returns true, and each argument reads afterwards as it read before. -/
import Derived.Test.YtbhfbbfjdklfgaaGreatDoorMCommitNames3
import Derived.Lib.IndexMore
import Derived.Lib.IndexLaws
import Derived.Lib.Atoi
import Derived.Lib.ItoaNum
import Derived.Lib.IndexAny
set_option linter.unusedVariables false
set_option linter.unusedSimpArgs false
set_option maxHeartbeats 8000000
set_option maxRecDepth 100000
namespace Go.Proofs.YtbhfbbfjdklfgaaGreatDoor.Q
open Go.Proofs.Tryz Go.RowKit Go.Proofs.YtbhfbbfjdklfgaaGreatDoorW.PrintWords Go.Proofs.YtbhfbbfjdklfgaaGreatDoorW.PrintLast Go.Proofs.YtbhfbbfjdklfgaaGreatDoorW.PrintMore
attribute [local go_sem] max2_int min2_int max_two min_two max_three min_three max_four min_four
mutual
def commit_Parse.j1 : Nat → ByteArray → Int → ByteArray → List ByteArray → ByteArray → ByteArray → Int → Int → ByteArray → ByteArray → Int → Int → ByteArray → Option (ByteArray × List ByteArray × ByteArray × ByteArray × Int × Int × ByteArray × ByteArray × Int × Int × ByteArray × Int)
 | 0, _, _, _, _, _, _, _, _, _, _, _, _, _ => none
 | k + 1, x103000, x103001, x107000, x107001, x107002, x107003, x107004, x107005, x107006, x107007, x107008, x107009, x107010 => (commit_reader_who.f k x103000 x103001 ⟨#[97, 117, 116, 104, 111, 114, 32]⟩).bind fun bt114 => ((commit_reader_who.f k bt114.2.2.2.2.1 bt114.2.2.2.2.2 ⟨#[99, 111, 109, 109, 105, 116, 116, 101, 114, 32]⟩).bind fun bt120 => ((commit_reader_line.f bt120.2.2.2.2.1 bt120.2.2.2.2.2 ⟨#[]⟩).bind fun bt126 => (if bt126.1.toList = ([] : List UInt8) then (commit_Parse.j2 k bt126.2.1 bt126.2.2 x107000 x107001 bt114.1 bt114.2.1 bt114.2.2.1 bt114.2.2.2.1 bt120.1 bt120.2.1 bt120.2.2.1 bt120.2.2.2.1 x107010) else ((commit_reader_fail.f bt126.2.1 bt126.2.2 2).bind fun bt129 => (commit_Parse.j2 k bt129.1 bt129.2 x107000 x107001 bt114.1 bt114.2.1 bt114.2.2.1 bt114.2.2.2.1 bt120.1 bt120.2.1 bt120.2.2.1 bt120.2.2.2.1 x107010)))))
def commit_Parse.j2 : Nat → ByteArray → Int → ByteArray → List ByteArray → ByteArray → ByteArray → Int → Int → ByteArray → ByteArray → Int → Int → ByteArray → Option (ByteArray × List ByteArray × ByteArray × ByteArray × Int × Int × ByteArray × ByteArray × Int × Int × ByteArray × Int)
 | 0, _, _, _, _, _, _, _, _, _, _, _, _, _ => none
 | k + 1, x103000, x103001, x107000, x107001, x107002, x107003, x107004, x107005, x107006, x107007, x107008, x107009, x107010 => if x103001 = 0 then ((commit_Check.f k x107000 x107001 x107002 x107003 x107004 x107005 x107006 x107007 x107008 x107009 x103000).bind fun t131 => (if t131 = 0 then (some (x107000, x107001, x107002, x107003, x107004, x107005, x107006, x107007, x107008, x107009, x103000, 0)) else (some ((⟨#[]⟩ : ByteArray), ([] : List ByteArray), (⟨#[]⟩ : ByteArray), (⟨#[]⟩ : ByteArray), 0, 0, (⟨#[]⟩ : ByteArray), (⟨#[]⟩ : ByteArray), 0, 0, (⟨#[]⟩ : ByteArray), t131)))) else (some ((⟨#[]⟩ : ByteArray), ([] : List ByteArray), (⟨#[]⟩ : ByteArray), (⟨#[]⟩ : ByteArray), 0, 0, (⟨#[]⟩ : ByteArray), (⟨#[]⟩ : ByteArray), 0, 0, (⟨#[]⟩ : ByteArray), x103001))
def commit_Parse.l0 : Nat → ByteArray → Int → ByteArray → List ByteArray → ByteArray → ByteArray → Int → Int → ByteArray → ByteArray → Int → Int → ByteArray → Option (ByteArray × List ByteArray × ByteArray × ByteArray × Int × Int × ByteArray × ByteArray × Int × Int × ByteArray × Int)
 | 0, _, _, _, _, _, _, _, _, _, _, _, _, _ => none
 | k + 1, x103000, x103001, x107000, x107001, x107002, x107003, x107004, x107005, x107006, x107007, x107008, x107009, x107010 => if x103001 = 0 then ((strings_HasPrefix.f x103000 ⟨#[112, 97, 114, 101, 110, 116, 32]⟩).bind fun t107 => (if t107 = true then ((commit_reader_id.f k x103000 x103001 ⟨#[112, 97, 114, 101, 110, 116, 32]⟩).bind fun bt108 => (if x107001.length < 8796093022208 then (commit_Parse.l0 k bt108.2.1 bt108.2.2 x107000 (x107001 ++ [bt108.1]) x107002 x107003 x107004 x107005 x107006 x107007 x107008 x107009 x107010) else (none))) else (commit_Parse.j1 k x103000 x103001 x107000 x107001 x107002 x107003 x107004 x107005 x107006 x107007 x107008 x107009 x107010))) else (commit_Parse.j1 k x103000 x103001 x107000 x107001 x107002 x107003 x107004 x107005 x107006 x107007 x107008 x107009 x107010)
end
def commit_Parse.f (k : Nat) (a0 : ByteArray) : Option (ByteArray × List ByteArray × ByteArray × ByteArray × Int × Int × ByteArray × ByteArray × Int × Int × ByteArray × Int) := (commit_reader_id.f k a0 0 ⟨#[116, 114, 101, 101, 32]⟩).bind fun bt103 => (commit_Parse.l0 k bt103.2.1 bt103.2.2 bt103.1 ([] : List ByteArray) ⟨#[]⟩ ⟨#[]⟩ 0 0 ⟨#[]⟩ ⟨#[]⟩ 0 0 ⟨#[]⟩)
theorem commit_Parse.mono_l : ∀ k, (∀ y0 y1 y2 y3 y4 y5 y6 y7 y8 y9 y10 y11 y12, LeO (commit_Parse.j1 k y0 y1 y2 y3 y4 y5 y6 y7 y8 y9 y10 y11 y12) (commit_Parse.j1 (k + 1) y0 y1 y2 y3 y4 y5 y6 y7 y8 y9 y10 y11 y12)) ∧ (∀ y0 y1 y2 y3 y4 y5 y6 y7 y8 y9 y10 y11 y12, LeO (commit_Parse.j2 k y0 y1 y2 y3 y4 y5 y6 y7 y8 y9 y10 y11 y12) (commit_Parse.j2 (k + 1) y0 y1 y2 y3 y4 y5 y6 y7 y8 y9 y10 y11 y12)) ∧ (∀ y0 y1 y2 y3 y4 y5 y6 y7 y8 y9 y10 y11 y12, LeO (commit_Parse.l0 k y0 y1 y2 y3 y4 y5 y6 y7 y8 y9 y10 y11 y12) (commit_Parse.l0 (k + 1) y0 y1 y2 y3 y4 y5 y6 y7 y8 y9 y10 y11 y12))
 | 0 => ⟨fun _ _ _ _ _ _ _ _ _ _ _ _ _ r h => by simp [commit_Parse.j1] at h, fun _ _ _ _ _ _ _ _ _ _ _ _ _ r h => by simp [commit_Parse.j2] at h, fun _ _ _ _ _ _ _ _ _ _ _ _ _ r h => by simp [commit_Parse.l0] at h⟩
 | k + 1 => by
  obtain ⟨ih0, ih1, ih2⟩ := commit_Parse.mono_l k
  refine ⟨?_, ?_, ?_⟩
  ·intro y0 y1 y2 y3 y4 y5 y6 y7 y8 y9 y10 y11 y12
   unfold commit_Parse.j1
   have m0_ := @ih0
   have m1_ := @ih1
   have m2_ := @ih2
   have m3_ := @commit_Check.mono
   have m4_ := @commit_reader_id.mono
   have m5_ := @commit_reader_who.mono
   exact mz_
  ·intro y0 y1 y2 y3 y4 y5 y6 y7 y8 y9 y10 y11 y12
   unfold commit_Parse.j2
   have m0_ := @ih0
   have m1_ := @ih1
   have m2_ := @ih2
   have m3_ := @commit_Check.mono
   have m4_ := @commit_reader_id.mono
   have m5_ := @commit_reader_who.mono
   exact mz_
  ·intro y0 y1 y2 y3 y4 y5 y6 y7 y8 y9 y10 y11 y12
   unfold commit_Parse.l0
   have m0_ := @ih0
   have m1_ := @ih1
   have m2_ := @ih2
   have m3_ := @commit_Check.mono
   have m4_ := @commit_reader_id.mono
   have m5_ := @commit_reader_who.mono
   exact mz_
theorem commit_Parse.mono : ∀ a0 k, LeO (commit_Parse.f k a0) (commit_Parse.f (k + 1) a0) := by
 intro a0 k; obtain ⟨ih0, ih1, ih2⟩ := commit_Parse.mono_l k; unfold commit_Parse.f; have m0_ := @ih0; have m1_ := @ih1; have m2_ := @ih2; have m3_ := @commit_Check.mono; have m4_ := @commit_reader_id.mono; have m5_ := @commit_reader_who.mono; exact mz_
def commit_Parse.T4 : Bool × List (List Nat × List Nat) := (true, [([], []), ([0], [0]), ([], []), ([2], [2]), ([3], [3]), ([1, 4, 3], [1, 4]), ([0, 1, 2, 3, 4, 5], []), ([6, 5, 5, 0, 1, 2, 3, 4, 5], [5, 6])])
def commit_Parse.B4 : List Nat := [0, 1, 0, 4, 12, 31, 63, 127]
theorem commit_Parse.tab4 : rtab .any (opsOf Tryz.f20 4) = commit_Parse.T4 := by kernel_rfl
theorem commit_Parse.bits4 : waitsOk commit_Parse.T4.2 commit_Parse.B4 = true := by kernel_rfl
theorem commit_Parse.calls (k : Nat) (a0 : ByteArray) (r1 : ByteArray) (r2 : List ByteArray) (r3 : ByteArray) (r4 : ByteArray) (r5 : Int) (r6 : Int) (r7 : ByteArray) (r8 : ByteArray) (r9 : Int) (r10 : Int) (r11 : ByteArray) (r12 : Int) (w : World) (hgv : GV w) (h : commit_Parse.f k a0 = some (r1, r2, r3, r4, r5, r6, r7, r8, r9, r10, r11, r12)) :
  Calls Tryz.prog 20 #[.string a0] w fun e w' => ∃ v1_ : Value, e = .returned (.tuple #[.agg #[.string r1, v1_, .string r3, .string r4, .int .i64 r5, .int .i64 r6, .string r7, .string r8, .int .i64 r9, .int .i64 r10, .string r11], .int .i64 r12]) ∧ Kd.R Kd.string 9 w' w.heap.size (fun _ => True) v1_ r2 ∧ Below w.heap.size w w' := by
 have hu26 := underlying26; have hu87 := underlying87; have hu24 := underlying24; have HB := Aside0.mk (Below.refl w.heap.size w); unfold commit_Parse.f at h; have H := h; clear h; obtain ⟨⟨t103, t104, t105⟩, A2, H⟩ := bx_ H; dsimp only at H; have HC3 := Aside0.mk H; clear H; go_enter func20, ntmps20; go_upto_block 0 with (first | ((with_reducible refine gate_dst (N := 2) rfl ?_); refine be_ (cs := #[.string ⟨#[]⟩, .slice none 0 0, .string ⟨#[]⟩, .string ⟨#[]⟩, .int .i64 0, .int .i64 0, .string ⟨#[]⟩, .string ⟨#[]⟩, .int .i64 0, .int .i64 0, .string ⟨#[]⟩]) (t := 26) ?_; intro gb101 hg w4 hbox hb; have BK101 := Aside0.mk (hbox); have GW101 := ag_ hg HB; have GE101 := ag_ hg HB; replace HB := ah_ HB hb; clear hb hbox hg) | ((with_reducible refine gate_dst (N := 8) rfl ?_); refine be_ (cs := #[.string a0, .int .i64 0]) (t := 87) ?_; intro gb102 hg w5 hbox hb; have BK102 := Aside0.mk (hbox); have GW102 := Aside0.mk ((by rw [hg]; exact (below_size (hs_)) : w.heap.size ≤ gb102)); have GE102 := Aside0.mk ((by rw [hg]; exact (below_size (hs_)) : w.heap.size ≤ gb102)); replace HB := Aside0.mk (below_step (hs_) hb); have NB101_102 := Aside0.mk (nl2_ hg BK101.out); have NB102_101 := Aside0.mk (ng2_ hg BK101.out); replace BK101 := ab_ BK101 hb; clear hb hbox hg) | ((with_reducible refine gate_callee (f := 70) rfl ?_); refine gl_ (some 10) func70 #[.pointer (some ⟨gb102, 0, none⟩), .string ⟨#[116, 114, 101, 101, 32]⟩] ?_; (with_reducible refine (commit_reader_id.calls k gb102 a0 0 ⟨#[116, 114, 101, 101, 32]⟩ t103 t104 t105 w _ ?side1 ?side2 ?side3 A2.out).mono ?_); (case side1 => exact (show IsS87 w _ gb102 a0 0 from ⟨(bk_ BK102.out), GE102.out⟩)); (case side2 => repeat (first | (with_reducible first | exact HB.out | apply below_alloc | apply pw_below_drewN | apply below_drew1 | refine below_set ?_ (IsS87.ge HI102.out) | refine below_set ?_ GE101.out) | exact HB.out)); (case side3 => exact hgv); rintro e w6 ⟨rfl, hi, hb, hk⟩; refine ⟨_, rfl, ?_⟩; replace BK101 := Aside0.mk (KeepBut.blk hk (g' := gb101) (o := .cells #[.string ⟨#[]⟩, .slice none 0 0, .string ⟨#[]⟩, .string ⟨#[]⟩, .int .i64 0, .int .i64 0, .string ⟨#[]⟩, .string ⟨#[]⟩, .int .i64 0, .int .i64 0, .string ⟨#[]⟩] 26 (0, 0)) (bk_ BK101.out) NB101_102.out (by simp)); replace HB := Aside0.mk (hb); replace BK102 := Aside0.mk (hi.1); (try clear hb); (try clear hb2); (try clear hk); (try clear hi)) | ((with_reducible refine gate_dst (N := 5) rfl ?_); refine be_ (cs := #[.string ⟨#[]⟩, .slice none 0 0, .string ⟨#[]⟩, .string ⟨#[]⟩, .int .i64 0, .int .i64 0, .string ⟨#[]⟩, .string ⟨#[]⟩, .int .i64 0, .int .i64 0, .string ⟨#[]⟩]) (t := 26) ?_; intro gb106 hg w7 hbox hb; have BK106 := Aside0.mk (hbox); have GW106 := Aside0.mk ((by rw [hg]; exact (below_size (hs_)) : w.heap.size ≤ gb106)); have GE106 := Aside0.mk ((by rw [hg]; exact (below_size (hs_)) : w.heap.size ≤ gb106)); replace HB := Aside0.mk (below_step (hs_) hb); have NB101_106 := Aside0.mk (nl2_ hg BK101.out); have NB106_101 := Aside0.mk (ng2_ hg BK101.out); replace BK101 := ab_ BK101 hb; have NB102_106 := Aside0.mk (nl2_ hg BK102.out); have NB106_102 := Aside0.mk (ng2_ hg BK102.out); replace BK102 := ab_ BK102 hb; clear hb hbox hg; have hnb8 := NB106_101.out; have hnc8 := NB101_106.out; have hnb9 := NB106_102.out; have hnc9 := NB102_106.out; obtain ⟨Z10_0, Z10_1, Z10_2, Z10_3, Z10_4, Z10_5, Z10_6, Z10_7, Z10_8, Z10_9, Z10_10, F10⟩ := bc11 BK106.out))
 (try simp only [Act.put, List.setIfInBounds_toArray, List.set_cons_zero, List.set_cons_succ])
 go_cut [] (fun wc => ∃ (kq : Nat) (x103000_2 : ByteArray) (x103001_2 : Int) (x107001_2 : List ByteArray) (u107001 : Value), Aside0 (commit_Parse.j1 kq x103000_2 x103001_2 t103 x107001_2 ⟨#[]⟩ ⟨#[]⟩ 0 0 ⟨#[]⟩ ⟨#[]⟩ 0 0 ⟨#[]⟩ = some (r1, r2, r3, r4, r5, r6, r7, r8, r9, r10, r11, r12)) ∧ Aside0 (kq ≤ k) ∧ Aside0 (Kd.R Kd.string 9 wc w.heap.size (fun _ => True) u107001 x107001_2) ∧ Aside0 (wc.heap[gb101]? = some (.cells #[.string ⟨#[]⟩, (.slice none 0 0), .string ⟨#[]⟩, .string ⟨#[]⟩, .int .i64 0, .int .i64 0, .string ⟨#[]⟩, .string ⟨#[]⟩, .int .i64 0, .int .i64 0, .string ⟨#[]⟩] 26 (0, 0))) ∧ Aside0 (wc.heap[gb102]? = some (.cells #[.string x103000_2, .int .i64 x103001_2] 87 (0, 0))) ∧ Aside0 (wc.heap[gb106]? = some (.cells #[.string t103, u107001, .string ⟨#[]⟩, .string ⟨#[]⟩, .int .i64 0, .int .i64 0, .string ⟨#[]⟩, .string ⟨#[]⟩, .int .i64 0, .int .i64 0, .string ⟨#[]⟩] 26 (0, 0))) ∧ Aside0 (Below w.heap.size w wc))
 case first =>
  have H := HC3.out; clear HC3; have H' := Aside0.mk H; clear H; go_wp2
  go_loopg [] k (fun kq w' => ∃ (x103000_1 : ByteArray) (x103001_1 : Int) (x107001_1 : List ByteArray) (u107001 : Value), Aside0 (commit_Parse.l0 kq x103000_1 x103001_1 t103 x107001_1 ⟨#[]⟩ ⟨#[]⟩ 0 0 ⟨#[]⟩ ⟨#[]⟩ 0 0 ⟨#[]⟩ = some (r1, r2, r3, r4, r5, r6, r7, r8, r9, r10, r11, r12)) ∧ Aside0 (kq ≤ k) ∧ Aside0 (Kd.R Kd.string 9 w' w.heap.size (fun _ => True) u107001 x107001_1) ∧ Aside0 (w'.heap[gb101]? = some (.cells #[.string ⟨#[]⟩, (.slice none 0 0), .string ⟨#[]⟩, .string ⟨#[]⟩, .int .i64 0, .int .i64 0, .string ⟨#[]⟩, .string ⟨#[]⟩, .int .i64 0, .int .i64 0, .string ⟨#[]⟩] 26 (0, 0))) ∧ Aside0 (w'.heap[gb102]? = some (.cells #[.string x103000_1, .int .i64 x103001_1] 87 (0, 0))) ∧ Aside0 (w'.heap[gb106]? = some (.cells #[.string t103, u107001, .string ⟨#[]⟩, .string ⟨#[]⟩, .int .i64 0, .int .i64 0, .string ⟨#[]⟩, .string ⟨#[]⟩, .int .i64 0, .int .i64 0, .string ⟨#[]⟩] 26 (0, 0))) ∧ Aside0 (Below w.heap.size w w'))
  case atStart => exact ⟨(t104), (t105), (([] : List ByteArray)), (.slice none 0 0), H', ⟨Nat.le_refl _⟩, ⟨z6_⟩, ⟨by have b_ := BK101; have f_ := NB101_106; exact zb_⟩, ⟨by have b_ := BK102; have f_ := NB102_106; exact zb_⟩, ⟨by have b_ := BK106; exact zb_⟩, ⟨hs_⟩⟩
  case round =>
   clear H'; try clear c2
   try clear p2
   try clear c7
   try clear c8
   try clear c9
   try clear Z10_0 Z10_1 Z10_10 Z10_2 Z10_3 Z10_4 Z10_5 Z10_6 Z10_7 Z10_8 Z10_9 F10_0 F10_1 F10_10 F10_2 F10_3 F10_4 F10_5 F10_6 F10_7 F10_8 F10_9
   obtain ⟨x103000_1, x103001_1, x107001_1, u107001, HA, HK1, HO_107001, BK101, BK102, BK106, HB⟩ := hrel
   cases gk with
   | zero => exact absurd HA.out (by simp [commit_Parse.l0])
   | succ k1 =>
    have H := HA.out; clear HA; simp only [commit_Parse.l0] at H; by_cases c11 : x103001_1 = 0; rotate_left
    ·rw [if_neg c11] at H; have c11b0 := ef_ c11; have c11b1 := nt_ c11; (first | rw [c11b0] | (simp only [i64_w, i32_w]; rw [c11b0]) | skip); (try rw [c11b8])
     have H' := Aside0.mk H; clear H; have hnb27 := NB102_101.out; have hnc27 := NB101_102.out; have hnb28 := NB102_106.out; have hnc28 := NB106_102.out; obtain ⟨Z29_0, Z29_1, F29⟩ := bc2 BK102.out; go_wp2
     go_meet
     case rel => exact ⟨_, (x103000_1), (x103001_1), (x107001_1), (u107001), H', ⟨by have := HK1.out; first | omega | exact Nat.le_refl _⟩, ⟨z28_⟩, ⟨bk_ BK101.out⟩, ⟨bk_ BK102.out⟩, ⟨bk_ BK106.out⟩, ⟨hs_⟩⟩
    rw [if_pos c11] at H; have c11b0 := et_ c11; have c11b1 := nf_ c11; clear c11; (first | rw [c11b0] | (simp only [i64_w, i32_w]; rw [c11b0]) | skip); (try rw [c11b8])
    obtain ⟨t107, A12, H⟩ := bx_ H; by_cases c13 : t107 = true; rotate_left
    ·replace c13 := Bool.eq_false_iff.mpr c13; subst c13; rw [if_neg nft_] at H; have H' := Aside0.mk H; clear H; have hnb24 := NB102_101.out; have hnc24 := NB101_102.out; have hnb25 := NB102_106.out; have hnc25 := NB106_102.out; obtain ⟨Z26_0, Z26_1, F26⟩ := bc2 BK102.out; go_wp2_with (first | (go_at_call 71; (with_reducible refine (strings_HasPrefix.calls x103000_1 ⟨#[112, 97, 114, 101, 110, 116, 32]⟩ false _ A12.out).mono ?_); rintro e w' ⟨rfl, ⟨nd, rfl⟩⟩)); go_meet
     case rel => exact ⟨_, (x103000_1), (x103001_1), (x107001_1), (u107001), H', ⟨by have := HK1.out; first | omega | exact Nat.le_refl _⟩, ⟨z28_⟩, ⟨bk_ BK101.out⟩, ⟨bk_ BK102.out⟩, ⟨bk_ BK106.out⟩, ⟨hs_⟩⟩
    subst c13; rw [if_pos rfl] at H; obtain ⟨⟨t108, t109, t110⟩, A14, H⟩ := bx_ H; dsimp only at H; by_cases c15 : x107001_1.length < 8796093022208; rotate_left
    ·rw [if_neg c15] at H; exact no_ H
    rw [if_pos c15] at H; have LMc15 := Aside0.mk c15; clear c15; obtain ⟨y111, hy111⟩ : ∃ y_ : List ByteArray, y_ = (x107001_1 ++ [t108]) := ⟨_, rfl⟩; replace H : (commit_Parse.l0 k1 t109 t110 t103 y111 ⟨#[]⟩ ⟨#[]⟩ 0 0 ⟨#[]⟩ ⟨#[]⟩ 0 0 ⟨#[]⟩) = some (r1, r2, r3, r4, r5, r6, r7, r8, r9, r10, r11, r12) := by first | (rw [hy111]; with_reducible exact H) | (have H2_ := (Option.bind_some _ _).symm.trans H; rw [hy111]; with_reducible exact H2_) | (have H2_ := (Option.bind_some _ _).symm.trans H; with_reducible exact H2_) | with_reducible exact H | (rw [hy111]; exact H) | exact H
    have Ny111 := Aside0.mk hy111; clear hy111; have H' := Aside0.mk H; clear H; have hnb16 := NB102_101.out; have hnc16 := NB101_102.out; have hnb17 := NB102_106.out; have hnc17 := NB106_102.out; obtain ⟨Z18_0, Z18_1, F18⟩ := bc2 BK102.out; try go_wp2_with (first | (go_at_call 71; (with_reducible refine (strings_HasPrefix.calls x103000_1 ⟨#[112, 97, 114, 101, 110, 116, 32]⟩ true _ A12.out).mono ?_); rintro e w' ⟨rfl, ⟨nd, rfl⟩⟩; (try (rw [drewN_self wr]; generalize hq_ : World.drewN wr _ = wr; have n0_ : Aside0 (Kd.R Kd.string 9 wr w.heap.size (fun _ => True) u107001 x107001_1) := ⟨by rw [← hq_]; exact (rk_ HO_107001.out)⟩; have n1_ : Aside0 (wr.heap[gb101]? = some (.cells #[.string ⟨#[]⟩, .slice none 0 0, .string ⟨#[]⟩, .string ⟨#[]⟩, .int .i64 0, .int .i64 0, .string ⟨#[]⟩, .string ⟨#[]⟩, .int .i64 0, .int .i64 0, .string ⟨#[]⟩] 26 (0, 0))) := ⟨by rw [← hq_]; exact (bk_ BK101.out)⟩; have n2_ : Aside0 (wr.heap[gb102]? = some (.cells #[.string x103000_1, .int .i64 x103001_1] 87 (0, 0))) := ⟨by rw [← hq_]; exact (bk_ BK102.out)⟩; have n3_ : Aside0 (wr.heap[gb106]? = some (.cells #[.string t103, u107001, .string ⟨#[]⟩, .string ⟨#[]⟩, .int .i64 0, .int .i64 0, .string ⟨#[]⟩, .string ⟨#[]⟩, .int .i64 0, .int .i64 0, .string ⟨#[]⟩] 26 (0, 0))) := ⟨by rw [← hq_]; exact (bk_ BK106.out)⟩; have n4_ : Aside0 (Below w.heap.size w wr) := ⟨by rw [← hq_]; exact (hs_)⟩; clear HO_107001 BK101 BK102 BK106 HB hq_; have HO_107001 := n0_; have BK101 := n1_; have BK102 := n2_; have BK106 := n3_; have HB := n4_; clear n0_ n1_ n2_ n3_ n4_)))); replace HO_107001 := Aside0.mk (Kd.R_drew HO_107001.out); replace BK101 := ad_ BK101; replace BK102 := ad_ BK102; replace BK106 := ad_ BK106; replace HB := hd_ HB; refine start_ (n := 8) (S := fun w' => w'.cell? ⟨gb106, 0, none⟩ = some (.string t103) ∧ w'.cell? ⟨gb106, 1, none⟩ = some (u107001) ∧ w'.cell? ⟨gb106, 2, none⟩ = some (.string ⟨#[]⟩) ∧ w'.cell? ⟨gb106, 3, none⟩ = some (.string ⟨#[]⟩) ∧ w'.cell? ⟨gb106, 4, none⟩ = some (.int .i64 0) ∧ w'.cell? ⟨gb106, 5, none⟩ = some (.int .i64 0) ∧ w'.cell? ⟨gb106, 6, none⟩ = some (.string ⟨#[]⟩) ∧ w'.cell? ⟨gb106, 7, none⟩ = some (.string ⟨#[]⟩) ∧ w'.cell? ⟨gb106, 8, none⟩ = some (.int .i64 0) ∧ w'.cell? ⟨gb106, 9, none⟩ = some (.int .i64 0) ∧ w'.cell? ⟨gb106, 10, none⟩ = some (.string ⟨#[]⟩)) (ds := [7]) (bs 8 0) (by kernel_rfl) rfl rfl (bc11o BK106.out) (fun hHeld => ?_); refine with_tabW commit_Parse.tab4 commit_Parse.bits4 (fun HT_ HW_ => ?_); generalize wr.drew = w19 at HO_107001 BK101 BK102 BK106 HB hHeld ⊢; refine pun_ 0 24 8 1 ?_; refine pun_ 2 26 8 5 ?_; refine tkW11n_ 1 25 8 7 hHeld ?_; refine on_ 3 27 8 15 (fun K hK => ?_); refine goes_ func70 (by kernel_rfl) rfl #[.pointer (some ⟨gb102, 0, none⟩), .string ⟨#[112, 97, 114, 101, 110, 116, 32]⟩] (by rfl) rfl rfl z5_ ?_
    with_reducible refine (commit_reader_id.calls k1 gb102 x103000_1 x103001_1 ⟨#[112, 97, 114, 101, 110, 116, 32]⟩ t108 t109 t110 w _ ?side1 ?side2 ?side3 A14.out).mono ?_
    (case side1 => exact (show IsS87 w _ gb102 x103000_1 x103001_1 from ⟨(bk_ BK102.out), GE102.out⟩))
    (case side2 => repeat (first | (with_reducible first | exact HB.out | apply below_alloc | apply pw_below_drewN | apply below_drew1 | refine below_set ?_ (IsS87.ge HI102.out) | refine below_set ?_ GE101.out | refine below_set ?_ GE106.out) | exact HB.out))
    (case side3 => exact hgv)
    rintro e w20 ⟨rfl, hi, hb, hk⟩; refine ⟨_, rfl, ?_⟩; replace HO_107001 := Aside0.mk (Kd.R_mono (Kd.R_keep (IsS87.apart (show IsS87 w _ gb102 x103000_1 x103001_1 from by exact (show IsS87 w _ gb102 x103000_1 x103001_1 from ⟨(bk_ BK102.out), GE102.out⟩)) (rk_ HO_107001.out) (by decide)) hk (fun _ h => h.2)) (fun _ h => h.1)); replace BK101 := Aside0.mk (KeepBut.blk hk (g' := gb101) (o := .cells #[.string ⟨#[]⟩, .slice none 0 0, .string ⟨#[]⟩, .string ⟨#[]⟩, .int .i64 0, .int .i64 0, .string ⟨#[]⟩, .string ⟨#[]⟩, .int .i64 0, .int .i64 0, .string ⟨#[]⟩] 26 (0, 0)) (bk_ BK101.out) NB101_102.out (by simp)); replace BK106 := Aside0.mk (KeepBut.blk hk (g' := gb106) (o := .cells #[.string t103, u107001, .string ⟨#[]⟩, .string ⟨#[]⟩, .int .i64 0, .int .i64 0, .string ⟨#[]⟩, .string ⟨#[]⟩, .int .i64 0, .int .i64 0, .string ⟨#[]⟩] 26 (0, 0)) (bk_ BK106.out) NB106_102.out (by simp)); replace HB := Aside0.mk (hb); replace BK102 := Aside0.mk (hi.1); (try clear hb)
    (try clear hb2)
    (try clear hk)
    (try clear hi)
    refine hK.out _ _ (bc11o BK106.out) (fun hHeld => ?_); clear hK K; refine norm_ (a' := ?_) ?_ ?_; rotate_left
    ·show Act.put _ (some 27) _ = _
     simp only [Act.put, List.setIfInBounds_toArray, List.set_cons_zero, List.set_cons_succ, i64_w, i32_w]; rfl
    refine on_ 4 28 8 31 (fun K hK => ?_); refine value_ (w1 := ?_) (v := ?_) (by rfl) rfl ?_ ?_; rotate_left 2
    ·go_simp
     constructor
     ·rfl
     ·rfl
    refine hK.out _ _ ⟨(blk_cell (blk_alloc BK106.out _) 0).trans rfl, (blk_cell (blk_alloc BK106.out _) 1).trans rfl, (blk_cell (blk_alloc BK106.out _) 2).trans rfl, (blk_cell (blk_alloc BK106.out _) 3).trans rfl, (blk_cell (blk_alloc BK106.out _) 4).trans rfl, (blk_cell (blk_alloc BK106.out _) 5).trans rfl, (blk_cell (blk_alloc BK106.out _) 6).trans rfl, (blk_cell (blk_alloc BK106.out _) 7).trans rfl, (blk_cell (blk_alloc BK106.out _) 8).trans rfl, (blk_cell (blk_alloc BK106.out _) 9).trans rfl, (blk_cell (blk_alloc BK106.out _) 10).trans rfl⟩ (fun hHeld => ?_); clear hK K; refine norm_ (a' := ?_) ?_ ?_; rotate_left
    ·show Act.put _ (some 28) _ = _
     simp only [Act.put, List.setIfInBounds_toArray, List.set_cons_zero, List.set_cons_succ, i64_w, i32_w]; rfl
    refine on_ 5 29 8 63 (fun K hK => ?_); refine Kd.R_append_step Kd.string (w0 := w) w.heap.size (by rfl) (.tmp 25) (.tmp 28) 22 9 (.string ⟨#[]⟩) 16 rfl underlying22 info9 rfl (by decide) (by omega) u107001 x107001_1 t108 [.string t108] (fun _ => True) (fun _ => False) rfl rfl ?aP (fun _ hk => hk.elim) ?aF ?aO ?aB ?aS ?aL ?_; (case aP => exact rfl)
    (case aB => exact (hs_))
    (case aF => exact (fun _ _ => trivial))
    (case aO => exact (rk_ HO_107001.out))
    (case aS => exact (below_size (hs_)))
    (case aL => have := LMc15.out; omega)
    intro v112 w21 ho hb hg hat; rw [← Ny111.out] at ho; have n0_ := Aside0.mk (blk_grown (g := gb101) (o := .cells #[.string ⟨#[]⟩, .slice none 0 0, .string ⟨#[]⟩, .string ⟨#[]⟩, .int .i64 0, .int .i64 0, .string ⟨#[]⟩, .string ⟨#[]⟩, .int .i64 0, .int .i64 0, .string ⟨#[]⟩] 26 (0, 0)) (bk_ BK101.out) hg (Kd.R_ne HO_107001.out BK101.out (by decide))); have n1_ := Aside0.mk (blk_grown (g := gb102) (o := .cells #[.string t109, .int .i64 t110] 87 (0, 0)) (bk_ BK102.out) hg (Kd.R_ne HO_107001.out BK102.out (by decide))); have n2_ := Aside0.mk (blk_grown (g := gb106) (o := .cells #[.string t103, u107001, .string ⟨#[]⟩, .string ⟨#[]⟩, .int .i64 0, .int .i64 0, .string ⟨#[]⟩, .string ⟨#[]⟩, .int .i64 0, .int .i64 0, .string ⟨#[]⟩] 26 (0, 0)) (bk_ BK106.out) hg (Kd.R_ne HO_107001.out BK106.out (by decide))); have n3_ := Aside0.mk (hb); have n4_ := Aside0.mk (ho); clear BK101; clear BK102; clear BK106; clear HB; clear HO_107001; have BK101 := n0_; have BK102 := n1_; have BK106 := n2_; have HB := n3_; have HO113 := n4_; clear n0_ n1_ n2_ n3_ n4_; clear ho hb hg hat; obtain ⟨Ao22, co22, eo22⟩ := Kd.R_slice HO113.out; (first | subst eo22 | (injection eo22 with f1_ f2_ f3_; have f4_ := f1_.symm; have f5_ := f3_.symm; clear f1_ f2_ f3_; subst f4_; subst f5_)); refine hK.out _ _ (bc11o BK106.out) (fun hHeld => ?_); clear hK K; refine norm_ (a' := ?_) ?_ ?_; rotate_left
    ·show Act.put _ (some 29) _ = _
     simp only [Act.put, List.setIfInBounds_toArray, List.set_cons_zero, List.set_cons_succ, i64_w, i32_w]; rfl
    refine pun_ 6 30 8 127 ?_; refine last_ (i := 7) (N := none) (bs 8 255) rfl rfl (one_of HT_.out (by kernel_rfl)) (by decide) (fun K hK => ?_); have hs23 : w21.cell? ⟨gb106, 1, none⟩ = some (u107001) := (blk_cell BK106.out 1).trans rfl; have hfs23 := blk_frozen BK106.out 1; have hns23_0 := NB101_106.out; have hns23_1 := NB102_106.out; have hms23_0 := NB106_101.out; have hms23_1 := NB106_102.out; refine skip_ (w1 := ?_) (by rfl) rfl ?_ ?_; rotate_left
    ·go_simp
     rfl
    refine hK.out _ _ ?_; clear hK K; refine dn_ ?_; try go_wp2
    go_roundg k1
    case measure => have := HK1.out; omega
    case rel => exact ⟨(t109), (t110), (y111), (.slice Ao22 y111.length co22), H', ⟨by have := HK1.out; omega⟩, ⟨by (with_reducible repeat (first | apply Kd.R_alloc | apply Kd.R_drewN | apply Kd.R_drew)); exact Kd.R_mono (Kd.R_far (p := ⟨gb106, 1, none⟩) (Kd.R_types HO113.out BK106.out (by decide)) (fun _ hk => hk.2) (.slice Ao22 y111.length co22)) (fun _ hk => trivial)⟩, ⟨by have b_ := BK101; have f_ := NB101_106; exact zb_⟩, ⟨by have b_ := BK102; have f_ := NB102_106; exact zb_⟩, ⟨by have b_ := BK106; exact zb_⟩, ⟨hs_⟩⟩
 case rest =>
  clear HC3; try clear c1
  try clear c2
  try clear p2
  try clear c7
  try clear c8
  try clear c9
  try clear c11
  try clear c11b0
  try clear c11b1
  try clear c13
  try clear c15
  try clear c16
  try clear c17
  try clear c20
  try clear c24
  try clear c25
  try clear c27
  try clear c28
  try clear Z10_0 Z10_1 Z10_10 Z10_2 Z10_3 Z10_4 Z10_5 Z10_6 Z10_7 Z10_8 Z10_9
  try clear Z18_0 Z18_1
  try clear Z26_0 Z26_1
  try clear Z29_0 Z29_1
  try clear F10
  try clear F18
  try clear F26
  try clear F29
  try clear p2
  obtain ⟨kq, x103000_2, x103001_2, x107001_2, u107001, HA, HJ2, HO_107001, BK101, BK102, BK106, HB⟩ := hcut
  cases kq with
  | zero => exact absurd HA.out (by simp [commit_Parse.j1])
  | succ kj2 =>
   have H := HA.out; clear HA; simp only [commit_Parse.j1] at H; obtain ⟨⟨t114, t115, t116, t117, t118, t119⟩, A30, H⟩ := bx_ H; dsimp only at H; obtain ⟨⟨t120, t121, t122, t123, t124, t125⟩, A31, H⟩ := bx_ H; dsimp only at H; obtain ⟨⟨t126, t127, t128⟩, A32, H⟩ := bx_ H; dsimp only at H; have HC33 := Aside0.mk H; clear H; go_upto_if 39 with (first | ((with_reducible refine gate_callee (f := 72) rfl ?_); refine gl_ (some 32) func72 #[.pointer (some ⟨gb102, 0, none⟩), .string ⟨#[97, 117, 116, 104, 111, 114, 32]⟩] ?_; (with_reducible refine (commit_reader_who.calls kj2 gb102 x103000_2 x103001_2 ⟨#[97, 117, 116, 104, 111, 114, 32]⟩ t114 t115 t116 t117 t118 t119 w _ ?side1 ?side2 ?side3 A30.out).mono ?_); (case side1 => exact (show IsS87 w _ gb102 x103000_2 x103001_2 from ⟨(bk_ BK102.out), GE102.out⟩)); (case side2 => repeat (first | (with_reducible first | exact HB.out | apply below_alloc | apply pw_below_drewN | apply below_drew1 | refine below_set ?_ (IsS87.ge HI102.out) | refine below_set ?_ GE101.out | refine below_set ?_ GE106.out) | exact HB.out)); (case side3 => exact hgv); rintro e w34 ⟨rfl, hi, hb, hk⟩; refine ⟨_, rfl, ?_⟩; replace HO_107001 := Aside0.mk (Kd.R_mono (Kd.R_keep (IsS87.apart (show IsS87 w _ gb102 x103000_2 x103001_2 from by exact (show IsS87 w _ gb102 x103000_2 x103001_2 from ⟨(bk_ BK102.out), GE102.out⟩)) (rk_ HO_107001.out) (by decide)) hk (fun _ h => h.2)) (fun _ h => h.1)); replace BK101 := Aside0.mk (KeepBut.blk hk (g' := gb101) (o := .cells #[.string ⟨#[]⟩, .slice none 0 0, .string ⟨#[]⟩, .string ⟨#[]⟩, .int .i64 0, .int .i64 0, .string ⟨#[]⟩, .string ⟨#[]⟩, .int .i64 0, .int .i64 0, .string ⟨#[]⟩] 26 (0, 0)) (bk_ BK101.out) NB101_102.out (by simp)); replace BK106 := Aside0.mk (KeepBut.blk hk (g' := gb106) (o := .cells #[.string t103, u107001, .string ⟨#[]⟩, .string ⟨#[]⟩, .int .i64 0, .int .i64 0, .string ⟨#[]⟩, .string ⟨#[]⟩, .int .i64 0, .int .i64 0, .string ⟨#[]⟩] 26 (0, 0)) (bk_ BK106.out) NB106_102.out (by simp)); replace HB := Aside0.mk (hb); replace BK102 := Aside0.mk (hi.1); (try clear hb); (try clear hb2); (try clear hk); (try clear hi)) | ((with_reducible refine gate_callee (f := 72) rfl ?_); refine gl_ (some 34) func72 #[.pointer (some ⟨gb102, 0, none⟩), .string ⟨#[99, 111, 109, 109, 105, 116, 116, 101, 114, 32]⟩] ?_; (with_reducible refine (commit_reader_who.calls kj2 gb102 t118 t119 ⟨#[99, 111, 109, 109, 105, 116, 116, 101, 114, 32]⟩ t120 t121 t122 t123 t124 t125 w _ ?side1 ?side2 ?side3 A31.out).mono ?_); (case side1 => exact (show IsS87 w _ gb102 t118 t119 from ⟨(bk_ BK102.out), GE102.out⟩)); (case side2 => repeat (first | (with_reducible first | exact HB.out | apply below_alloc | apply pw_below_drewN | apply below_drew1 | refine below_set ?_ (IsS87.ge HI102.out) | refine below_set ?_ GE101.out | refine below_set ?_ GE106.out) | exact HB.out)); (case side3 => exact hgv); rintro e w35 ⟨rfl, hi, hb, hk⟩; refine ⟨_, rfl, ?_⟩; replace HO_107001 := Aside0.mk (Kd.R_mono (Kd.R_keep (IsS87.apart (show IsS87 w _ gb102 t118 t119 from by exact (show IsS87 w _ gb102 t118 t119 from ⟨(bk_ BK102.out), GE102.out⟩)) (rk_ HO_107001.out) (by decide)) hk (fun _ h => h.2)) (fun _ h => h.1)); replace BK101 := Aside0.mk (KeepBut.blk hk (g' := gb101) (o := .cells #[.string ⟨#[]⟩, .slice none 0 0, .string ⟨#[]⟩, .string ⟨#[]⟩, .int .i64 0, .int .i64 0, .string ⟨#[]⟩, .string ⟨#[]⟩, .int .i64 0, .int .i64 0, .string ⟨#[]⟩] 26 (0, 0)) (bk_ BK101.out) NB101_102.out (by simp)); replace BK106 := Aside0.mk (KeepBut.blk hk (g' := gb106) (o := .cells #[.string t103, u107001, .string ⟨#[]⟩, .string ⟨#[]⟩, .int .i64 0, .int .i64 0, .string ⟨#[]⟩, .string ⟨#[]⟩, .int .i64 0, .int .i64 0, .string ⟨#[]⟩] 26 (0, 0)) (bk_ BK106.out) NB106_102.out (by simp)); replace HB := Aside0.mk (hb); replace BK102 := Aside0.mk (hi.1); (try clear hb); (try clear hb2); (try clear hk); (try clear hi); have hnb36 := NB106_101.out; have hnc36 := NB101_106.out; have hnb37 := NB106_102.out; have hnc37 := NB102_106.out; obtain ⟨Z38_0, Z38_1, Z38_2, Z38_3, Z38_4, Z38_5, Z38_6, Z38_7, Z38_8, Z38_9, Z38_10, F38⟩ := bc11 BK106.out) | ((with_reducible refine gate_callee (f := 73) rfl ?_); refine gl_ (some 38) func73 #[.pointer (some ⟨gb102, 0, none⟩), .string ⟨#[]⟩] ?_; (with_reducible refine (commit_reader_line.calls gb102 t124 t125 ⟨#[]⟩ t126 t127 t128 w _ ?side1 ?side2 ?side3 A32.out).mono ?_); (case side1 => exact (show IsS87 w _ gb102 t124 t125 from ⟨(by have b_ := BK102; have f_ := NB102_106; exact zb_), GE102.out⟩)); (case side2 => repeat (first | (with_reducible first | exact HB.out | apply below_alloc | apply pw_below_drewN | apply below_drew1 | refine below_set ?_ (IsS87.ge HI102.out) | refine below_set ?_ GE101.out | refine below_set ?_ GE106.out) | exact HB.out)); (case side3 => exact hgv); rintro e w39 ⟨rfl, hi, hb, hk⟩; refine ⟨_, rfl, ?_⟩; replace HO_107001 := Aside0.mk (Kd.R_mono (Kd.R_keep (IsS87.apart (show IsS87 w _ gb102 t124 t125 from by exact (show IsS87 w _ gb102 t124 t125 from ⟨(by have b_ := BK102; have f_ := NB102_106; exact zb_), GE102.out⟩)) (by (with_reducible repeat (first | apply Kd.R_alloc | apply Kd.R_drewN | apply Kd.R_drew)); exact (Kd.R_mono (Kd.R_far (p := ⟨gb106, 9, none⟩) (Kd.R_far (p := ⟨gb106, 8, none⟩) (Kd.R_far (p := ⟨gb106, 7, none⟩) (Kd.R_far (p := ⟨gb106, 6, none⟩) (Kd.R_far (p := ⟨gb106, 5, none⟩) (Kd.R_far (p := ⟨gb106, 4, none⟩) (Kd.R_far (p := ⟨gb106, 3, none⟩) (Kd.R_far (p := ⟨gb106, 2, none⟩) (Kd.R_types HO_107001.out BK106.out (by decide)) (fun _ hk => hk.2) (.string t114)) (fun _ hk => hk.2) (.string t115)) (fun _ hk => hk.2) (.int .i64 t116)) (fun _ hk => hk.2) (.int .i64 t117)) (fun _ hk => hk.2) (.string t120)) (fun _ hk => hk.2) (.string t121)) (fun _ hk => hk.2) (.int .i64 t122)) (fun _ hk => hk.2) (.int .i64 t123)) (fun _ h_ => h_.1))) (by decide)) hk (fun _ h => h.2)) (fun _ h => h.1)); replace BK101 := Aside0.mk (KeepBut.blk hk (g' := gb101) (o := .cells #[.string ⟨#[]⟩, .slice none 0 0, .string ⟨#[]⟩, .string ⟨#[]⟩, .int .i64 0, .int .i64 0, .string ⟨#[]⟩, .string ⟨#[]⟩, .int .i64 0, .int .i64 0, .string ⟨#[]⟩] 26 (0, 0)) (by have b_ := BK101; have f_ := NB101_106; exact zb_) NB101_102.out (by simp)); replace BK106 := Aside0.mk (KeepBut.blk hk (g' := gb106) (o := .cells #[.string t103, u107001, .string t114, .string t115, .int .i64 t116, .int .i64 t117, .string t120, .string t121, .int .i64 t122, .int .i64 t123, .string ⟨#[]⟩] 26 (0, 0)) (by have b_ := BK106; exact zb_) NB106_102.out (by simp)); replace HB := Aside0.mk (hb); replace BK102 := Aside0.mk (hi.1); (try clear hb); (try clear hb2); (try clear hk); (try clear hi)))
   (try simp only [Act.put, List.setIfInBounds_toArray, List.set_cons_zero, List.set_cons_succ])
   go_cut [] (fun wc => ∃ (kq : Nat) (x103000_32 : ByteArray) (x103001_32 : Int), Aside0 (commit_Parse.j2 kq x103000_32 x103001_32 t103 x107001_2 t114 t115 t116 t117 t120 t121 t122 t123 ⟨#[]⟩ = some (r1, r2, r3, r4, r5, r6, r7, r8, r9, r10, r11, r12)) ∧ Aside0 (kq ≤ kj2) ∧ Aside0 (Kd.R Kd.string 9 wc w.heap.size (fun _ => True) u107001 x107001_2) ∧ Aside0 (wc.heap[gb101]? = some (.cells #[.string ⟨#[]⟩, (.slice none 0 0), .string ⟨#[]⟩, .string ⟨#[]⟩, .int .i64 0, .int .i64 0, .string ⟨#[]⟩, .string ⟨#[]⟩, .int .i64 0, .int .i64 0, .string ⟨#[]⟩] 26 (0, 0))) ∧ Aside0 (wc.heap[gb102]? = some (.cells #[.string x103000_32, .int .i64 x103001_32] 87 (0, 0))) ∧ Aside0 (wc.heap[gb106]? = some (.cells #[.string t103, u107001, .string t114, .string t115, .int .i64 t116, .int .i64 t117, .string t120, .string t121, .int .i64 t122, .int .i64 t123, .string ⟨#[]⟩] 26 (0, 0))) ∧ Aside0 (Below w.heap.size w wc))
   case first =>
    have H := HC33.out; clear HC33; by_cases c40 : t126.toList = ([] : List UInt8)
    ·rw [if_pos c40] at H; have c40b0 := et_ c40; have c40b1 := nf_ c40; (try (have c40b8 : (!t126.toList.isEmpty) = false := (by have h_ := c40b1; rw [ne_nil_bool] at h_; exact h_))); (try (have c40b9 : t126.toList.isEmpty = true := (by have h_ := c40b1; rw [ne_nil_bool] at h_; simpa using h_)))
     clear c40; (first | rw [c40b0] | (simp only [i64_w, i32_w]; rw [c40b0]) | skip); (try rw [c40b8])
     have H' := Aside0.mk H; clear H; go_wp2
     go_meet
     case rel => exact ⟨_, (t127), (t128), H', ⟨by have := HJ2.out; first | omega | exact Nat.le_refl _⟩, ⟨z28_⟩, ⟨bk_ BK101.out⟩, ⟨bk_ BK102.out⟩, ⟨bk_ BK106.out⟩, ⟨hs_⟩⟩
    rw [if_neg c40] at H; have c40b0 := ef_ c40; have c40b1 := nt_ c40; (try (have c40b8 : (!t126.toList.isEmpty) = true := (by have h_ := c40b1; rw [ne_nil_bool] at h_; exact h_))); (try (have c40b9 : t126.toList.isEmpty = false := (by have h_ := c40b1; rw [ne_nil_bool] at h_; simpa using h_)))
    (first | rw [c40b0] | (simp only [i64_w, i32_w]; rw [c40b0]) | skip)
    (try rw [c40b8])
    obtain ⟨⟨t129, t130⟩, A41, H⟩ := bx_ H; dsimp only at H; have H' := Aside0.mk H; clear H; go_wp2_with (first | ((with_reducible refine gate_callee (f := 74) rfl ?_); refine gl_ (some 41) func74 #[.pointer (some ⟨gb102, 0, none⟩), .int .i64 2] ?_; (with_reducible refine (commit_reader_fail.calls gb102 t127 t128 2 t129 t130 w _ ?side1 ?side2 A41.out).mono ?_); (case side1 => exact (show IsS87 w _ gb102 t127 t128 from ⟨(bk_ BK102.out), GE102.out⟩)); (case side2 => repeat (first | (with_reducible first | exact HB.out | apply below_alloc | apply pw_below_drewN | apply below_drew1 | refine below_set ?_ (IsS87.ge HI102.out) | refine below_set ?_ GE101.out | refine below_set ?_ GE106.out) | exact HB.out)); rintro e w42 ⟨rfl, hi, hb, hk⟩; refine ⟨_, rfl, ?_⟩; replace HO_107001 := Aside0.mk (Kd.R_mono (Kd.R_keep (IsS87.apart (show IsS87 w _ gb102 t127 t128 from by exact (show IsS87 w _ gb102 t127 t128 from ⟨(bk_ BK102.out), GE102.out⟩)) (rk_ HO_107001.out) (by decide)) hk (fun _ h => h.2)) (fun _ h => h.1)); replace BK101 := Aside0.mk (KeepBut.blk hk (g' := gb101) (o := .cells #[.string ⟨#[]⟩, .slice none 0 0, .string ⟨#[]⟩, .string ⟨#[]⟩, .int .i64 0, .int .i64 0, .string ⟨#[]⟩, .string ⟨#[]⟩, .int .i64 0, .int .i64 0, .string ⟨#[]⟩] 26 (0, 0)) (bk_ BK101.out) NB101_102.out (by simp)); replace BK106 := Aside0.mk (KeepBut.blk hk (g' := gb106) (o := .cells #[.string t103, u107001, .string t114, .string t115, .int .i64 t116, .int .i64 t117, .string t120, .string t121, .int .i64 t122, .int .i64 t123, .string ⟨#[]⟩] 26 (0, 0)) (bk_ BK106.out) NB106_102.out (by simp)); replace HB := Aside0.mk (hb); replace BK102 := Aside0.mk (hi.1); (try clear hb); (try clear hb2); (try clear hk); (try clear hi)))
    go_meet
    case rel => exact ⟨_, (t129), (t130), H', ⟨by have := HJ2.out; first | omega | exact Nat.le_refl _⟩, ⟨z28_⟩, ⟨bk_ BK101.out⟩, ⟨bk_ BK102.out⟩, ⟨bk_ BK106.out⟩, ⟨hs_⟩⟩
   case rest =>
    clear HC33; try clear c1
    try clear c2
    try clear p2
    try clear c3
    try clear c4
    try clear c7
    try clear c8
    try clear c9
    try clear c11
    try clear c11b0
    try clear c11b1
    try clear c13
    try clear c15
    try clear c16
    try clear c17
    try clear c20
    try clear c24
    try clear c25
    try clear c27
    try clear c28
    try clear c36
    try clear c37
    try clear c40
    try clear c40b0
    try clear c40b1
    try clear Z10_0 Z10_1 Z10_10 Z10_2 Z10_3 Z10_4 Z10_5 Z10_6 Z10_7 Z10_8 Z10_9
    try clear Z18_0 Z18_1
    try clear Z26_0 Z26_1
    try clear Z29_0 Z29_1
    try clear Z38_0 Z38_1 Z38_10 Z38_2 Z38_3 Z38_4 Z38_5 Z38_6 Z38_7 Z38_8 Z38_9
    try clear F10
    try clear F18
    try clear F26
    try clear F29
    try clear F38
    try clear p2
    obtain ⟨kq, x103000_32, x103001_32, HA, HJ32, HO_107001, BK101, BK102, BK106, HB⟩ := hcut
    cases kq with
    | zero => exact absurd HA.out (by simp [commit_Parse.j2])
    | succ kj32 =>
     have H := HA.out; clear HA; simp only [commit_Parse.j2] at H; by_cases c43 : x103001_32 = 0; rotate_left
     ·rw [if_neg c43] at H; have c43b0 := ef_ c43; have c43b1 := nt_ c43; obtain ⟨rfl, rfl, rfl, rfl, rfl, rfl, rfl, rfl, rfl, rfl, rfl, rfl⟩ := pj12_ H; have hnb77 := NB102_101.out; have hnc77 := NB101_102.out; have hnb78 := NB102_106.out; have hnc78 := NB106_102.out; obtain ⟨Z79_0, Z79_1, F79⟩ := bc2 BK102.out; have hnb80 := NB106_101.out; have hnc80 := NB101_106.out; obtain ⟨Z81_0, Z81_1, Z81_2, Z81_3, Z81_4, Z81_5, Z81_6, Z81_7, Z81_8, Z81_9, Z81_10, F81⟩ := bc11 BK106.out; try go_wp2
      have n0_ : Aside0 (Kd.R Kd.string 9 (wc.setCell ⟨gb106, 10, none⟩ (.string x103000_32)) w.heap.size (fun _ => True) u107001 x107001_2) := ⟨by (with_reducible repeat (first | apply Kd.R_alloc | apply Kd.R_drewN | apply Kd.R_drew)); exact Kd.R_mono (Kd.R_far (p := ⟨gb106, 10, none⟩) (Kd.R_types HO_107001.out BK106.out (by decide)) (fun _ hk => hk.2) (.string x103000_32)) (fun _ hk => trivial)⟩; have n1_ : Aside0 ((wc.setCell ⟨gb106, 10, none⟩ (.string x103000_32)).heap[gb101]? = some (.cells #[.string ⟨#[]⟩, .slice none 0 0, .string ⟨#[]⟩, .string ⟨#[]⟩, .int .i64 0, .int .i64 0, .string ⟨#[]⟩, .string ⟨#[]⟩, .int .i64 0, .int .i64 0, .string ⟨#[]⟩] 26 (0, 0))) := ⟨by have b_ := BK101; have f_ := NB101_106; exact zb_⟩; have n2_ : Aside0 ((wc.setCell ⟨gb106, 10, none⟩ (.string x103000_32)).heap[gb102]? = some (.cells #[.string x103000_32, .int .i64 x103001_32] 87 (0, 0))) := ⟨by have b_ := BK102; have f_ := NB102_106; exact zb_⟩; have n3_ : Aside0 ((wc.setCell ⟨gb106, 10, none⟩ (.string x103000_32)).heap[gb106]? = some (.cells #[.string t103, u107001, .string t114, .string t115, .int .i64 t116, .int .i64 t117, .string t120, .string t121, .int .i64 t122, .int .i64 t123, .string x103000_32] 26 (0, 0))) := ⟨by have b_ := BK106; exact zb_⟩; have n4_ : Aside0 (Below w.heap.size w (wc.setCell ⟨gb106, 10, none⟩ (.string x103000_32))) := ⟨hs_⟩; (try clear HO_107001)
      (try clear BK101)
      (try clear BK102)
      (try clear BK106)
      (try clear HB)
      generalize (wc.setCell ⟨gb106, 10, none⟩ (.string x103000_32)) = w82 at n0_ n1_ n2_ n3_ n4_ ⊢; have HO_107001 := n0_; have BK101 := n1_; have BK102 := n2_; have BK106 := n3_; have HB := n4_; clear n0_ n1_ n2_ n3_ n4_; replace HO_107001 := Aside0.mk (Kd.R_drew HO_107001.out); replace BK101 := ad_ BK101; replace BK102 := ad_ BK102; replace BK106 := ad_ BK106; replace HB := hd_ HB; refine start_ (n := 7) (S := fun w' => w'.cell? ⟨gb102, 0, none⟩ = some (.string x103000_32) ∧ w'.cell? ⟨gb102, 1, none⟩ = some (.int .i64 x103001_32)) (ds := []) (bs 7 0) (by kernel_rfl) rfl rfl (bc2o BK102.out) (fun hHeld => ?_); generalize w82.drew = w83 at HO_107001 BK101 BK102 BK106 HB hHeld ⊢; refine pkn_ 0 62 7 1 ?_; refine pkn_ 1 63 7 3 ?_; refine pkn_ 2 64 7 7 ?_; refine pkn_ 3 65 7 15 ?_; refine tkK2n_ 4 66 7 31 hHeld ?_; refine one_ (i := 5) (N := none) (bs 7 63) rfl rfl (by kernel_rfl) (by decide) (fun K hK => ?_); have hs84 : w83.cell? ⟨gb101, 0, none⟩ = some (.string ⟨#[]⟩) := (blk_cell BK101.out 0).trans rfl; have hfs84 := blk_frozen BK101.out 0; have hns84_1 := NB102_101.out; have hns84_2 := NB106_101.out; have hms84_1 := NB101_102.out; have hms84_2 := NB101_106.out; have hs85 : w83.cell? ⟨gb101, 1, none⟩ = some (.slice none 0 0) := (blk_cell BK101.out 1).trans rfl; have hfs85 := blk_frozen BK101.out 1; have hns85_1 := NB102_101.out; have hns85_2 := NB106_101.out; have hms85_1 := NB101_102.out; have hms85_2 := NB101_106.out; have hs86 : w83.cell? ⟨gb101, 2, none⟩ = some (.string ⟨#[]⟩) := (blk_cell BK101.out 2).trans rfl; have hfs86 := blk_frozen BK101.out 2; have hns86_1 := NB102_101.out; have hns86_2 := NB106_101.out; have hms86_1 := NB101_102.out; have hms86_2 := NB101_106.out; have hs87 : w83.cell? ⟨gb101, 3, none⟩ = some (.string ⟨#[]⟩) := (blk_cell BK101.out 3).trans rfl; have hfs87 := blk_frozen BK101.out 3; have hns87_1 := NB102_101.out; have hns87_2 := NB106_101.out; have hms87_1 := NB101_102.out; have hms87_2 := NB101_106.out; have hs88 : w83.cell? ⟨gb101, 4, none⟩ = some (.int .i64 0) := (blk_cell BK101.out 4).trans rfl; have hfs88 := blk_frozen BK101.out 4; have hns88_1 := NB102_101.out; have hns88_2 := NB106_101.out; have hms88_1 := NB101_102.out; have hms88_2 := NB101_106.out; have hs89 : w83.cell? ⟨gb101, 5, none⟩ = some (.int .i64 0) := (blk_cell BK101.out 5).trans rfl; have hfs89 := blk_frozen BK101.out 5; have hns89_1 := NB102_101.out; have hns89_2 := NB106_101.out; have hms89_1 := NB101_102.out; have hms89_2 := NB101_106.out; have hs90 : w83.cell? ⟨gb101, 6, none⟩ = some (.string ⟨#[]⟩) := (blk_cell BK101.out 6).trans rfl; have hfs90 := blk_frozen BK101.out 6; have hns90_1 := NB102_101.out; have hns90_2 := NB106_101.out; have hms90_1 := NB101_102.out; have hms90_2 := NB101_106.out; have hs91 : w83.cell? ⟨gb101, 7, none⟩ = some (.string ⟨#[]⟩) := (blk_cell BK101.out 7).trans rfl; have hfs91 := blk_frozen BK101.out 7; have hns91_1 := NB102_101.out; have hns91_2 := NB106_101.out; have hms91_1 := NB101_102.out; have hms91_2 := NB101_106.out
      have hs92 : w83.cell? ⟨gb101, 8, none⟩ = some (.int .i64 0) := (blk_cell BK101.out 8).trans rfl; have hfs92 := blk_frozen BK101.out 8; have hns92_1 := NB102_101.out; have hns92_2 := NB106_101.out; have hms92_1 := NB101_102.out; have hms92_2 := NB101_106.out; have hs93 : w83.cell? ⟨gb101, 9, none⟩ = some (.int .i64 0) := (blk_cell BK101.out 9).trans rfl; have hfs93 := blk_frozen BK101.out 9; have hns93_1 := NB102_101.out; have hns93_2 := NB106_101.out; have hms93_1 := NB101_102.out; have hms93_2 := NB101_106.out; have hs94 : w83.cell? ⟨gb101, 10, none⟩ = some (.string ⟨#[]⟩) := (blk_cell BK101.out 10).trans rfl; have hfs94 := blk_frozen BK101.out 10; have hns94_1 := NB102_101.out; have hns94_2 := NB106_101.out; have hms94_1 := NB101_102.out; have hms94_2 := NB101_106.out; refine skip_ (w1 := ?_) (by rfl) rfl ?_ ?_; rotate_left
      ·go_simp
       rfl
      refine hK.out _ _ ⟨((cell_far (p := ⟨gb101, _, none⟩) NB102_101.out _).trans (((cell_far (p := ⟨gb101, _, none⟩) NB102_101.out _).trans (((cell_far (p := ⟨gb101, _, none⟩) NB102_101.out _).trans (((cell_far (p := ⟨gb101, _, none⟩) NB102_101.out _).trans (((cell_far (p := ⟨gb101, _, none⟩) NB102_101.out _).trans (((cell_far (p := ⟨gb101, _, none⟩) NB102_101.out _).trans (((cell_far (p := ⟨gb101, _, none⟩) NB102_101.out _).trans (((cell_far (p := ⟨gb101, _, none⟩) NB102_101.out _).trans (((cell_far (p := ⟨gb101, _, none⟩) NB102_101.out _).trans (((cell_far (p := ⟨gb101, _, none⟩) NB102_101.out _).trans (((cell_far (p := ⟨gb101, _, none⟩) NB102_101.out _).trans (hHeld.1)))))))))))))))))))))), ((cell_far (p := ⟨gb101, _, none⟩) NB102_101.out _).trans (((cell_far (p := ⟨gb101, _, none⟩) NB102_101.out _).trans (((cell_far (p := ⟨gb101, _, none⟩) NB102_101.out _).trans (((cell_far (p := ⟨gb101, _, none⟩) NB102_101.out _).trans (((cell_far (p := ⟨gb101, _, none⟩) NB102_101.out _).trans (((cell_far (p := ⟨gb101, _, none⟩) NB102_101.out _).trans (((cell_far (p := ⟨gb101, _, none⟩) NB102_101.out _).trans (((cell_far (p := ⟨gb101, _, none⟩) NB102_101.out _).trans (((cell_far (p := ⟨gb101, _, none⟩) NB102_101.out _).trans (((cell_far (p := ⟨gb101, _, none⟩) NB102_101.out _).trans (((cell_far (p := ⟨gb101, _, none⟩) NB102_101.out _).trans (hHeld.2))))))))))))))))))))))⟩ (fun hHeld => ?_); clear hK K; refine pkn_ 6 3 7 127 ?_; refine done_ (by kernel_rfl) ?_; try go_wp2
      refine bodyPost_ret (results_ct rfl _ _ gb101 26 #[.string ⟨#[]⟩, .slice none 0 0, .string ⟨#[]⟩, .string ⟨#[]⟩, .int .i64 0, .int .i64 0, .string ⟨#[]⟩, .string ⟨#[]⟩, .int .i64 0, .int .i64 0, .string ⟨#[]⟩] (0, 0) _ rfl (by have b_ := BK101; exact zb_) underlying26 rfl (by kernel_rfl)) rfl ?_; exact ⟨_, z3_, z6_, hs_⟩
     rw [if_pos c43] at H; have c43b0 := et_ c43; have c43b1 := nf_ c43; clear c43; obtain ⟨t131, A44, H⟩ := bx_ H; by_cases c45 : t131 = 0
     ·rw [if_pos c45] at H; have c45b0 := et_ c45; have c45b1 := nf_ c45; clear c45; obtain ⟨rfl, rfl, rfl, rfl, rfl, rfl, rfl, rfl, rfl, rfl, rfl, rfl⟩ := pj12_ H; have hnb46 := NB102_101.out; have hnc46 := NB101_102.out; have hnb47 := NB102_106.out; have hnc47 := NB106_102.out; obtain ⟨Z48_0, Z48_1, F48⟩ := bc2 BK102.out; have hnb49 := NB106_101.out; have hnc49 := NB101_106.out; obtain ⟨Z50_0, Z50_1, Z50_2, Z50_3, Z50_4, Z50_5, Z50_6, Z50_7, Z50_8, Z50_9, Z50_10, F50⟩ := bc11 BK106.out; obtain ⟨Ao51, co51, eo51⟩ := Kd.R_slice HO_107001.out; subst eo51; go_wp2_with (first | ((with_reducible refine gate_callee (f := 18) rfl ?_); refine gl_ (some 54) func18 #[.agg #[.string t103, .slice Ao51 x107001_2.length co51, .string t114, .string t115, .int .i64 t116, .int .i64 t117, .string t120, .string t121, .int .i64 t122, .int .i64 t123, .string x103000_32]] ?_; (with_reducible refine (commit_Check.calls kj32 t103 _ _ x107001_2 t114 t115 t116 t117 t120 t121 t122 t123 x103000_32 t131 _ ?side1 ?side2 ?side3 A44.out).mono ?_); (case side1 => refine (Kd.R_reads' (e := 9) (base := w.heap.size) (ok := fun k_ => True) (n := x107001_2.length) (c := co51) ?_).2.2; exact (by (with_reducible repeat (first | apply Kd.R_alloc | apply Kd.R_drewN | apply Kd.R_drew)); exact (Kd.R_mono (Kd.R_far (p := ⟨gb106, 10, none⟩) (Kd.R_types HO_107001.out BK106.out (by decide)) (fun _ hk => hk.2) (.string x103000_32)) (fun _ h_ => h_.1)))); (case side2 => exact (Kd.R_reads' HO_107001.out).2.1); (case side3 => exact GV.below hgv (hs_)); rintro e w52 ⟨rfl, hb⟩; refine ⟨_, rfl, ?_⟩; replace HO_107001 := Aside0.mk (Kd.R_below (by (with_reducible repeat (first | apply Kd.R_alloc | apply Kd.R_drewN | apply Kd.R_drew)); exact (Kd.R_mono (Kd.R_far (p := ⟨gb106, 10, none⟩) (Kd.R_types HO_107001.out BK106.out (by decide)) (fun _ hk => hk.2) (.string x103000_32)) (fun _ h_ => h_.1))) hb); replace BK101 := Aside0.mk (blk_below (g := gb101) (o := .cells #[.string ⟨#[]⟩, .slice none 0 0, .string ⟨#[]⟩, .string ⟨#[]⟩, .int .i64 0, .int .i64 0, .string ⟨#[]⟩, .string ⟨#[]⟩, .int .i64 0, .int .i64 0, .string ⟨#[]⟩] 26 (0, 0)) (by have b_ := BK101; have f_ := NB101_106; exact zb_) hb); replace BK102 := Aside0.mk (blk_below (g := gb102) (o := .cells #[.string x103000_32, .int .i64 x103001_32] 87 (0, 0)) (by have b_ := BK102; have f_ := NB102_106; exact zb_) hb); replace BK106 := Aside0.mk (blk_below (g := gb106) (o := .cells #[.string t103, .slice Ao51 x107001_2.length co51, .string t114, .string t115, .int .i64 t116, .int .i64 t117, .string t120, .string t121, .int .i64 t122, .int .i64 t123, .string x103000_32] 26 (0, 0)) (by have b_ := BK106; exact zb_) hb); replace HB := Aside0.mk (below_step (hs_) hb); (try clear hb); (try clear hb2); (try clear hk); (try clear hi); obtain ⟨Z53_0, Z53_1, F53⟩ := bc2 BK102.out; obtain ⟨Z54_0, Z54_1, Z54_2, Z54_3, Z54_4, Z54_5, Z54_6, Z54_7, Z54_8, Z54_9, Z54_10, F54⟩ := bc11 BK106.out; obtain ⟨Z55_0, Z55_1, Z55_2, Z55_3, Z55_4, Z55_5, Z55_6, Z55_7, Z55_8, Z55_9, Z55_10, F55⟩ := bc11 BK101.out))
      refine bodyPost_ret (results_ct rfl _ _ gb101 26 #[.string t103, .slice Ao51 x107001_2.length co51, .string t114, .string t115, .int .i64 t116, .int .i64 t117, .string t120, .string t121, .int .i64 t122, .int .i64 t123, .string x103000_32] (0, 0) _ rfl (by have b_ := BK101; have f_ := NB101_102; exact zb_) underlying26 rfl (by kernel_rfl)) rfl ?_; exact ⟨_, z3_, by (with_reducible repeat (first | apply Kd.R_alloc | apply Kd.R_drewN | apply Kd.R_drew)); exact Kd.R_mono (Kd.R_far (p := ⟨gb101, 10, none⟩) (Kd.R_far (p := ⟨gb101, 9, none⟩) (Kd.R_far (p := ⟨gb101, 8, none⟩) (Kd.R_far (p := ⟨gb101, 7, none⟩) (Kd.R_far (p := ⟨gb101, 6, none⟩) (Kd.R_far (p := ⟨gb101, 5, none⟩) (Kd.R_far (p := ⟨gb101, 4, none⟩) (Kd.R_far (p := ⟨gb101, 3, none⟩) (Kd.R_far (p := ⟨gb101, 2, none⟩) (Kd.R_far (p := ⟨gb101, 1, none⟩) (Kd.R_far (p := ⟨gb101, 0, none⟩) (Kd.R_far (p := ⟨gb102, 1, none⟩) (Kd.R_types (Kd.R_types HO_107001.out BK102.out (by decide)) BK101.out (by decide)) (fun _ hk => hk.1.2) (.int .i64 t131)) (fun _ hk => hk.2) (.string t103)) (fun _ hk => hk.2) (.slice Ao51 x107001_2.length co51)) (fun _ hk => hk.2) (.string t114)) (fun _ hk => hk.2) (.string t115)) (fun _ hk => hk.2) (.int .i64 t116)) (fun _ hk => hk.2) (.int .i64 t117)) (fun _ hk => hk.2) (.string t120)) (fun _ hk => hk.2) (.string t121)) (fun _ hk => hk.2) (.int .i64 t122)) (fun _ hk => hk.2) (.int .i64 t123)) (fun _ hk => hk.2) (.string x103000_32)) (fun _ hk => trivial), hs_⟩
     rw [if_neg c45] at H; have c45b0 := ef_ c45; have c45b1 := nt_ c45; obtain ⟨rfl, rfl, rfl, rfl, rfl, rfl, rfl, rfl, rfl, rfl, rfl, rfl⟩ := pj12_ H; have hnb56 := NB102_101.out; have hnc56 := NB101_102.out; have hnb57 := NB102_106.out; have hnc57 := NB106_102.out; obtain ⟨Z58_0, Z58_1, F58⟩ := bc2 BK102.out; have hnb59 := NB106_101.out; have hnc59 := NB101_106.out; obtain ⟨Z60_0, Z60_1, Z60_2, Z60_3, Z60_4, Z60_5, Z60_6, Z60_7, Z60_8, Z60_9, Z60_10, F60⟩ := bc11 BK106.out; obtain ⟨Ao61, co61, eo61⟩ := Kd.R_slice HO_107001.out; subst eo61; try go_wp2_with (first | ((with_reducible refine gate_callee (f := 18) rfl ?_); refine gl_ (some 54) func18 #[.agg #[.string t103, .slice Ao61 x107001_2.length co61, .string t114, .string t115, .int .i64 t116, .int .i64 t117, .string t120, .string t121, .int .i64 t122, .int .i64 t123, .string x103000_32]] ?_; (with_reducible refine (commit_Check.calls kj32 t103 _ _ x107001_2 t114 t115 t116 t117 t120 t121 t122 t123 x103000_32 t131 _ ?side1 ?side2 ?side3 A44.out).mono ?_); (case side1 => refine (Kd.R_reads' (e := 9) (base := w.heap.size) (ok := fun k_ => True) (n := x107001_2.length) (c := co61) ?_).2.2; exact (by (with_reducible repeat (first | apply Kd.R_alloc | apply Kd.R_drewN | apply Kd.R_drew)); exact (Kd.R_mono (Kd.R_far (p := ⟨gb106, 10, none⟩) (Kd.R_types HO_107001.out BK106.out (by decide)) (fun _ hk => hk.2) (.string x103000_32)) (fun _ h_ => h_.1)))); (case side2 => exact (Kd.R_reads' HO_107001.out).2.1); (case side3 => exact GV.below hgv (hs_)); rintro e w62 ⟨rfl, hb⟩; refine ⟨_, rfl, ?_⟩; replace HO_107001 := Aside0.mk (Kd.R_below (by (with_reducible repeat (first | apply Kd.R_alloc | apply Kd.R_drewN | apply Kd.R_drew)); exact (Kd.R_mono (Kd.R_far (p := ⟨gb106, 10, none⟩) (Kd.R_types HO_107001.out BK106.out (by decide)) (fun _ hk => hk.2) (.string x103000_32)) (fun _ h_ => h_.1))) hb); replace BK101 := Aside0.mk (blk_below (g := gb101) (o := .cells #[.string ⟨#[]⟩, .slice none 0 0, .string ⟨#[]⟩, .string ⟨#[]⟩, .int .i64 0, .int .i64 0, .string ⟨#[]⟩, .string ⟨#[]⟩, .int .i64 0, .int .i64 0, .string ⟨#[]⟩] 26 (0, 0)) (by have b_ := BK101; have f_ := NB101_106; exact zb_) hb); replace BK102 := Aside0.mk (blk_below (g := gb102) (o := .cells #[.string x103000_32, .int .i64 x103001_32] 87 (0, 0)) (by have b_ := BK102; have f_ := NB102_106; exact zb_) hb); replace BK106 := Aside0.mk (blk_below (g := gb106) (o := .cells #[.string t103, .slice Ao61 x107001_2.length co61, .string t114, .string t115, .int .i64 t116, .int .i64 t117, .string t120, .string t121, .int .i64 t122, .int .i64 t123, .string x103000_32] 26 (0, 0)) (by have b_ := BK106; exact zb_) hb); replace HB := Aside0.mk (below_step (hs_) hb); (try clear hb); (try clear hb2); (try clear hk); (try clear hi); obtain ⟨Z63_0, Z63_1, F63⟩ := bc2 BK102.out)); have n0_ : Aside0 (Kd.R Kd.string 9 (w62.setCell ⟨gb102, 1, none⟩ (.int .i64 t131)) w.heap.size (fun _ => True) (.slice Ao61 x107001_2.length co61) x107001_2) := ⟨by (with_reducible repeat (first | apply Kd.R_alloc | apply Kd.R_drewN | apply Kd.R_drew)); exact Kd.R_mono (Kd.R_far (p := ⟨gb102, 1, none⟩) (Kd.R_types HO_107001.out BK102.out (by decide)) (fun _ hk => hk.2) (.int .i64 t131)) (fun _ hk => trivial)⟩
     have n1_ : Aside0 ((w62.setCell ⟨gb102, 1, none⟩ (.int .i64 t131)).heap[gb101]? = some (.cells #[.string ⟨#[]⟩, .slice none 0 0, .string ⟨#[]⟩, .string ⟨#[]⟩, .int .i64 0, .int .i64 0, .string ⟨#[]⟩, .string ⟨#[]⟩, .int .i64 0, .int .i64 0, .string ⟨#[]⟩] 26 (0, 0))) := ⟨by have b_ := BK101; have f_ := NB101_102; exact zb_⟩; have n2_ : Aside0 ((w62.setCell ⟨gb102, 1, none⟩ (.int .i64 t131)).heap[gb102]? = some (.cells #[.string x103000_32, .int .i64 t131] 87 (0, 0))) := ⟨by have b_ := BK102; exact zb_⟩; have n3_ : Aside0 ((w62.setCell ⟨gb102, 1, none⟩ (.int .i64 t131)).heap[gb106]? = some (.cells #[.string t103, .slice Ao61 x107001_2.length co61, .string t114, .string t115, .int .i64 t116, .int .i64 t117, .string t120, .string t121, .int .i64 t122, .int .i64 t123, .string x103000_32] 26 (0, 0))) := ⟨by have b_ := BK106; have f_ := NB106_102; exact zb_⟩; have n4_ : Aside0 (Below w.heap.size w (w62.setCell ⟨gb102, 1, none⟩ (.int .i64 t131))) := ⟨hs_⟩; (try clear HO_107001)
     (try clear BK101)
     (try clear BK102)
     (try clear BK106)
     (try clear HB)
     generalize (w62.setCell ⟨gb102, 1, none⟩ (.int .i64 t131)) = w64 at n0_ n1_ n2_ n3_ n4_ ⊢; have HO_107001 := n0_; have BK101 := n1_; have BK102 := n2_; have BK106 := n3_; have HB := n4_; clear n0_ n1_ n2_ n3_ n4_; replace HO_107001 := Aside0.mk (Kd.R_drew HO_107001.out); replace BK101 := ad_ BK101; replace BK102 := ad_ BK102; replace BK106 := ad_ BK106; replace HB := hd_ HB; refine start_ (n := 7) (S := fun w' => w'.cell? ⟨gb102, 0, none⟩ = some (.string x103000_32) ∧ w'.cell? ⟨gb102, 1, none⟩ = some (.int .i64 t131)) (ds := []) (bs 7 0) (by kernel_rfl) rfl rfl (bc2o BK102.out) (fun hHeld => ?_); generalize w64.drew = w65 at HO_107001 BK101 BK102 BK106 HB hHeld ⊢; refine pkn_ 0 62 7 1 ?_; refine pkn_ 1 63 7 3 ?_; refine pkn_ 2 64 7 7 ?_; refine pkn_ 3 65 7 15 ?_; refine tkK2n_ 4 66 7 31 hHeld ?_; refine one_ (i := 5) (N := none) (bs 7 63) rfl rfl (by kernel_rfl) (by decide) (fun K hK => ?_); have hs66 : w65.cell? ⟨gb101, 0, none⟩ = some (.string ⟨#[]⟩) := (blk_cell BK101.out 0).trans rfl; have hfs66 := blk_frozen BK101.out 0; have hns66_1 := NB102_101.out; have hns66_2 := NB106_101.out; have hms66_1 := NB101_102.out; have hms66_2 := NB101_106.out; have hs67 : w65.cell? ⟨gb101, 1, none⟩ = some (.slice none 0 0) := (blk_cell BK101.out 1).trans rfl; have hfs67 := blk_frozen BK101.out 1; have hns67_1 := NB102_101.out; have hns67_2 := NB106_101.out; have hms67_1 := NB101_102.out; have hms67_2 := NB101_106.out; have hs68 : w65.cell? ⟨gb101, 2, none⟩ = some (.string ⟨#[]⟩) := (blk_cell BK101.out 2).trans rfl; have hfs68 := blk_frozen BK101.out 2; have hns68_1 := NB102_101.out; have hns68_2 := NB106_101.out; have hms68_1 := NB101_102.out; have hms68_2 := NB101_106.out; have hs69 : w65.cell? ⟨gb101, 3, none⟩ = some (.string ⟨#[]⟩) := (blk_cell BK101.out 3).trans rfl; have hfs69 := blk_frozen BK101.out 3; have hns69_1 := NB102_101.out; have hns69_2 := NB106_101.out; have hms69_1 := NB101_102.out; have hms69_2 := NB101_106.out; have hs70 : w65.cell? ⟨gb101, 4, none⟩ = some (.int .i64 0) := (blk_cell BK101.out 4).trans rfl; have hfs70 := blk_frozen BK101.out 4; have hns70_1 := NB102_101.out; have hns70_2 := NB106_101.out; have hms70_1 := NB101_102.out; have hms70_2 := NB101_106.out; have hs71 : w65.cell? ⟨gb101, 5, none⟩ = some (.int .i64 0) := (blk_cell BK101.out 5).trans rfl; have hfs71 := blk_frozen BK101.out 5; have hns71_1 := NB102_101.out; have hns71_2 := NB106_101.out; have hms71_1 := NB101_102.out; have hms71_2 := NB101_106.out; have hs72 : w65.cell? ⟨gb101, 6, none⟩ = some (.string ⟨#[]⟩) := (blk_cell BK101.out 6).trans rfl; have hfs72 := blk_frozen BK101.out 6; have hns72_1 := NB102_101.out; have hns72_2 := NB106_101.out; have hms72_1 := NB101_102.out; have hms72_2 := NB101_106.out; have hs73 : w65.cell? ⟨gb101, 7, none⟩ = some (.string ⟨#[]⟩) := (blk_cell BK101.out 7).trans rfl; have hfs73 := blk_frozen BK101.out 7; have hns73_1 := NB102_101.out; have hns73_2 := NB106_101.out; have hms73_1 := NB101_102.out; have hms73_2 := NB101_106.out; have hs74 : w65.cell? ⟨gb101, 8, none⟩ = some (.int .i64 0) := (blk_cell BK101.out 8).trans rfl
     have hfs74 := blk_frozen BK101.out 8; have hns74_1 := NB102_101.out; have hns74_2 := NB106_101.out; have hms74_1 := NB101_102.out; have hms74_2 := NB101_106.out; have hs75 : w65.cell? ⟨gb101, 9, none⟩ = some (.int .i64 0) := (blk_cell BK101.out 9).trans rfl; have hfs75 := blk_frozen BK101.out 9; have hns75_1 := NB102_101.out; have hns75_2 := NB106_101.out; have hms75_1 := NB101_102.out; have hms75_2 := NB101_106.out; have hs76 : w65.cell? ⟨gb101, 10, none⟩ = some (.string ⟨#[]⟩) := (blk_cell BK101.out 10).trans rfl; have hfs76 := blk_frozen BK101.out 10; have hns76_1 := NB102_101.out; have hns76_2 := NB106_101.out; have hms76_1 := NB101_102.out; have hms76_2 := NB101_106.out; refine skip_ (w1 := ?_) (by rfl) rfl ?_ ?_; rotate_left
     ·go_simp
      rfl
     refine hK.out _ _ ⟨((cell_far (p := ⟨gb101, _, none⟩) NB102_101.out _).trans (((cell_far (p := ⟨gb101, _, none⟩) NB102_101.out _).trans (((cell_far (p := ⟨gb101, _, none⟩) NB102_101.out _).trans (((cell_far (p := ⟨gb101, _, none⟩) NB102_101.out _).trans (((cell_far (p := ⟨gb101, _, none⟩) NB102_101.out _).trans (((cell_far (p := ⟨gb101, _, none⟩) NB102_101.out _).trans (((cell_far (p := ⟨gb101, _, none⟩) NB102_101.out _).trans (((cell_far (p := ⟨gb101, _, none⟩) NB102_101.out _).trans (((cell_far (p := ⟨gb101, _, none⟩) NB102_101.out _).trans (((cell_far (p := ⟨gb101, _, none⟩) NB102_101.out _).trans (((cell_far (p := ⟨gb101, _, none⟩) NB102_101.out _).trans (hHeld.1)))))))))))))))))))))), ((cell_far (p := ⟨gb101, _, none⟩) NB102_101.out _).trans (((cell_far (p := ⟨gb101, _, none⟩) NB102_101.out _).trans (((cell_far (p := ⟨gb101, _, none⟩) NB102_101.out _).trans (((cell_far (p := ⟨gb101, _, none⟩) NB102_101.out _).trans (((cell_far (p := ⟨gb101, _, none⟩) NB102_101.out _).trans (((cell_far (p := ⟨gb101, _, none⟩) NB102_101.out _).trans (((cell_far (p := ⟨gb101, _, none⟩) NB102_101.out _).trans (((cell_far (p := ⟨gb101, _, none⟩) NB102_101.out _).trans (((cell_far (p := ⟨gb101, _, none⟩) NB102_101.out _).trans (((cell_far (p := ⟨gb101, _, none⟩) NB102_101.out _).trans (((cell_far (p := ⟨gb101, _, none⟩) NB102_101.out _).trans (hHeld.2))))))))))))))))))))))⟩ (fun hHeld => ?_); clear hK K; refine pkn_ 6 3 7 127 ?_; refine done_ (by kernel_rfl) ?_; try go_wp2
     refine bodyPost_ret (results_ct rfl _ _ gb101 26 #[.string ⟨#[]⟩, .slice none 0 0, .string ⟨#[]⟩, .string ⟨#[]⟩, .int .i64 0, .int .i64 0, .string ⟨#[]⟩, .string ⟨#[]⟩, .int .i64 0, .int .i64 0, .string ⟨#[]⟩] (0, 0) _ rfl (by have b_ := BK101; exact zb_) underlying26 rfl (by kernel_rfl)) rfl ?_; exact ⟨_, z3_, z6_, hs_⟩
mutual
def commit_ParseTag.j0 : Nat → ByteArray → Int → ByteArray → Int → ByteArray → ByteArray → ByteArray → Int → Int → ByteArray → Option (ByteArray × Int × ByteArray × ByteArray × ByteArray × Int × Int × ByteArray × Int)
 | 0, _, _, _, _, _, _, _, _, _, _ => none
 | k + 1, x103000, x103001, x107000, x107001, x107002, x107003, x107004, x107005, x107006, x107007 => (commit_reader_line.f x103000 x103001 ⟨#[116, 97, 103, 32]⟩).bind fun bt113 => ((commit_reader_who.f k bt113.2.1 bt113.2.2 ⟨#[116, 97, 103, 103, 101, 114, 32]⟩).bind fun bt116 => ((commit_reader_line.f bt116.2.2.2.2.1 bt116.2.2.2.2.2 ⟨#[]⟩).bind fun bt122 => (if bt122.1.toList = ([] : List UInt8) then (commit_ParseTag.j1 k bt122.2.1 bt122.2.2 x107000 x107001 bt113.1 bt116.1 bt116.2.1 bt116.2.2.1 bt116.2.2.2.1 x107007) else ((commit_reader_fail.f bt122.2.1 bt122.2.2 2).bind fun bt125 => (commit_ParseTag.j1 k bt125.1 bt125.2 x107000 x107001 bt113.1 bt116.1 bt116.2.1 bt116.2.2.1 bt116.2.2.2.1 x107007)))))
def commit_ParseTag.j1 : Nat → ByteArray → Int → ByteArray → Int → ByteArray → ByteArray → ByteArray → Int → Int → ByteArray → Option (ByteArray × Int × ByteArray × ByteArray × ByteArray × Int × Int × ByteArray × Int)
 | 0, _, _, _, _, _, _, _, _, _, _ => none
 | k + 1, x103000, x103001, x107000, x107001, x107002, x107003, x107004, x107005, x107006, x107007 => if x103001 = 0 then ((commit_CheckTag.f k x107000 x107001 x107002 x107003 x107004 x107005 x107006 x103000).bind fun t127 => (if t127 = 0 then (some (x107000, x107001, x107002, x107003, x107004, x107005, x107006, x103000, 0)) else (some ((⟨#[]⟩ : ByteArray), 0, (⟨#[]⟩ : ByteArray), (⟨#[]⟩ : ByteArray), (⟨#[]⟩ : ByteArray), 0, 0, (⟨#[]⟩ : ByteArray), t127)))) else (some ((⟨#[]⟩ : ByteArray), 0, (⟨#[]⟩ : ByteArray), (⟨#[]⟩ : ByteArray), (⟨#[]⟩ : ByteArray), 0, 0, (⟨#[]⟩ : ByteArray), x103001))
end
def commit_ParseTag.f (k : Nat) (a0 : ByteArray) : Option (ByteArray × Int × ByteArray × ByteArray × ByteArray × Int × Int × ByteArray × Int) := (commit_reader_id.f k a0 0 ⟨#[111, 98, 106, 101, 99, 116, 32]⟩).bind fun bt103 => ((commit_reader_line.f bt103.2.1 bt103.2.2 ⟨#[116, 121, 112, 101, 32]⟩).bind fun bt107 => ((object_Kind.f bt107.1).bind fun t110 => (if t110 = 0 then ((commit_reader_fail.f bt107.2.1 bt107.2.2 2).bind fun bt111 => (commit_ParseTag.j0 k bt111.1 bt111.2 bt103.1 t110 ⟨#[]⟩ ⟨#[]⟩ ⟨#[]⟩ 0 0 ⟨#[]⟩)) else (commit_ParseTag.j0 k bt107.2.1 bt107.2.2 bt103.1 t110 ⟨#[]⟩ ⟨#[]⟩ ⟨#[]⟩ 0 0 ⟨#[]⟩))))
theorem commit_ParseTag.mono_l : ∀ k, (∀ y0 y1 y2 y3 y4 y5 y6 y7 y8 y9, LeO (commit_ParseTag.j0 k y0 y1 y2 y3 y4 y5 y6 y7 y8 y9) (commit_ParseTag.j0 (k + 1) y0 y1 y2 y3 y4 y5 y6 y7 y8 y9)) ∧ (∀ y0 y1 y2 y3 y4 y5 y6 y7 y8 y9, LeO (commit_ParseTag.j1 k y0 y1 y2 y3 y4 y5 y6 y7 y8 y9) (commit_ParseTag.j1 (k + 1) y0 y1 y2 y3 y4 y5 y6 y7 y8 y9))
 | 0 => ⟨fun _ _ _ _ _ _ _ _ _ _ r h => by simp [commit_ParseTag.j0] at h, fun _ _ _ _ _ _ _ _ _ _ r h => by simp [commit_ParseTag.j1] at h⟩
 | k + 1 => by
  obtain ⟨ih0, ih1⟩ := commit_ParseTag.mono_l k
  refine ⟨?_, ?_⟩
  ·intro y0 y1 y2 y3 y4 y5 y6 y7 y8 y9
   unfold commit_ParseTag.j0
   have m0_ := @ih0
   have m1_ := @ih1
   have m2_ := @commit_CheckTag.mono
   have m3_ := @commit_reader_id.mono
   have m4_ := @commit_reader_who.mono
   exact mz_
  ·intro y0 y1 y2 y3 y4 y5 y6 y7 y8 y9
   unfold commit_ParseTag.j1
   have m0_ := @ih0
   have m1_ := @ih1
   have m2_ := @commit_CheckTag.mono
   have m3_ := @commit_reader_id.mono
   have m4_ := @commit_reader_who.mono
   exact mz_
theorem commit_ParseTag.mono : ∀ a0 k, LeO (commit_ParseTag.f k a0) (commit_ParseTag.f (k + 1) a0) := by
 intro a0 k; obtain ⟨ih0, ih1⟩ := commit_ParseTag.mono_l k; unfold commit_ParseTag.f; have m0_ := @ih0; have m1_ := @ih1; have m2_ := @commit_CheckTag.mono; have m3_ := @commit_reader_id.mono; have m4_ := @commit_reader_who.mono; exact mz_
theorem commit_ParseTag.calls (k : Nat) (a0 : ByteArray) (r1 : ByteArray) (r2 : Int) (r3 : ByteArray) (r4 : ByteArray) (r5 : ByteArray) (r6 : Int) (r7 : Int) (r8 : ByteArray) (r9 : Int) (w : World) (hgv : GV w) (h : commit_ParseTag.f k a0 = some (r1, r2, r3, r4, r5, r6, r7, r8, r9)) :
  Calls Tryz.prog 23 #[.string a0] w fun e w' => e = .returned (.tuple #[.agg #[.string r1, .int .i64 r2, .string r3, .string r4, .string r5, .int .i64 r6, .int .i64 r7, .string r8], .int .i64 r9]) ∧ Below w.heap.size w w' := by
 have hu37 := underlying37; have hu87 := underlying87; have hu24 := underlying24; have HB := Aside0.mk (Below.refl w.heap.size w); unfold commit_ParseTag.f at h; have H := h; clear h; obtain ⟨⟨t103, t104, t105⟩, A2, H⟩ := bx_ H; dsimp only at H; obtain ⟨⟨t107, t108, t109⟩, A3, H⟩ := bx_ H; dsimp only at H; obtain ⟨t110, A4, H⟩ := bx_ H; have HC5 := Aside0.mk H; clear H; go_enter func23, ntmps23; go_upto_if 18 with (first | ((with_reducible refine gate_dst (N := 2) rfl ?_); refine be_ (cs := #[.string ⟨#[]⟩, .int .i64 0, .string ⟨#[]⟩, .string ⟨#[]⟩, .string ⟨#[]⟩, .int .i64 0, .int .i64 0, .string ⟨#[]⟩]) (t := 37) ?_; intro gb101 hg w6 hbox hb; have BK101 := Aside0.mk (hbox); have GW101 := ag_ hg HB; have GE101 := ag_ hg HB; replace HB := ah_ HB hb; clear hb hbox hg) | ((with_reducible refine gate_dst (N := 8) rfl ?_); refine be_ (cs := #[.string a0, .int .i64 0]) (t := 87) ?_; intro gb102 hg w7 hbox hb; have BK102 := Aside0.mk (hbox); have GW102 := Aside0.mk ((by rw [hg]; exact (below_size (hs_)) : w.heap.size ≤ gb102)); have GE102 := Aside0.mk ((by rw [hg]; exact (below_size (hs_)) : w.heap.size ≤ gb102)); replace HB := Aside0.mk (below_step (hs_) hb); have NB101_102 := Aside0.mk (nl2_ hg BK101.out); have NB102_101 := Aside0.mk (ng2_ hg BK101.out); replace BK101 := ab_ BK101 hb; clear hb hbox hg) | ((with_reducible refine gate_callee (f := 70) rfl ?_); refine gl_ (some 10) func70 #[.pointer (some ⟨gb102, 0, none⟩), .string ⟨#[111, 98, 106, 101, 99, 116, 32]⟩] ?_; (with_reducible refine (commit_reader_id.calls k gb102 a0 0 ⟨#[111, 98, 106, 101, 99, 116, 32]⟩ t103 t104 t105 w _ ?side1 ?side2 ?side3 A2.out).mono ?_); (case side1 => exact (show IsS87 w _ gb102 a0 0 from ⟨(bk_ BK102.out), GE102.out⟩)); (case side2 => repeat (first | (with_reducible first | exact HB.out | apply below_alloc | apply pw_below_drewN | apply below_drew1 | refine below_set ?_ (IsS87.ge HI102.out) | refine below_set ?_ GE101.out) | exact HB.out)); (case side3 => exact hgv); rintro e w8 ⟨rfl, hi, hb, hk⟩; refine ⟨_, rfl, ?_⟩; replace BK101 := Aside0.mk (KeepBut.blk hk (g' := gb101) (o := .cells #[.string ⟨#[]⟩, .int .i64 0, .string ⟨#[]⟩, .string ⟨#[]⟩, .string ⟨#[]⟩, .int .i64 0, .int .i64 0, .string ⟨#[]⟩] 37 (0, 0)) (bk_ BK101.out) NB101_102.out (by simp)); replace HB := Aside0.mk (hb); replace BK102 := Aside0.mk (hi.1); (try clear hb); (try clear hb2); (try clear hk); (try clear hi)) | ((with_reducible refine gate_dst (N := 5) rfl ?_); refine be_ (cs := #[.string ⟨#[]⟩, .int .i64 0, .string ⟨#[]⟩, .string ⟨#[]⟩, .string ⟨#[]⟩, .int .i64 0, .int .i64 0, .string ⟨#[]⟩]) (t := 37) ?_; intro gb106 hg w9 hbox hb; have BK106 := Aside0.mk (hbox); have GW106 := Aside0.mk ((by rw [hg]; exact (below_size (hs_)) : w.heap.size ≤ gb106)); have GE106 := Aside0.mk ((by rw [hg]; exact (below_size (hs_)) : w.heap.size ≤ gb106)); replace HB := Aside0.mk (below_step (hs_) hb); have NB101_106 := Aside0.mk (nl2_ hg BK101.out); have NB106_101 := Aside0.mk (ng2_ hg BK101.out); replace BK101 := ab_ BK101 hb; have NB102_106 := Aside0.mk (nl2_ hg BK102.out); have NB106_102 := Aside0.mk (ng2_ hg BK102.out); replace BK102 := ab_ BK102 hb; clear hb hbox hg; have hnb10 := NB106_101.out; have hnc10 := NB101_106.out; have hnb11 := NB106_102.out; have hnc11 := NB102_106.out; obtain ⟨Z12_0, Z12_1, Z12_2, Z12_3, Z12_4, Z12_5, Z12_6, Z12_7, F12⟩ := bc8 BK106.out) | ((with_reducible refine gate_callee (f := 73) rfl ?_); refine gl_ (some 13) func73 #[.pointer (some ⟨gb102, 0, none⟩), .string ⟨#[116, 121, 112, 101, 32]⟩] ?_; (with_reducible refine (commit_reader_line.calls gb102 t104 t105 ⟨#[116, 121, 112, 101, 32]⟩ t107 t108 t109 w _ ?side1 ?side2 ?side3 A3.out).mono ?_); (case side1 => exact (show IsS87 w _ gb102 t104 t105 from ⟨(by have b_ := BK102; have f_ := NB102_106; exact zb_), GE102.out⟩)); (case side2 => repeat (first | (with_reducible first | exact HB.out | apply below_alloc | apply pw_below_drewN | apply below_drew1 | refine below_set ?_ (IsS87.ge HI102.out) | refine below_set ?_ GE101.out | refine below_set ?_ GE106.out) | exact HB.out)); (case side3 => exact hgv); rintro e w13 ⟨rfl, hi, hb, hk⟩; refine ⟨_, rfl, ?_⟩; replace BK101 := Aside0.mk (KeepBut.blk hk (g' := gb101) (o := .cells #[.string ⟨#[]⟩, .int .i64 0, .string ⟨#[]⟩, .string ⟨#[]⟩, .string ⟨#[]⟩, .int .i64 0, .int .i64 0, .string ⟨#[]⟩] 37 (0, 0)) (by have b_ := BK101; have f_ := NB101_106; exact zb_) NB101_102.out (by simp)); replace BK106 := Aside0.mk (KeepBut.blk hk (g' := gb106) (o := .cells #[.string t103, .int .i64 0, .string ⟨#[]⟩, .string ⟨#[]⟩, .string ⟨#[]⟩, .int .i64 0, .int .i64 0, .string ⟨#[]⟩] 37 (0, 0)) (by have b_ := BK106; exact zb_) NB106_102.out (by simp)); replace HB := Aside0.mk (hb); replace BK102 := Aside0.mk (hi.1); (try clear hb); (try clear hb2); (try clear hk); (try clear hi)) | ((with_reducible refine gate_callee (f := 77) rfl ?_); refine gl_ (some 14) func77 #[.string t107] ?_; refine cm_ (object_Kind.calls t107 t110 _ A4.out) fun w14 hb => ?_; replace BK101 := ab_ BK101 hb; replace BK102 := ab_ BK102 hb; replace BK106 := ab_ BK106 hb; replace HB := Aside0.mk (below_step (hs_) hb); (try clear hb); (try clear hb2); (try clear hk); (try clear hi); obtain ⟨Z15_0, Z15_1, Z15_2, Z15_3, Z15_4, Z15_5, Z15_6, Z15_7, F15⟩ := bc8 BK106.out))
 (try simp only [Act.put, List.setIfInBounds_toArray, List.set_cons_zero, List.set_cons_succ])
 go_cut [] (fun wc => ∃ (kq : Nat) (x103000_4 : ByteArray) (x103001_4 : Int), Aside0 (commit_ParseTag.j0 kq x103000_4 x103001_4 t103 t110 ⟨#[]⟩ ⟨#[]⟩ ⟨#[]⟩ 0 0 ⟨#[]⟩ = some (r1, r2, r3, r4, r5, r6, r7, r8, r9)) ∧ Aside0 (kq ≤ k) ∧ Aside0 (wc.heap[gb101]? = some (.cells #[.string ⟨#[]⟩, .int .i64 0, .string ⟨#[]⟩, .string ⟨#[]⟩, .string ⟨#[]⟩, .int .i64 0, .int .i64 0, .string ⟨#[]⟩] 37 (0, 0))) ∧ Aside0 (wc.heap[gb102]? = some (.cells #[.string x103000_4, .int .i64 x103001_4] 87 (0, 0))) ∧ Aside0 (wc.heap[gb106]? = some (.cells #[.string t103, .int .i64 t110, .string ⟨#[]⟩, .string ⟨#[]⟩, .string ⟨#[]⟩, .int .i64 0, .int .i64 0, .string ⟨#[]⟩] 37 (0, 0))) ∧ Aside0 (Below w.heap.size w wc))
 case first =>
  have H := HC5.out; clear HC5; by_cases c16 : t110 = 0; rotate_left
  ·rw [if_neg c16] at H; have c16b0 := ef_ c16; have c16b1 := nt_ c16; (first | rw [c16b0] | (simp only [i64_w, i32_w]; rw [c16b0]) | skip); (try rw [c16b8])
   have H' := Aside0.mk H; clear H; go_wp2
   go_meet
   case rel => exact ⟨_, (t108), (t109), H', ⟨z4_⟩, ⟨by have b_ := BK101; have f_ := NB101_106; exact zb_⟩, ⟨by have b_ := BK102; have f_ := NB102_106; exact zb_⟩, ⟨by have b_ := BK106; exact zb_⟩, ⟨hs_⟩⟩
  rw [if_pos c16] at H; have c16b0 := et_ c16; have c16b1 := nf_ c16; clear c16; (first | rw [c16b0] | (simp only [i64_w, i32_w]; rw [c16b0]) | skip); (try rw [c16b8])
  obtain ⟨⟨t111, t112⟩, A17, H⟩ := bx_ H; dsimp only at H; have H' := Aside0.mk H; clear H; go_wp2_with (first | ((with_reducible refine gate_callee (f := 74) rfl ?_); refine gl_ (some 20) func74 #[.pointer (some ⟨gb102, 0, none⟩), .int .i64 2] ?_; (with_reducible refine (commit_reader_fail.calls gb102 t108 t109 2 t111 t112 w _ ?side1 ?side2 A17.out).mono ?_); (case side1 => exact (show IsS87 w _ gb102 t108 t109 from ⟨(by have b_ := BK102; have f_ := NB102_106; exact zb_), GE102.out⟩)); (case side2 => repeat (first | (with_reducible first | exact HB.out | apply below_alloc | apply pw_below_drewN | apply below_drew1 | refine below_set ?_ (IsS87.ge HI102.out) | refine below_set ?_ GE101.out | refine below_set ?_ GE106.out) | exact HB.out)); rintro e w18 ⟨rfl, hi, hb, hk⟩; refine ⟨_, rfl, ?_⟩; replace BK101 := Aside0.mk (KeepBut.blk hk (g' := gb101) (o := .cells #[.string ⟨#[]⟩, .int .i64 0, .string ⟨#[]⟩, .string ⟨#[]⟩, .string ⟨#[]⟩, .int .i64 0, .int .i64 0, .string ⟨#[]⟩] 37 (0, 0)) (by have b_ := BK101; have f_ := NB101_106; exact zb_) NB101_102.out (by simp)); replace BK106 := Aside0.mk (KeepBut.blk hk (g' := gb106) (o := .cells #[.string t103, .int .i64 t110, .string ⟨#[]⟩, .string ⟨#[]⟩, .string ⟨#[]⟩, .int .i64 0, .int .i64 0, .string ⟨#[]⟩] 37 (0, 0)) (by have b_ := BK106; exact zb_) NB106_102.out (by simp)); replace HB := Aside0.mk (hb); replace BK102 := Aside0.mk (hi.1); (try clear hb); (try clear hb2); (try clear hk); (try clear hi)))
  go_meet
  case rel => exact ⟨_, (t111), (t112), H', ⟨z4_⟩, ⟨bk_ BK101.out⟩, ⟨bk_ BK102.out⟩, ⟨bk_ BK106.out⟩, ⟨hs_⟩⟩
 case rest =>
  clear HC5; try clear c1
  try clear c2
  try clear p2
  try clear c7
  try clear c10
  try clear c11
  try clear c16
  try clear c16b0
  try clear c16b1
  try clear Z12_0 Z12_1 Z12_2 Z12_3 Z12_4 Z12_5 Z12_6 Z12_7
  try clear Z15_0 Z15_1 Z15_2 Z15_3 Z15_4 Z15_5 Z15_6 Z15_7
  try clear F12
  try clear F15
  obtain ⟨kq, x103000_4, x103001_4, HA, HJ4, BK101, BK102, BK106, HB⟩ := hcut
  cases kq with
  | zero => exact absurd HA.out (by simp [commit_ParseTag.j0])
  | succ kj4 =>
   have H := HA.out; clear HA; simp only [commit_ParseTag.j0] at H; obtain ⟨⟨t113, t114, t115⟩, A19, H⟩ := bx_ H; dsimp only at H; obtain ⟨⟨t116, t117, t118, t119, t120, t121⟩, A20, H⟩ := bx_ H; dsimp only at H; obtain ⟨⟨t122, t123, t124⟩, A21, H⟩ := bx_ H; dsimp only at H; have HC22 := Aside0.mk H; clear H; go_upto_if 29 with (first | ((with_reducible refine gate_callee (f := 73) rfl ?_); refine gl_ (some 22) func73 #[.pointer (some ⟨gb102, 0, none⟩), .string ⟨#[116, 97, 103, 32]⟩] ?_; (with_reducible refine (commit_reader_line.calls gb102 x103000_4 x103001_4 ⟨#[116, 97, 103, 32]⟩ t113 t114 t115 w _ ?side1 ?side2 ?side3 A19.out).mono ?_); (case side1 => exact (show IsS87 w _ gb102 x103000_4 x103001_4 from ⟨(bk_ BK102.out), GE102.out⟩)); (case side2 => repeat (first | (with_reducible first | exact HB.out | apply below_alloc | apply pw_below_drewN | apply below_drew1 | refine below_set ?_ (IsS87.ge HI102.out) | refine below_set ?_ GE101.out | refine below_set ?_ GE106.out) | exact HB.out)); (case side3 => exact hgv); rintro e w23 ⟨rfl, hi, hb, hk⟩; refine ⟨_, rfl, ?_⟩; replace BK101 := Aside0.mk (KeepBut.blk hk (g' := gb101) (o := .cells #[.string ⟨#[]⟩, .int .i64 0, .string ⟨#[]⟩, .string ⟨#[]⟩, .string ⟨#[]⟩, .int .i64 0, .int .i64 0, .string ⟨#[]⟩] 37 (0, 0)) (bk_ BK101.out) NB101_102.out (by simp)); replace BK106 := Aside0.mk (KeepBut.blk hk (g' := gb106) (o := .cells #[.string t103, .int .i64 t110, .string ⟨#[]⟩, .string ⟨#[]⟩, .string ⟨#[]⟩, .int .i64 0, .int .i64 0, .string ⟨#[]⟩] 37 (0, 0)) (bk_ BK106.out) NB106_102.out (by simp)); replace HB := Aside0.mk (hb); replace BK102 := Aside0.mk (hi.1); (try clear hb); (try clear hb2); (try clear hk); (try clear hi); have hnb24 := NB106_101.out; have hnc24 := NB101_106.out; have hnb25 := NB106_102.out; have hnc25 := NB102_106.out; obtain ⟨Z26_0, Z26_1, Z26_2, Z26_3, Z26_4, Z26_5, Z26_6, Z26_7, F26⟩ := bc8 BK106.out) | ((with_reducible refine gate_callee (f := 72) rfl ?_); refine gl_ (some 25) func72 #[.pointer (some ⟨gb102, 0, none⟩), .string ⟨#[116, 97, 103, 103, 101, 114, 32]⟩] ?_; (with_reducible refine (commit_reader_who.calls kj4 gb102 t114 t115 ⟨#[116, 97, 103, 103, 101, 114, 32]⟩ t116 t117 t118 t119 t120 t121 w _ ?side1 ?side2 ?side3 A20.out).mono ?_); (case side1 => exact (show IsS87 w _ gb102 t114 t115 from ⟨(by have b_ := BK102; have f_ := NB102_106; exact zb_), GE102.out⟩)); (case side2 => repeat (first | (with_reducible first | exact HB.out | apply below_alloc | apply pw_below_drewN | apply below_drew1 | refine below_set ?_ (IsS87.ge HI102.out) | refine below_set ?_ GE101.out | refine below_set ?_ GE106.out) | exact HB.out)); (case side3 => exact hgv); rintro e w27 ⟨rfl, hi, hb, hk⟩; refine ⟨_, rfl, ?_⟩; replace BK101 := Aside0.mk (KeepBut.blk hk (g' := gb101) (o := .cells #[.string ⟨#[]⟩, .int .i64 0, .string ⟨#[]⟩, .string ⟨#[]⟩, .string ⟨#[]⟩, .int .i64 0, .int .i64 0, .string ⟨#[]⟩] 37 (0, 0)) (by have b_ := BK101; have f_ := NB101_106; exact zb_) NB101_102.out (by simp)); replace BK106 := Aside0.mk (KeepBut.blk hk (g' := gb106) (o := .cells #[.string t103, .int .i64 t110, .string t113, .string ⟨#[]⟩, .string ⟨#[]⟩, .int .i64 0, .int .i64 0, .string ⟨#[]⟩] 37 (0, 0)) (by have b_ := BK106; exact zb_) NB106_102.out (by simp)); replace HB := Aside0.mk (hb); replace BK102 := Aside0.mk (hi.1); (try clear hb); (try clear hb2); (try clear hk); (try clear hi); obtain ⟨Z28_0, Z28_1, Z28_2, Z28_3, Z28_4, Z28_5, Z28_6, Z28_7, F28⟩ := bc8 BK106.out) | ((with_reducible refine gate_callee (f := 73) rfl ?_); refine gl_ (some 28) func73 #[.pointer (some ⟨gb102, 0, none⟩), .string ⟨#[]⟩] ?_; (with_reducible refine (commit_reader_line.calls gb102 t120 t121 ⟨#[]⟩ t122 t123 t124 w _ ?side1 ?side2 ?side3 A21.out).mono ?_); (case side1 => exact (show IsS87 w _ gb102 t120 t121 from ⟨(by have b_ := BK102; have f_ := NB102_106; exact zb_), GE102.out⟩)); (case side2 => repeat (first | (with_reducible first | exact HB.out | apply below_alloc | apply pw_below_drewN | apply below_drew1 | refine below_set ?_ (IsS87.ge HI102.out) | refine below_set ?_ GE101.out | refine below_set ?_ GE106.out) | exact HB.out)); (case side3 => exact hgv); rintro e w29 ⟨rfl, hi, hb, hk⟩; refine ⟨_, rfl, ?_⟩; replace BK101 := Aside0.mk (KeepBut.blk hk (g' := gb101) (o := .cells #[.string ⟨#[]⟩, .int .i64 0, .string ⟨#[]⟩, .string ⟨#[]⟩, .string ⟨#[]⟩, .int .i64 0, .int .i64 0, .string ⟨#[]⟩] 37 (0, 0)) (by have b_ := BK101; have f_ := NB101_106; exact zb_) NB101_102.out (by simp)); replace BK106 := Aside0.mk (KeepBut.blk hk (g' := gb106) (o := .cells #[.string t103, .int .i64 t110, .string t113, .string t116, .string t117, .int .i64 t118, .int .i64 t119, .string ⟨#[]⟩] 37 (0, 0)) (by have b_ := BK106; exact zb_) NB106_102.out (by simp)); replace HB := Aside0.mk (hb); replace BK102 := Aside0.mk (hi.1); (try clear hb); (try clear hb2); (try clear hk); (try clear hi)))
   (try simp only [Act.put, List.setIfInBounds_toArray, List.set_cons_zero, List.set_cons_succ])
   go_cut [] (fun wc => ∃ (kq : Nat) (x103000_21 : ByteArray) (x103001_21 : Int), Aside0 (commit_ParseTag.j1 kq x103000_21 x103001_21 t103 t110 t113 t116 t117 t118 t119 ⟨#[]⟩ = some (r1, r2, r3, r4, r5, r6, r7, r8, r9)) ∧ Aside0 (kq ≤ kj4) ∧ Aside0 (wc.heap[gb101]? = some (.cells #[.string ⟨#[]⟩, .int .i64 0, .string ⟨#[]⟩, .string ⟨#[]⟩, .string ⟨#[]⟩, .int .i64 0, .int .i64 0, .string ⟨#[]⟩] 37 (0, 0))) ∧ Aside0 (wc.heap[gb102]? = some (.cells #[.string x103000_21, .int .i64 x103001_21] 87 (0, 0))) ∧ Aside0 (wc.heap[gb106]? = some (.cells #[.string t103, .int .i64 t110, .string t113, .string t116, .string t117, .int .i64 t118, .int .i64 t119, .string ⟨#[]⟩] 37 (0, 0))) ∧ Aside0 (Below w.heap.size w wc))
   case first =>
    have H := HC22.out; clear HC22; by_cases c30 : t122.toList = ([] : List UInt8)
    ·rw [if_pos c30] at H; have c30b0 := et_ c30; have c30b1 := nf_ c30; (try (have c30b8 : (!t122.toList.isEmpty) = false := (by have h_ := c30b1; rw [ne_nil_bool] at h_; exact h_))); (try (have c30b9 : t122.toList.isEmpty = true := (by have h_ := c30b1; rw [ne_nil_bool] at h_; simpa using h_)))
     clear c30; (first | rw [c30b0] | (simp only [i64_w, i32_w]; rw [c30b0]) | skip); (try rw [c30b8])
     have H' := Aside0.mk H; clear H; go_wp2
     go_meet
     case rel => exact ⟨_, (t123), (t124), H', ⟨by have := HJ4.out; first | omega | exact Nat.le_refl _⟩, ⟨bk_ BK101.out⟩, ⟨bk_ BK102.out⟩, ⟨bk_ BK106.out⟩, ⟨hs_⟩⟩
    rw [if_neg c30] at H; have c30b0 := ef_ c30; have c30b1 := nt_ c30; (try (have c30b8 : (!t122.toList.isEmpty) = true := (by have h_ := c30b1; rw [ne_nil_bool] at h_; exact h_))); (try (have c30b9 : t122.toList.isEmpty = false := (by have h_ := c30b1; rw [ne_nil_bool] at h_; simpa using h_)))
    (first | rw [c30b0] | (simp only [i64_w, i32_w]; rw [c30b0]) | skip)
    (try rw [c30b8])
    obtain ⟨⟨t125, t126⟩, A31, H⟩ := bx_ H; dsimp only at H; have H' := Aside0.mk H; clear H; go_wp2_with (first | ((with_reducible refine gate_callee (f := 74) rfl ?_); refine gl_ (some 31) func74 #[.pointer (some ⟨gb102, 0, none⟩), .int .i64 2] ?_; (with_reducible refine (commit_reader_fail.calls gb102 t123 t124 2 t125 t126 w _ ?side1 ?side2 A31.out).mono ?_); (case side1 => exact (show IsS87 w _ gb102 t123 t124 from ⟨(bk_ BK102.out), GE102.out⟩)); (case side2 => repeat (first | (with_reducible first | exact HB.out | apply below_alloc | apply pw_below_drewN | apply below_drew1 | refine below_set ?_ (IsS87.ge HI102.out) | refine below_set ?_ GE101.out | refine below_set ?_ GE106.out) | exact HB.out)); rintro e w32 ⟨rfl, hi, hb, hk⟩; refine ⟨_, rfl, ?_⟩; replace BK101 := Aside0.mk (KeepBut.blk hk (g' := gb101) (o := .cells #[.string ⟨#[]⟩, .int .i64 0, .string ⟨#[]⟩, .string ⟨#[]⟩, .string ⟨#[]⟩, .int .i64 0, .int .i64 0, .string ⟨#[]⟩] 37 (0, 0)) (bk_ BK101.out) NB101_102.out (by simp)); replace BK106 := Aside0.mk (KeepBut.blk hk (g' := gb106) (o := .cells #[.string t103, .int .i64 t110, .string t113, .string t116, .string t117, .int .i64 t118, .int .i64 t119, .string ⟨#[]⟩] 37 (0, 0)) (bk_ BK106.out) NB106_102.out (by simp)); replace HB := Aside0.mk (hb); replace BK102 := Aside0.mk (hi.1); (try clear hb); (try clear hb2); (try clear hk); (try clear hi)))
    go_meet
    case rel => exact ⟨_, (t125), (t126), H', ⟨by have := HJ4.out; first | omega | exact Nat.le_refl _⟩, ⟨bk_ BK101.out⟩, ⟨bk_ BK102.out⟩, ⟨bk_ BK106.out⟩, ⟨hs_⟩⟩
   case rest =>
    clear HC22; try clear c1
    try clear c2
    try clear p2
    try clear c3
    try clear c7
    try clear c10
    try clear c11
    try clear c16
    try clear c16b0
    try clear c16b1
    try clear c23
    try clear c24
    try clear c25
    try clear c30
    try clear c30b0
    try clear c30b1
    try clear Z12_0 Z12_1 Z12_2 Z12_3 Z12_4 Z12_5 Z12_6 Z12_7
    try clear Z15_0 Z15_1 Z15_2 Z15_3 Z15_4 Z15_5 Z15_6 Z15_7
    try clear Z26_0 Z26_1 Z26_2 Z26_3 Z26_4 Z26_5 Z26_6 Z26_7
    try clear Z28_0 Z28_1 Z28_2 Z28_3 Z28_4 Z28_5 Z28_6 Z28_7
    try clear F12
    try clear F15
    try clear F26
    try clear F28
    try clear p2
    obtain ⟨kq, x103000_21, x103001_21, HA, HJ21, BK101, BK102, BK106, HB⟩ := hcut
    cases kq with
    | zero => exact absurd HA.out (by simp [commit_ParseTag.j1])
    | succ kj21 =>
     have H := HA.out; clear HA; simp only [commit_ParseTag.j1] at H; by_cases c33 : x103001_21 = 0; rotate_left
     ·rw [if_neg c33] at H; have c33b0 := ef_ c33; have c33b1 := nt_ c33; obtain ⟨rfl, rfl, rfl, rfl, rfl, rfl, rfl, rfl, rfl⟩ := pj9_ H; have hnb62 := NB102_101.out; have hnc62 := NB101_102.out; have hnb63 := NB102_106.out; have hnc63 := NB106_102.out; obtain ⟨Z64_0, Z64_1, F64⟩ := bc2 BK102.out; have hnb65 := NB106_101.out; have hnc65 := NB101_106.out; obtain ⟨Z66_0, Z66_1, Z66_2, Z66_3, Z66_4, Z66_5, Z66_6, Z66_7, F66⟩ := bc8 BK106.out; try go_wp2
      have n0_ : Aside0 ((wc.setCell ⟨gb106, 7, none⟩ (.string x103000_21)).heap[gb101]? = some (.cells #[.string ⟨#[]⟩, .int .i64 0, .string ⟨#[]⟩, .string ⟨#[]⟩, .string ⟨#[]⟩, .int .i64 0, .int .i64 0, .string ⟨#[]⟩] 37 (0, 0))) := ⟨by have b_ := BK101; have f_ := NB101_106; exact zb_⟩; have n1_ : Aside0 ((wc.setCell ⟨gb106, 7, none⟩ (.string x103000_21)).heap[gb102]? = some (.cells #[.string x103000_21, .int .i64 x103001_21] 87 (0, 0))) := ⟨by have b_ := BK102; have f_ := NB102_106; exact zb_⟩; have n2_ : Aside0 ((wc.setCell ⟨gb106, 7, none⟩ (.string x103000_21)).heap[gb106]? = some (.cells #[.string t103, .int .i64 t110, .string t113, .string t116, .string t117, .int .i64 t118, .int .i64 t119, .string x103000_21] 37 (0, 0))) := ⟨by have b_ := BK106; exact zb_⟩; have n3_ : Aside0 (Below w.heap.size w (wc.setCell ⟨gb106, 7, none⟩ (.string x103000_21))) := ⟨hs_⟩; (try clear BK101)
      (try clear BK102)
      (try clear BK106)
      (try clear HB)
      generalize (wc.setCell ⟨gb106, 7, none⟩ (.string x103000_21)) = w67 at n0_ n1_ n2_ n3_ ⊢; have BK101 := n0_; have BK102 := n1_; have BK106 := n2_; have HB := n3_; clear n0_ n1_ n2_ n3_; replace BK101 := ad_ BK101; replace BK102 := ad_ BK102; replace BK106 := ad_ BK106; replace HB := hd_ HB; refine start_ (n := 7) (S := fun w' => w'.cell? ⟨gb102, 0, none⟩ = some (.string x103000_21) ∧ w'.cell? ⟨gb102, 1, none⟩ = some (.int .i64 x103001_21)) (ds := []) (bs 7 0) (by kernel_rfl) rfl rfl (bc2o BK102.out) (fun hHeld => ?_); generalize w67.drew = w68 at BK101 BK102 BK106 HB hHeld ⊢; refine pkn_ 0 52 7 1 ?_; refine pkn_ 1 53 7 3 ?_; refine pkn_ 2 54 7 7 ?_; refine pkn_ 3 55 7 15 ?_; refine tkK2n_ 4 56 7 31 hHeld ?_; refine one_ (i := 5) (N := none) (bs 7 63) rfl rfl (by kernel_rfl) (by decide) (fun K hK => ?_); have hs69 : w68.cell? ⟨gb101, 0, none⟩ = some (.string ⟨#[]⟩) := (blk_cell BK101.out 0).trans rfl; have hfs69 := blk_frozen BK101.out 0; have hns69_1 := NB102_101.out; have hns69_2 := NB106_101.out; have hms69_1 := NB101_102.out; have hms69_2 := NB101_106.out; have hs70 : w68.cell? ⟨gb101, 1, none⟩ = some (.int .i64 0) := (blk_cell BK101.out 1).trans rfl; have hfs70 := blk_frozen BK101.out 1; have hns70_1 := NB102_101.out; have hns70_2 := NB106_101.out; have hms70_1 := NB101_102.out; have hms70_2 := NB101_106.out; have hs71 : w68.cell? ⟨gb101, 2, none⟩ = some (.string ⟨#[]⟩) := (blk_cell BK101.out 2).trans rfl; have hfs71 := blk_frozen BK101.out 2; have hns71_1 := NB102_101.out; have hns71_2 := NB106_101.out; have hms71_1 := NB101_102.out; have hms71_2 := NB101_106.out; have hs72 : w68.cell? ⟨gb101, 3, none⟩ = some (.string ⟨#[]⟩) := (blk_cell BK101.out 3).trans rfl; have hfs72 := blk_frozen BK101.out 3; have hns72_1 := NB102_101.out; have hns72_2 := NB106_101.out; have hms72_1 := NB101_102.out; have hms72_2 := NB101_106.out; have hs73 : w68.cell? ⟨gb101, 4, none⟩ = some (.string ⟨#[]⟩) := (blk_cell BK101.out 4).trans rfl; have hfs73 := blk_frozen BK101.out 4; have hns73_1 := NB102_101.out; have hns73_2 := NB106_101.out; have hms73_1 := NB101_102.out; have hms73_2 := NB101_106.out; have hs74 : w68.cell? ⟨gb101, 5, none⟩ = some (.int .i64 0) := (blk_cell BK101.out 5).trans rfl; have hfs74 := blk_frozen BK101.out 5; have hns74_1 := NB102_101.out; have hns74_2 := NB106_101.out; have hms74_1 := NB101_102.out; have hms74_2 := NB101_106.out; have hs75 : w68.cell? ⟨gb101, 6, none⟩ = some (.int .i64 0) := (blk_cell BK101.out 6).trans rfl; have hfs75 := blk_frozen BK101.out 6; have hns75_1 := NB102_101.out; have hns75_2 := NB106_101.out; have hms75_1 := NB101_102.out; have hms75_2 := NB101_106.out; have hs76 : w68.cell? ⟨gb101, 7, none⟩ = some (.string ⟨#[]⟩) := (blk_cell BK101.out 7).trans rfl; have hfs76 := blk_frozen BK101.out 7; have hns76_1 := NB102_101.out; have hns76_2 := NB106_101.out; have hms76_1 := NB101_102.out; have hms76_2 := NB101_106.out; refine skip_ (w1 := ?_) (by rfl) rfl ?_ ?_; rotate_left
      ·go_simp
       rfl
      refine hK.out _ _ ⟨((cell_far (p := ⟨gb101, _, none⟩) NB102_101.out _).trans (((cell_far (p := ⟨gb101, _, none⟩) NB102_101.out _).trans (((cell_far (p := ⟨gb101, _, none⟩) NB102_101.out _).trans (((cell_far (p := ⟨gb101, _, none⟩) NB102_101.out _).trans (((cell_far (p := ⟨gb101, _, none⟩) NB102_101.out _).trans (((cell_far (p := ⟨gb101, _, none⟩) NB102_101.out _).trans (((cell_far (p := ⟨gb101, _, none⟩) NB102_101.out _).trans (((cell_far (p := ⟨gb101, _, none⟩) NB102_101.out _).trans (hHeld.1)))))))))))))))), ((cell_far (p := ⟨gb101, _, none⟩) NB102_101.out _).trans (((cell_far (p := ⟨gb101, _, none⟩) NB102_101.out _).trans (((cell_far (p := ⟨gb101, _, none⟩) NB102_101.out _).trans (((cell_far (p := ⟨gb101, _, none⟩) NB102_101.out _).trans (((cell_far (p := ⟨gb101, _, none⟩) NB102_101.out _).trans (((cell_far (p := ⟨gb101, _, none⟩) NB102_101.out _).trans (((cell_far (p := ⟨gb101, _, none⟩) NB102_101.out _).trans (((cell_far (p := ⟨gb101, _, none⟩) NB102_101.out _).trans (hHeld.2))))))))))))))))⟩ (fun hHeld => ?_); clear hK K; refine pkn_ 6 3 7 127 ?_; refine done_ (by kernel_rfl) ?_; try go_wp2
      refine bodyPost_ret (results_ct rfl _ _ gb101 37 #[.string ⟨#[]⟩, .int .i64 0, .string ⟨#[]⟩, .string ⟨#[]⟩, .string ⟨#[]⟩, .int .i64 0, .int .i64 0, .string ⟨#[]⟩] (0, 0) _ rfl (by have b_ := BK101; exact zb_) underlying37 rfl (by kernel_rfl)) rfl ?_; exact ⟨z3_, hs_⟩
     rw [if_pos c33] at H; have c33b0 := et_ c33; have c33b1 := nf_ c33; clear c33; obtain ⟨t127, A34, H⟩ := bx_ H; by_cases c35 : t127 = 0
     ·rw [if_pos c35] at H; have c35b0 := et_ c35; have c35b1 := nf_ c35; clear c35; obtain ⟨rfl, rfl, rfl, rfl, rfl, rfl, rfl, rfl, rfl⟩ := pj9_ H; have hnb36 := NB102_101.out; have hnc36 := NB101_102.out; have hnb37 := NB102_106.out; have hnc37 := NB106_102.out; obtain ⟨Z38_0, Z38_1, F38⟩ := bc2 BK102.out; have hnb39 := NB106_101.out; have hnc39 := NB101_106.out; obtain ⟨Z40_0, Z40_1, Z40_2, Z40_3, Z40_4, Z40_5, Z40_6, Z40_7, F40⟩ := bc8 BK106.out; go_wp2_with (first | ((with_reducible refine gate_callee (f := 27) rfl ?_); refine gl_ (some 44) func27 #[.agg #[.string t103, .int .i64 t110, .string t113, .string t116, .string t117, .int .i64 t118, .int .i64 t119, .string x103000_21]] ?_; (with_reducible refine (commit_CheckTag.calls kj21 t103 t110 t113 t116 t117 t118 t119 x103000_21 t127 _ ?side1 A34.out).mono ?_); (case side1 => exact GV.below hgv (hs_)); rintro e w41 ⟨rfl, hb⟩; refine ⟨_, rfl, ?_⟩; replace BK101 := Aside0.mk (blk_below (g := gb101) (o := .cells #[.string ⟨#[]⟩, .int .i64 0, .string ⟨#[]⟩, .string ⟨#[]⟩, .string ⟨#[]⟩, .int .i64 0, .int .i64 0, .string ⟨#[]⟩] 37 (0, 0)) (by have b_ := BK101; have f_ := NB101_106; exact zb_) hb); replace BK102 := Aside0.mk (blk_below (g := gb102) (o := .cells #[.string x103000_21, .int .i64 x103001_21] 87 (0, 0)) (by have b_ := BK102; have f_ := NB102_106; exact zb_) hb); replace BK106 := Aside0.mk (blk_below (g := gb106) (o := .cells #[.string t103, .int .i64 t110, .string t113, .string t116, .string t117, .int .i64 t118, .int .i64 t119, .string x103000_21] 37 (0, 0)) (by have b_ := BK106; exact zb_) hb); replace HB := Aside0.mk (below_step (hs_) hb); (try clear hb); (try clear hb2); (try clear hk); (try clear hi); obtain ⟨Z42_0, Z42_1, F42⟩ := bc2 BK102.out; obtain ⟨Z43_0, Z43_1, Z43_2, Z43_3, Z43_4, Z43_5, Z43_6, Z43_7, F43⟩ := bc8 BK106.out; obtain ⟨Z44_0, Z44_1, Z44_2, Z44_3, Z44_4, Z44_5, Z44_6, Z44_7, F44⟩ := bc8 BK101.out)); refine bodyPost_ret (results_ct rfl _ _ gb101 37 #[.string t103, .int .i64 t110, .string t113, .string t116, .string t117, .int .i64 t118, .int .i64 t119, .string x103000_21] (0, 0) _ rfl (by have b_ := BK101; have f_ := NB101_102; exact zb_) underlying37 rfl (by kernel_rfl)) rfl ?_; exact ⟨z3_, hs_⟩
     rw [if_neg c35] at H; have c35b0 := ef_ c35; have c35b1 := nt_ c35; obtain ⟨rfl, rfl, rfl, rfl, rfl, rfl, rfl, rfl, rfl⟩ := pj9_ H; have hnb45 := NB102_101.out; have hnc45 := NB101_102.out; have hnb46 := NB102_106.out; have hnc46 := NB106_102.out; obtain ⟨Z47_0, Z47_1, F47⟩ := bc2 BK102.out; have hnb48 := NB106_101.out; have hnc48 := NB101_106.out; obtain ⟨Z49_0, Z49_1, Z49_2, Z49_3, Z49_4, Z49_5, Z49_6, Z49_7, F49⟩ := bc8 BK106.out; try go_wp2_with (first | ((with_reducible refine gate_callee (f := 27) rfl ?_); refine gl_ (some 44) func27 #[.agg #[.string t103, .int .i64 t110, .string t113, .string t116, .string t117, .int .i64 t118, .int .i64 t119, .string x103000_21]] ?_; (with_reducible refine (commit_CheckTag.calls kj21 t103 t110 t113 t116 t117 t118 t119 x103000_21 t127 _ ?side1 A34.out).mono ?_); (case side1 => exact GV.below hgv (hs_)); rintro e w50 ⟨rfl, hb⟩; refine ⟨_, rfl, ?_⟩; replace BK101 := Aside0.mk (blk_below (g := gb101) (o := .cells #[.string ⟨#[]⟩, .int .i64 0, .string ⟨#[]⟩, .string ⟨#[]⟩, .string ⟨#[]⟩, .int .i64 0, .int .i64 0, .string ⟨#[]⟩] 37 (0, 0)) (by have b_ := BK101; have f_ := NB101_106; exact zb_) hb); replace BK102 := Aside0.mk (blk_below (g := gb102) (o := .cells #[.string x103000_21, .int .i64 x103001_21] 87 (0, 0)) (by have b_ := BK102; have f_ := NB102_106; exact zb_) hb); replace BK106 := Aside0.mk (blk_below (g := gb106) (o := .cells #[.string t103, .int .i64 t110, .string t113, .string t116, .string t117, .int .i64 t118, .int .i64 t119, .string x103000_21] 37 (0, 0)) (by have b_ := BK106; exact zb_) hb); replace HB := Aside0.mk (below_step (hs_) hb); (try clear hb); (try clear hb2); (try clear hk); (try clear hi); obtain ⟨Z51_0, Z51_1, F51⟩ := bc2 BK102.out)); have n0_ : Aside0 ((w50.setCell ⟨gb102, 1, none⟩ (.int .i64 t127)).heap[gb101]? = some (.cells #[.string ⟨#[]⟩, .int .i64 0, .string ⟨#[]⟩, .string ⟨#[]⟩, .string ⟨#[]⟩, .int .i64 0, .int .i64 0, .string ⟨#[]⟩] 37 (0, 0))) := ⟨by have b_ := BK101; have f_ := NB101_102; exact zb_⟩; have n1_ : Aside0 ((w50.setCell ⟨gb102, 1, none⟩ (.int .i64 t127)).heap[gb102]? = some (.cells #[.string x103000_21, .int .i64 t127] 87 (0, 0))) := ⟨by have b_ := BK102; exact zb_⟩; have n2_ : Aside0 ((w50.setCell ⟨gb102, 1, none⟩ (.int .i64 t127)).heap[gb106]? = some (.cells #[.string t103, .int .i64 t110, .string t113, .string t116, .string t117, .int .i64 t118, .int .i64 t119, .string x103000_21] 37 (0, 0))) := ⟨by have b_ := BK106; have f_ := NB106_102; exact zb_⟩; have n3_ : Aside0 (Below w.heap.size w (w50.setCell ⟨gb102, 1, none⟩ (.int .i64 t127))) := ⟨hs_⟩; (try clear BK101)
     (try clear BK102)
     (try clear BK106)
     (try clear HB)
     generalize (w50.setCell ⟨gb102, 1, none⟩ (.int .i64 t127)) = w52 at n0_ n1_ n2_ n3_ ⊢; have BK101 := n0_; have BK102 := n1_; have BK106 := n2_; have HB := n3_; clear n0_ n1_ n2_ n3_; replace BK101 := ad_ BK101; replace BK102 := ad_ BK102; replace BK106 := ad_ BK106; replace HB := hd_ HB; refine start_ (n := 7) (S := fun w' => w'.cell? ⟨gb102, 0, none⟩ = some (.string x103000_21) ∧ w'.cell? ⟨gb102, 1, none⟩ = some (.int .i64 t127)) (ds := []) (bs 7 0) (by kernel_rfl) rfl rfl (bc2o BK102.out) (fun hHeld => ?_); generalize w52.drew = w53 at BK101 BK102 BK106 HB hHeld ⊢; refine pkn_ 0 52 7 1 ?_; refine pkn_ 1 53 7 3 ?_; refine pkn_ 2 54 7 7 ?_; refine pkn_ 3 55 7 15 ?_; refine tkK2n_ 4 56 7 31 hHeld ?_; refine one_ (i := 5) (N := none) (bs 7 63) rfl rfl (by kernel_rfl) (by decide) (fun K hK => ?_); have hs54 : w53.cell? ⟨gb101, 0, none⟩ = some (.string ⟨#[]⟩) := (blk_cell BK101.out 0).trans rfl; have hfs54 := blk_frozen BK101.out 0; have hns54_1 := NB102_101.out; have hns54_2 := NB106_101.out; have hms54_1 := NB101_102.out; have hms54_2 := NB101_106.out; have hs55 : w53.cell? ⟨gb101, 1, none⟩ = some (.int .i64 0) := (blk_cell BK101.out 1).trans rfl; have hfs55 := blk_frozen BK101.out 1; have hns55_1 := NB102_101.out; have hns55_2 := NB106_101.out; have hms55_1 := NB101_102.out; have hms55_2 := NB101_106.out; have hs56 : w53.cell? ⟨gb101, 2, none⟩ = some (.string ⟨#[]⟩) := (blk_cell BK101.out 2).trans rfl; have hfs56 := blk_frozen BK101.out 2; have hns56_1 := NB102_101.out; have hns56_2 := NB106_101.out; have hms56_1 := NB101_102.out; have hms56_2 := NB101_106.out; have hs57 : w53.cell? ⟨gb101, 3, none⟩ = some (.string ⟨#[]⟩) := (blk_cell BK101.out 3).trans rfl; have hfs57 := blk_frozen BK101.out 3; have hns57_1 := NB102_101.out; have hns57_2 := NB106_101.out; have hms57_1 := NB101_102.out; have hms57_2 := NB101_106.out; have hs58 : w53.cell? ⟨gb101, 4, none⟩ = some (.string ⟨#[]⟩) := (blk_cell BK101.out 4).trans rfl; have hfs58 := blk_frozen BK101.out 4; have hns58_1 := NB102_101.out; have hns58_2 := NB106_101.out; have hms58_1 := NB101_102.out; have hms58_2 := NB101_106.out; have hs59 : w53.cell? ⟨gb101, 5, none⟩ = some (.int .i64 0) := (blk_cell BK101.out 5).trans rfl; have hfs59 := blk_frozen BK101.out 5; have hns59_1 := NB102_101.out; have hns59_2 := NB106_101.out; have hms59_1 := NB101_102.out; have hms59_2 := NB101_106.out; have hs60 : w53.cell? ⟨gb101, 6, none⟩ = some (.int .i64 0) := (blk_cell BK101.out 6).trans rfl; have hfs60 := blk_frozen BK101.out 6; have hns60_1 := NB102_101.out; have hns60_2 := NB106_101.out; have hms60_1 := NB101_102.out; have hms60_2 := NB101_106.out; have hs61 : w53.cell? ⟨gb101, 7, none⟩ = some (.string ⟨#[]⟩) := (blk_cell BK101.out 7).trans rfl; have hfs61 := blk_frozen BK101.out 7; have hns61_1 := NB102_101.out; have hns61_2 := NB106_101.out; have hms61_1 := NB101_102.out; have hms61_2 := NB101_106.out; refine skip_ (w1 := ?_) (by rfl) rfl ?_ ?_; rotate_left
     ·go_simp
      rfl
     refine hK.out _ _ ⟨((cell_far (p := ⟨gb101, _, none⟩) NB102_101.out _).trans (((cell_far (p := ⟨gb101, _, none⟩) NB102_101.out _).trans (((cell_far (p := ⟨gb101, _, none⟩) NB102_101.out _).trans (((cell_far (p := ⟨gb101, _, none⟩) NB102_101.out _).trans (((cell_far (p := ⟨gb101, _, none⟩) NB102_101.out _).trans (((cell_far (p := ⟨gb101, _, none⟩) NB102_101.out _).trans (((cell_far (p := ⟨gb101, _, none⟩) NB102_101.out _).trans (((cell_far (p := ⟨gb101, _, none⟩) NB102_101.out _).trans (hHeld.1)))))))))))))))), ((cell_far (p := ⟨gb101, _, none⟩) NB102_101.out _).trans (((cell_far (p := ⟨gb101, _, none⟩) NB102_101.out _).trans (((cell_far (p := ⟨gb101, _, none⟩) NB102_101.out _).trans (((cell_far (p := ⟨gb101, _, none⟩) NB102_101.out _).trans (((cell_far (p := ⟨gb101, _, none⟩) NB102_101.out _).trans (((cell_far (p := ⟨gb101, _, none⟩) NB102_101.out _).trans (((cell_far (p := ⟨gb101, _, none⟩) NB102_101.out _).trans (((cell_far (p := ⟨gb101, _, none⟩) NB102_101.out _).trans (hHeld.2))))))))))))))))⟩ (fun hHeld => ?_); clear hK K; refine pkn_ 6 3 7 127 ?_; refine done_ (by kernel_rfl) ?_; try go_wp2
     refine bodyPost_ret (results_ct rfl _ _ gb101 37 #[.string ⟨#[]⟩, .int .i64 0, .string ⟨#[]⟩, .string ⟨#[]⟩, .string ⟨#[]⟩, .int .i64 0, .int .i64 0, .string ⟨#[]⟩] (0, 0) _ rfl (by have b_ := BK101; exact zb_) underlying37 rfl (by kernel_rfl)) rfl ?_; exact ⟨z3_, hs_⟩
def object_Bytes.f (a0_0 : Int) (a0_1 : ByteArray) : Option (ByteArray × Int) := (object_Word.f a0_0).bind fun t135 => (if t135.toList = ([] : List UInt8) then (some ((⟨#[]⟩ : ByteArray), 140)) else (if (a0_1.size : Int) > 1048576 then (some ((⟨#[]⟩ : ByteArray), 4)) else (if t135.size + 1 ≤ 9223372036854775807 then ((strconv_Itoa.f (a0_1.size : Int)).bind fun t136 => (if (t135 ++ (⟨#[32]⟩ : ByteArray)).size + t136.size ≤ 9223372036854775807 then (if ((t135 ++ (⟨#[32]⟩ : ByteArray)) ++ t136).size + 1 ≤ 9223372036854775807 then (if (((t135 ++ (⟨#[32]⟩ : ByteArray)) ++ t136) ++ (⟨#[0]⟩ : ByteArray)).size + a0_1.size ≤ 9223372036854775807 then (some ((((t135 ++ (⟨#[32]⟩ : ByteArray)) ++ t136) ++ (⟨#[0]⟩ : ByteArray)) ++ a0_1, 0)) else (none)) else (none)) else (none))) else (none))))
def object_Bytes.T6 : Bool × List (List Nat × List Nat) := (true, [([], []), ([0], [0]), ([], []), ([2], [2]), ([3], [3]), ([4], [4]), ([1, 5], [1, 5]), ([6], [6]), ([], []), ([8], [8]), ([7, 9], [7, 9]), ([10, 5, 0, 1, 2, 3, 4, 5, 6, 7, 8, 9, 10], [10]), ([11, 0, 1, 2, 3, 4, 5, 6, 7, 8, 9, 10, 11], [])])
def object_Bytes.B6 : List Nat := [0, 1, 0, 4, 12, 28, 63, 127, 0, 256, 1023, 2047, 4095]
theorem object_Bytes.tab6 : rtab .any (opsOf Tryz.f97 6) = object_Bytes.T6 := by kernel_rfl
theorem object_Bytes.bits6 : waitsOk object_Bytes.T6.2 object_Bytes.B6 = true := by kernel_rfl
theorem object_Bytes.calls (a0_0 : Int) (a0_1 : ByteArray) (r1 : ByteArray) (r2 : Int) (w : World) (hgv : GV w) (h : object_Bytes.f a0_0 a0_1 = some (r1, r2)) :
  Calls Tryz.prog 97 #[.agg #[.int .i64 a0_0, .string a0_1]] w fun e w' => e = .returned (.tuple #[.string r1, .int .i64 r2]) ∧ Below w.heap.size w w' := by
 have hu50 := underlying50; have HB := Aside0.mk (Below.refl w.heap.size w); unfold object_Bytes.f at h; have H := h; clear h; obtain ⟨t135, A2, H⟩ := bx_ H; by_cases c3 : t135.toList = ([] : List UInt8)
 ·rw [if_pos c3] at H; have c3b0 := et_ c3; have c3b1 := nf_ c3; clear c3; obtain ⟨rfl, rfl⟩ := pj2_ H; go_enter func97, ntmps97; go_wp2_with (first | ((with_reducible refine gate_dst (N := 1) rfl ?_); refine be_ (cs := #[.int .i64 a0_0, .string a0_1]) (t := 50) ?_; intro gb134 hg w4 hbox hb; have BK134 := Aside0.mk (hbox); have GW134 := ag_ hg HB; have GE134 := ag_ hg HB; replace HB := ah_ HB hb; clear hb hbox hg; obtain ⟨Z5_0, Z5_1, F5⟩ := bc2 BK134.out) | ((with_reducible refine gate_callee (f := 79) rfl ?_); refine gl_ (some 7) func79 #[.int .i64 a0_0] ?_; refine cm_ (object_Word.calls a0_0 t135 _ A2.out) fun w6 hb => ?_; replace BK134 := ab_ BK134 hb; replace HB := Aside0.mk (below_step (hs_) hb); (try clear hb); (try clear hb2); (try clear hk); (try clear hi)))
  go_ret2
  exact ⟨z3_, hs_⟩
 rw [if_neg c3] at H; have c3b0 := ef_ c3; have c3b1 := nt_ c3; by_cases c7 : (a0_1.size : Int) > 1048576
 ·rw [if_pos c7] at H; have c7b0 := dt_ c7; have c7b1 : decide (1048576 < a0_1.size) = true := decide_eq_true (by omega); clear c7; obtain ⟨rfl, rfl⟩ := pj2_ H; go_enter func97, ntmps97; go_wp2_with (first | ((with_reducible refine gate_dst (N := 1) rfl ?_); refine be_ (cs := #[.int .i64 a0_0, .string a0_1]) (t := 50) ?_; intro gb134 hg w8 hbox hb; have BK134 := Aside0.mk (hbox); have GW134 := ag_ hg HB; have GE134 := ag_ hg HB; replace HB := ah_ HB hb; clear hb hbox hg; obtain ⟨Z9_0, Z9_1, F9⟩ := bc2 BK134.out) | ((with_reducible refine gate_callee (f := 79) rfl ?_); refine gl_ (some 7) func79 #[.int .i64 a0_0] ?_; refine cm_ (object_Word.calls a0_0 t135 _ A2.out) fun w10 hb => ?_; replace BK134 := ab_ BK134 hb; replace HB := Aside0.mk (below_step (hs_) hb); (try clear hb); (try clear hb2); (try clear hk); (try clear hi); obtain ⟨Z11_0, Z11_1, F11⟩ := bc2 BK134.out)); go_ret2
  exact ⟨z3_, hs_⟩
 rw [if_neg c7] at H; have c7b0 := df_ c7; have c7b1 : decide (1048576 < a0_1.size) = false := decide_eq_false (by omega); clear c7; by_cases c12 : t135.size + 1 ≤ 9223372036854775807; rotate_left
 ·rw [if_neg c12] at H; exact no_ H
 rw [if_pos c12] at H; have c12b0 := eq_true c12; have c12b1 := dt_ c12; try have c12b2 := nl_ c12
 obtain ⟨t136, A13, H⟩ := bx_ H; by_cases c14 : (t135 ++ (⟨#[32]⟩ : ByteArray)).size + t136.size ≤ 9223372036854775807; rotate_left
 ·rw [if_neg c14] at H; exact no_ H
 rw [if_pos c14] at H; have c14b0 := eq_true c14; have c14b1 := dt_ c14; try have c14b3 : (9223372036854775807 < t135.size + 1 + t136.size) = False := have h_ := c14; ns_
 try have c14b2 := nl_ c14
 by_cases c15 : ((t135 ++ (⟨#[32]⟩ : ByteArray)) ++ t136).size + 1 ≤ 9223372036854775807; rotate_left
 ·rw [if_neg c15] at H; exact no_ H
 rw [if_pos c15] at H; have c15b0 := eq_true c15; have c15b1 := dt_ c15; try have c15b3 : (9223372036854775807 < t135.size + 1 + t136.size + 1) = False := have h_ := c15; ns_
 try have c15b2 := nl_ c15
 by_cases c16 : (((t135 ++ (⟨#[32]⟩ : ByteArray)) ++ t136) ++ (⟨#[0]⟩ : ByteArray)).size + a0_1.size ≤ 9223372036854775807; rotate_left
 ·rw [if_neg c16] at H; exact no_ H
 rw [if_pos c16] at H; have c16b0 := eq_true c16; have c16b1 := dt_ c16; try have c16b3 : (9223372036854775807 < t135.size + 1 + t136.size + 1 + a0_1.size) = False := have h_ := c16; ns_
 try have c16b2 := nl_ c16
 obtain ⟨rfl, rfl⟩ := pj2_ H; go_enter func97, ntmps97; try go_wp2_with (first | ((with_reducible refine gate_dst (N := 1) rfl ?_); refine be_ (cs := #[.int .i64 a0_0, .string a0_1]) (t := 50) ?_; intro gb134 hg w17 hbox hb; have BK134 := Aside0.mk (hbox); have GW134 := ag_ hg HB; have GE134 := ag_ hg HB; replace HB := ah_ HB hb; clear hb hbox hg; obtain ⟨Z18_0, Z18_1, F18⟩ := bc2 BK134.out) | ((with_reducible refine gate_callee (f := 79) rfl ?_); refine gl_ (some 7) func79 #[.int .i64 a0_0] ?_; refine cm_ (object_Word.calls a0_0 t135 _ A2.out) fun w19 hb => ?_; replace BK134 := ab_ BK134 hb; replace HB := Aside0.mk (below_step (hs_) hb); (try clear hb); (try clear hb2); (try clear hk); (try clear hi); obtain ⟨Z20_0, Z20_1, F20⟩ := bc2 BK134.out)); replace BK134 := ad_ BK134; replace HB := hd_ HB; refine start_ (n := 13) (S := fun w' => w'.cell? ⟨gb134, 0, none⟩ = some (.int .i64 a0_0) ∧ w'.cell? ⟨gb134, 1, none⟩ = some (.string a0_1)) (ds := []) (bs 13 0) (by kernel_rfl) rfl rfl (bc2o BK134.out) (fun hHeld => ?_); refine with_tabW object_Bytes.tab6 object_Bytes.bits6 (fun HT_ HW_ => ?_); generalize w19.drew = w21 at BK134 HB hHeld ⊢; refine pun_ 0 16 13 1 ?_; refine pun_ 1 17 13 3 ?_; refine pun_ 2 18 13 7 ?_; refine pun_ 8 24 13 263 ?_; refine tkW2n_ 3 19 13 271 hHeld ?_; refine pun_ 4 20 13 287 ?_; refine tkW2n_ 9 25 13 799 hHeld ?_; refine on_ 5 21 13 831 (fun K hK => ?_); refine goes_ func91 (by kernel_rfl) rfl #[.int .i64 (a0_1.size : Int)] (by rfl) rfl rfl z5_ ?_
 with_reducible refine (strconv_Itoa.calls (a0_1.size : Int) t136 _ ?side1 A13.out).mono ?_
 (case side1 => exact GV.below hgv (hs_))
 rintro e w22 ⟨rfl, hb⟩; refine ⟨_, rfl, ?_⟩; replace BK134 := ab_ BK134 hb; replace HB := Aside0.mk (below_step (hs_) hb); (try clear hb)
 (try clear hb2)
 (try clear hk)
 (try clear hi)
 refine hK.out _ _ (bc2o BK134.out) (fun hHeld => ?_); clear hK K; refine norm_ (a' := ?_) ?_ ?_; rotate_left
 ·show Act.put _ (some 21) _ = _
  simp only [Act.put, List.setIfInBounds_toArray, List.set_cons_zero, List.set_cons_succ, i64_w, i32_w]; rfl
 refine pun_ 6 22 13 895 ?_; refine pun_ 7 23 13 1023 ?_; refine pun_ 10 26 13 2047 ?_; refine pun_ 11 2 13 4095 ?_; refine pun_ 12 3 13 8191 ?_; refine dn_ ?_; try go_wp2
 go_ret2
 exact ⟨z3_, hs_⟩
def commit_Whole.f (k : Nat) (a0_0 : Int) (a0_1 : ByteArray) : Option (Int) := (object_Bytes.f a0_0 a0_1).bind fun bt102 => (if bt102.2 = 0 then (if a0_0 = 2 then ((tree_Parse.f k a0_1).bind fun bt104 => (some bt104.2)) else (if a0_0 = 3 then ((commit_Parse.f k a0_1).bind fun bt108 => (some bt108.2.2.2.2.2.2.2.2.2.2.2)) else (if a0_0 = 4 then ((commit_ParseTag.f k a0_1).bind fun bt122 => (some bt122.2.2.2.2.2.2.2.2)) else (some bt102.2)))) else (some bt102.2))
theorem commit_Whole.mono : ∀ a0 a1 k, LeO (commit_Whole.f k a0 a1) (commit_Whole.f (k + 1) a0 a1) := by
 intro a0 a1 k; unfold commit_Whole.f; have m0_ := @commit_Parse.mono; have m1_ := @commit_ParseTag.mono; have m2_ := @tree_Parse.mono; exact mz_
theorem commit_Whole.calls (k : Nat) (a0_0 : Int) (a0_1 : ByteArray) (r : Int) (w : World) (hgv : GV w) (h : commit_Whole.f k a0_0 a0_1 = some r) :
  Calls Tryz.prog 36 #[.agg #[.int .i64 a0_0, .string a0_1]] w fun e w' => e = .returned (.int .i64 r) ∧ Below w.heap.size w w' := by
 have hu50 := underlying50; have HB := Aside0.mk (Below.refl w.heap.size w); unfold commit_Whole.f at h; have H := h; clear h; obtain ⟨⟨t102, t103⟩, A2, H⟩ := bx_ H; dsimp only at H; by_cases c3 : t103 = 0; rotate_left
 ·rw [if_neg c3] at H; have c3b0 := ef_ c3; have c3b1 := nt_ c3; obtain rfl := oi_ H; go_enter func36, ntmps36; go_wp2_with (first | ((with_reducible refine gate_dst (N := 1) rfl ?_); refine be_ (cs := #[.int .i64 a0_0, .string a0_1]) (t := 50) ?_; intro gb101 hg w29 hbox hb; have BK101 := Aside0.mk (hbox); have GW101 := ag_ hg HB; have GE101 := ag_ hg HB; replace HB := ah_ HB hb; clear hb hbox hg; obtain ⟨Z30_0, Z30_1, F30⟩ := bc2 BK101.out) | ((with_reducible refine gate_callee (f := 97) rfl ?_); refine gl_ (some 7) func97 #[.agg #[.int .i64 a0_0, .string a0_1]] ?_; (with_reducible refine (object_Bytes.calls a0_0 a0_1 t102 t103 _ ?side1 A2.out).mono ?_); (case side1 => exact GV.below hgv (hs_)); rintro e w31 ⟨rfl, hb⟩; refine ⟨_, rfl, ?_⟩; replace BK101 := ab_ BK101 hb; replace HB := Aside0.mk (below_step (hs_) hb); (try clear hb); (try clear hb2); (try clear hk); (try clear hi)))
  go_ret
  exact ⟨z3_, hs_⟩
 rw [if_pos c3] at H; have c3b0 := et_ c3; have c3b1 := nf_ c3; clear c3; by_cases c4 : a0_0 = 2
 ·rw [if_pos c4] at H; have c4b0 := et_ c4; have c4b1 := nf_ c4; clear c4; obtain ⟨⟨t104, t105⟩, A5, H⟩ := bx_ H; dsimp only at H; obtain rfl := oi_ H; go_enter func36, ntmps36; go_wp2_with (first | ((with_reducible refine gate_dst (N := 1) rfl ?_); refine be_ (cs := #[.int .i64 a0_0, .string a0_1]) (t := 50) ?_; intro gb101 hg w6 hbox hb; have BK101 := Aside0.mk (hbox); have GW101 := ag_ hg HB; have GE101 := ag_ hg HB; replace HB := ah_ HB hb; clear hb hbox hg; obtain ⟨Z7_0, Z7_1, F7⟩ := bc2 BK101.out) | ((with_reducible refine gate_callee (f := 97) rfl ?_); refine gl_ (some 7) func97 #[.agg #[.int .i64 a0_0, .string a0_1]] ?_; (with_reducible refine (object_Bytes.calls a0_0 a0_1 t102 t103 _ ?side1 A2.out).mono ?_); (case side1 => exact GV.below hgv (hs_)); rintro e w8 ⟨rfl, hb⟩; refine ⟨_, rfl, ?_⟩; replace BK101 := ab_ BK101 hb; replace HB := Aside0.mk (below_step (hs_) hb); (try clear hb); (try clear hb2); (try clear hk); (try clear hi); obtain ⟨Z9_0, Z9_1, F9⟩ := bc2 BK101.out) | ((with_reducible refine gate_callee (f := 94) rfl ?_); refine gl_ (some 20) func94 #[.string a0_1] ?_; (with_reducible refine (tree_Parse.calls k a0_1 t104 t105 _ ?side1 A5.out).mono ?_); (case side1 => exact GV.below hgv (hs_)); rintro e w10 ⟨v106, rfl, ho0, hb⟩; refine ⟨_, rfl, ?_⟩; have HO107 := Aside0.mk (Kd.R_lower ho0 (below_size (hs_))); replace BK101 := ab_ BK101 hb; replace HB := Aside0.mk (below_step (hs_) hb); (try clear hb); (try clear hb2); (try clear hk); (try clear hi); (try clear ho0)))
  go_ret
  exact ⟨z3_, hs_⟩
 rw [if_neg c4] at H; have c4b0 := ef_ c4; have c4b1 := nt_ c4; by_cases c11 : a0_0 = 3
 ·rw [if_pos c11] at H; have c11b0 := et_ c11; have c11b1 := nf_ c11; clear c11; obtain ⟨⟨t108, t109, t112, t113, t114, t115, t116, t117, t118, t119, t120, t121⟩, A12, H⟩ := bx_ H; dsimp only at H; obtain rfl := oi_ H; go_enter func36, ntmps36; go_wp2_with (first | ((with_reducible refine gate_dst (N := 1) rfl ?_); refine be_ (cs := #[.int .i64 a0_0, .string a0_1]) (t := 50) ?_; intro gb101 hg w13 hbox hb; have BK101 := Aside0.mk (hbox); have GW101 := ag_ hg HB; have GE101 := ag_ hg HB; replace HB := ah_ HB hb; clear hb hbox hg; obtain ⟨Z14_0, Z14_1, F14⟩ := bc2 BK101.out) | ((with_reducible refine gate_callee (f := 97) rfl ?_); refine gl_ (some 7) func97 #[.agg #[.int .i64 a0_0, .string a0_1]] ?_; (with_reducible refine (object_Bytes.calls a0_0 a0_1 t102 t103 _ ?side1 A2.out).mono ?_); (case side1 => exact GV.below hgv (hs_)); rintro e w15 ⟨rfl, hb⟩; refine ⟨_, rfl, ?_⟩; replace BK101 := ab_ BK101 hb; replace HB := Aside0.mk (below_step (hs_) hb); (try clear hb); (try clear hb2); (try clear hk); (try clear hi); obtain ⟨Z16_0, Z16_1, F16⟩ := bc2 BK101.out) | ((with_reducible refine gate_callee (f := 20) rfl ?_); refine gl_ (some 28) func20 #[.string a0_1] ?_; (with_reducible refine (commit_Parse.calls k a0_1 t108 t109 t112 t113 t114 t115 t116 t117 t118 t119 t120 t121 _ ?side1 A12.out).mono ?_); (case side1 => exact GV.below hgv (hs_)); rintro e w17 ⟨v110, rfl, ho0, hb⟩; refine ⟨_, rfl, ?_⟩; have HO111 := Aside0.mk (Kd.R_lower ho0 (below_size (hs_))); replace BK101 := ab_ BK101 hb; replace HB := Aside0.mk (below_step (hs_) hb); (try clear hb); (try clear hb2); (try clear hk); (try clear hi); (try clear ho0)))
  go_ret
  exact ⟨z3_, hs_⟩
 rw [if_neg c11] at H; have c11b0 := ef_ c11; have c11b1 := nt_ c11; by_cases c18 : a0_0 = 4; rotate_left
 ·rw [if_neg c18] at H; have c18b0 := ef_ c18; have c18b1 := nt_ c18; obtain rfl := oi_ H; go_enter func36, ntmps36; go_wp2_with (first | ((with_reducible refine gate_dst (N := 1) rfl ?_); refine be_ (cs := #[.int .i64 a0_0, .string a0_1]) (t := 50) ?_; intro gb101 hg w25 hbox hb; have BK101 := Aside0.mk (hbox); have GW101 := ag_ hg HB; have GE101 := ag_ hg HB; replace HB := ah_ HB hb; clear hb hbox hg; obtain ⟨Z26_0, Z26_1, F26⟩ := bc2 BK101.out) | ((with_reducible refine gate_callee (f := 97) rfl ?_); refine gl_ (some 7) func97 #[.agg #[.int .i64 a0_0, .string a0_1]] ?_; (with_reducible refine (object_Bytes.calls a0_0 a0_1 t102 t103 _ ?side1 A2.out).mono ?_); (case side1 => exact GV.below hgv (hs_)); rintro e w27 ⟨rfl, hb⟩; refine ⟨_, rfl, ?_⟩; replace BK101 := ab_ BK101 hb; replace HB := Aside0.mk (below_step (hs_) hb); (try clear hb); (try clear hb2); (try clear hk); (try clear hi); obtain ⟨Z28_0, Z28_1, F28⟩ := bc2 BK101.out)); go_ret
  exact ⟨z3_, hs_⟩
 rw [if_pos c18] at H; have c18b0 := et_ c18; have c18b1 := nf_ c18; clear c18; obtain ⟨⟨t122, t123, t124, t125, t126, t127, t128, t129, t130⟩, A19, H⟩ := bx_ H; dsimp only at H; obtain rfl := oi_ H; go_enter func36, ntmps36; go_wp2_with (first | ((with_reducible refine gate_dst (N := 1) rfl ?_); refine be_ (cs := #[.int .i64 a0_0, .string a0_1]) (t := 50) ?_; intro gb101 hg w20 hbox hb; have BK101 := Aside0.mk (hbox); have GW101 := ag_ hg HB; have GE101 := ag_ hg HB; replace HB := ah_ HB hb; clear hb hbox hg; obtain ⟨Z21_0, Z21_1, F21⟩ := bc2 BK101.out) | ((with_reducible refine gate_callee (f := 97) rfl ?_); refine gl_ (some 7) func97 #[.agg #[.int .i64 a0_0, .string a0_1]] ?_; (with_reducible refine (object_Bytes.calls a0_0 a0_1 t102 t103 _ ?side1 A2.out).mono ?_); (case side1 => exact GV.below hgv (hs_)); rintro e w22 ⟨rfl, hb⟩; refine ⟨_, rfl, ?_⟩; replace BK101 := ab_ BK101 hb; replace HB := Aside0.mk (below_step (hs_) hb); (try clear hb); (try clear hb2); (try clear hk); (try clear hi); obtain ⟨Z23_0, Z23_1, F23⟩ := bc2 BK101.out) | ((with_reducible refine gate_callee (f := 23) rfl ?_); refine gl_ (some 36) func23 #[.string a0_1] ?_; (with_reducible refine (commit_ParseTag.calls k a0_1 t122 t123 t124 t125 t126 t127 t128 t129 t130 _ ?side1 A19.out).mono ?_); (case side1 => exact GV.below hgv (hs_)); rintro e w24 ⟨rfl, hb⟩; refine ⟨_, rfl, ?_⟩; replace BK101 := ab_ BK101 hb; replace HB := Aside0.mk (below_step (hs_) hb); (try clear hb); (try clear hb2); (try clear hk); (try clear hi)))
 go_ret
 exact ⟨z3_, hs_⟩
mutual
def commit_Links.j1 : Nat → List ByteArray → Option (List ByteArray × Int)
 | 0, _ => none
 | k + 1, x5 => commit_Links.l1 k ([] : List ByteArray) x5 (x5.length : Int) 0
def commit_Links.l1 : Nat → List ByteArray → List ByteArray → Int → Int → Option (List ByteArray × Int)
 | 0, _, _, _, _ => none
 | k + 1, x14, x69, x70, x71 => if x71 < x70 then (if 0 ≤ x71 then (if x71 < (x69.length : Int) then ((slices_Contains_string_string.f k x14 (rdOf ByteArray.empty x69 x71)).bind fun t147 => (if t147 = true then (commit_Links.l1 k x14 x69 x70 (wrap64 (x71 + 1))) else (if x14.length < 8796093022208 then (commit_Links.l1 k (x14 ++ [rdOf ByteArray.empty x69 x71]) x69 x70 (wrap64 (x71 + 1))) else (none)))) else (none)) else (none)) else (some (x14, 0))
def commit_Links.l0 : Nat → List ByteArray → List (S108) → Int → Int → Option (List ByteArray × Int)
 | 0, _, _, _, _ => none
 | k + 1, x5, x32, x33, x34 => if x34 < x33 then (if 0 ≤ x34 then (if x34 < (x32.length : Int) then (if x5.length < 8796093022208 then (commit_Links.l0 k (x5 ++ [(rd_T108 x32 x34).f2]) x32 x33 (wrap64 (x34 + 1))) else (none)) else (none)) else (none)) else (commit_Links.j1 k x5)
end
def commit_Links.f (k : Nat) (a0_0 : Int) (a0_1 : ByteArray) : Option (List ByteArray × Int) := (commit_Whole.f k a0_0 a0_1).bind fun t102 => (if t102 = 0 then (if a0_0 = 2 then ((tree_Parse.f k a0_1).bind fun bt103 => (commit_Links.l0 k ([] : List ByteArray) bt103.1 (bt103.1.length : Int) 0)) else (if a0_0 = 3 then ((commit_Parse.f k a0_1).bind fun bt112 => ((some (([bt112.1] : List ByteArray) : List ByteArray)).bind fun y127 => (if y127.length + bt112.2.1.length < 8796093022208 then (commit_Links.j1 k (y127 ++ bt112.2.1)) else (none)))) else (if a0_0 = 4 then ((commit_ParseTag.f k a0_1).bind fun bt133 => (commit_Links.j1 k (([bt133.1] : List ByteArray)))) else (commit_Links.j1 k ([] : List ByteArray))))) else (some (([] : List ByteArray), t102)))
theorem commit_Links.mono_l : ∀ k, (∀ y0, LeO (commit_Links.j1 k y0) (commit_Links.j1 (k + 1) y0)) ∧ (∀ y0 y1 y2 y3, LeO (commit_Links.l1 k y0 y1 y2 y3) (commit_Links.l1 (k + 1) y0 y1 y2 y3)) ∧ (∀ y0 y1 y2 y3, LeO (commit_Links.l0 k y0 y1 y2 y3) (commit_Links.l0 (k + 1) y0 y1 y2 y3))
 | 0 => ⟨fun _ r h => by simp [commit_Links.j1] at h, fun _ _ _ _ r h => by simp [commit_Links.l1] at h, fun _ _ _ _ r h => by simp [commit_Links.l0] at h⟩
 | k + 1 => by
  obtain ⟨ih0, ih1, ih2⟩ := commit_Links.mono_l k
  refine ⟨?_, ?_, ?_⟩
  ·intro y0
   unfold commit_Links.j1
   have m0_ := @ih0
   have m1_ := @ih1
   have m2_ := @ih2
   have m3_ := @commit_Parse.mono
   have m4_ := @commit_ParseTag.mono
   have m5_ := @commit_Whole.mono
   have m6_ := @slices_Contains_string_string.mono
   have m7_ := @tree_Parse.mono
   exact mz_
  ·intro y0 y1 y2 y3
   unfold commit_Links.l1
   have m0_ := @ih0
   have m1_ := @ih1
   have m2_ := @ih2
   have m3_ := @commit_Parse.mono
   have m4_ := @commit_ParseTag.mono
   have m5_ := @commit_Whole.mono
   have m6_ := @slices_Contains_string_string.mono
   have m7_ := @tree_Parse.mono
   exact mz_
  ·intro y0 y1 y2 y3
   unfold commit_Links.l0
   have m0_ := @ih0
   have m1_ := @ih1
   have m2_ := @ih2
   have m3_ := @commit_Parse.mono
   have m4_ := @commit_ParseTag.mono
   have m5_ := @commit_Whole.mono
   have m6_ := @slices_Contains_string_string.mono
   have m7_ := @tree_Parse.mono
   exact mz_
theorem commit_Links.mono : ∀ a0 a1 k, LeO (commit_Links.f k a0 a1) (commit_Links.f (k + 1) a0 a1) := by
 intro a0 a1 k; obtain ⟨ih0, ih1, ih2⟩ := commit_Links.mono_l k; unfold commit_Links.f; have m0_ := @ih0; have m1_ := @ih1; have m2_ := @ih2; have m3_ := @commit_Parse.mono; have m4_ := @commit_ParseTag.mono; have m5_ := @commit_Whole.mono; have m6_ := @slices_Contains_string_string.mono; have m7_ := @tree_Parse.mono; exact mz_
theorem commit_Links.calls (k : Nat) (a0_0 : Int) (a0_1 : ByteArray) (r1 : List ByteArray) (r2 : Int) (w : World) (hgv : GV w) (h : commit_Links.f k a0_0 a0_1 = some (r1, r2)) :
  Calls Tryz.prog 34 #[.agg #[.int .i64 a0_0, .string a0_1]] w fun e w' => ∃ v0_ : Value, e = .returned (.tuple #[v0_, .int .i64 r2]) ∧ Kd.R Kd.string 9 w' w.heap.size (fun _ => True) v0_ r1 ∧ Below w.heap.size w w' := by
 have hu50 := underlying50; have hu108 := underlying108; have hu26 := underlying26; have hu37 := underlying37; have HB := Aside0.mk (Below.refl w.heap.size w); unfold commit_Links.f at h; have H := h; clear h; obtain ⟨t102, A2, H⟩ := bx_ H; by_cases c3 : t102 = 0; rotate_left
 ·rw [if_neg c3] at H; have c3b0 := ef_ c3; have c3b1 := nt_ c3; obtain ⟨rfl, rfl⟩ := pj2_ H; go_enter func34, ntmps34; go_wp2_with (first | ((with_reducible refine gate_dst (N := 1) rfl ?_); refine be_ (cs := #[.int .i64 a0_0, .string a0_1]) (t := 50) ?_; intro gb101 hg w54 hbox hb; have BK101 := Aside0.mk (hbox); have GW101 := ag_ hg HB; have GE101 := ag_ hg HB; replace HB := ah_ HB hb; clear hb hbox hg; obtain ⟨Z55_0, Z55_1, F55⟩ := bc2 BK101.out) | ((with_reducible refine gate_callee (f := 36) rfl ?_); refine gl_ (some 18) func36 #[.agg #[.int .i64 a0_0, .string a0_1]] ?_; (with_reducible refine (commit_Whole.calls k a0_0 a0_1 t102 _ ?side1 A2.out).mono ?_); (case side1 => exact GV.below hgv (hs_)); rintro e w56 ⟨rfl, hb⟩; refine ⟨_, rfl, ?_⟩; replace BK101 := ab_ BK101 hb; replace HB := Aside0.mk (below_step (hs_) hb); (try clear hb); (try clear hb2); (try clear hk); (try clear hi)))
  go_ret2
  exact ⟨_, z3_, z6_, hs_⟩
 rw [if_pos c3] at H; have c3b0 := et_ c3; have c3b1 := nf_ c3; clear c3; have HC4 := Aside0.mk H; clear H; go_enter func34, ntmps34; go_upto_block 0 with (first | ((with_reducible refine gate_dst (N := 1) rfl ?_); refine be_ (cs := #[.int .i64 a0_0, .string a0_1]) (t := 50) ?_; intro gb101 hg w5 hbox hb; have BK101 := Aside0.mk (hbox); have GW101 := ag_ hg HB; have GE101 := ag_ hg HB; replace HB := ah_ HB hb; clear hb hbox hg; obtain ⟨Z6_0, Z6_1, F6⟩ := bc2 BK101.out) | ((with_reducible refine gate_callee (f := 36) rfl ?_); refine gl_ (some 18) func36 #[.agg #[.int .i64 a0_0, .string a0_1]] ?_; (with_reducible refine (commit_Whole.calls k a0_0 a0_1 t102 _ ?side1 A2.out).mono ?_); (case side1 => exact GV.below hgv (hs_)); rintro e w7 ⟨rfl, hb⟩; refine ⟨_, rfl, ?_⟩; replace BK101 := ab_ BK101 hb; replace HB := Aside0.mk (below_step (hs_) hb); (try clear hb); (try clear hb2); (try clear hk); (try clear hi); obtain ⟨Z8_0, Z8_1, F8⟩ := bc2 BK101.out)); (try simp only [Act.put, List.setIfInBounds_toArray, List.set_cons_zero, List.set_cons_succ])
 go_cut [5] (fun v5 wc => ∃ (kq : Nat) (x5_3 : List ByteArray), Aside0 (commit_Links.j1 kq x5_3 = some (r1, r2)) ∧ Aside0 (kq ≤ k) ∧ Aside0 (Kd.R Kd.string 9 wc w.heap.size (fun _ => True) v5 x5_3) ∧ Aside0 (wc.heap[gb101]? = some (.cells #[.int .i64 a0_0, .string a0_1] 50 (0, 0))) ∧ Aside0 (Below w.heap.size w wc))
 case first =>
  have H := HC4.out; clear HC4; by_cases c9 : a0_0 = 2
  ·rw [if_pos c9] at H; have c9b0 := et_ c9; have c9b1 := nf_ c9; clear c9; (first | rw [c9b0] | (simp only [i64_w, i32_w]; rw [c9b0]) | skip); (try rw [c9b8])
   obtain ⟨⟨t103, t104⟩, A10, H⟩ := bx_ H; dsimp only at H; have H' := Aside0.mk H; clear H; obtain ⟨Z11_0, Z11_1, F11⟩ := bc2 BK101.out; go_wp2_with (first | ((with_reducible refine gate_callee (f := 94) rfl ?_); refine gl_ (some 29) func94 #[.string a0_1] ?_; (with_reducible refine (tree_Parse.calls k a0_1 t103 t104 _ ?side1 A10.out).mono ?_); (case side1 => exact GV.below hgv (hs_)); rintro e w12 ⟨v105, rfl, ho0, hb⟩; refine ⟨_, rfl, ?_⟩; have HO106 := Aside0.mk (Kd.R_lower ho0 (below_size (hs_))); replace BK101 := ab_ BK101 hb; replace HB := Aside0.mk (below_step (hs_) hb); (try clear hb); (try clear hb2); (try clear hk); (try clear hi); (try clear ho0); obtain ⟨Ao13, co13, eo13⟩ := Kd.R_slice HO106.out; subst eo13)); go_loopg [5, 34] k (fun kq v5 v34 w' => ∃ (x5_1 : List ByteArray) (x34_1 : Int), v34 = .int .i64 x34_1 ∧ Aside0 (commit_Links.l0 kq x5_1 t103 (t103.length : Int) x34_1 = some (r1, r2)) ∧ Aside0 (kq ≤ k) ∧ Aside0 (Kd.R Kd.string 9 w' w.heap.size (fun _ => True) v5 x5_1) ∧ Aside0 (Kd.R k108 108 w' w.heap.size (fun _ => True) (.slice Ao13 t103.length co13) t103) ∧ Aside0 (w'.heap[gb101]? = some (.cells #[.int .i64 a0_0, .string a0_1] 50 (0, 0))) ∧ Aside0 (Below w.heap.size w w'))
   case atStart => exact ⟨(([] : List ByteArray)), (0), z1_, H', ⟨Nat.le_refl _⟩, ⟨z6_⟩, ⟨by (with_reducible repeat (first | apply Kd.R_alloc | apply Kd.R_drewN | apply Kd.R_drew)); exact HO106.out⟩, ⟨bk_ BK101.out⟩, ⟨hs_⟩⟩
   case round =>
    clear H'; try clear p2
    try clear c3
    try clear c3b0
    try clear c3b1
    try clear c9
    try clear c9b0
    try clear c9b1
    try clear Z11_0 Z11_1
    try clear Z6_0 Z6_1
    try clear Z8_0 Z8_1
    try clear F11
    try clear F6
    try clear F8
    obtain ⟨x5_1, x34_1, rfl, HA, HK1, HO_5, HO_32, BK101, HB⟩ := hrel
    cases gk with
    | zero => exact absurd HA.out (by simp [commit_Links.l0])
    | succ k1 =>
     have H := HA.out; clear HA; simp only [commit_Links.l0] at H; by_cases c14 : x34_1 < (t103.length : Int); rotate_left
     ·rw [if_neg c14] at H; have c14b0 := df_ c14; clear c14; have H' := Aside0.mk H; clear H; go_wp2
      go_meet
      case rel => exact ⟨_, (x5_1), H', ⟨by have := HK1.out; first | omega | exact Nat.le_refl _⟩, ⟨z20_⟩, ⟨bk_ BK101.out⟩, ⟨hs_⟩⟩
     rw [if_pos c14] at H; have c14b0 := dt_ c14; clear c14; by_cases c15 : 0 ≤ x34_1; rotate_left
     ·rw [if_neg c15] at H; exact no_ H
     rw [if_pos c15] at H; have c15b0 := dt_ c15; clear c15; by_cases c16 : x34_1 < (t103.length : Int); rotate_left
     ·rw [if_neg c16] at H; exact no_ H
     rw [if_pos c16] at H; have c16b0 := dt_ c16; clear c16; by_cases c17 : x5_1.length < 8796093022208; rotate_left
     ·rw [if_neg c17] at H; exact no_ H
     rw [if_pos c17] at H; have LMc17 := Aside0.mk c17; clear c17; obtain ⟨y109, hy109⟩ : ∃ y_ : List ByteArray, y_ = (x5_1 ++ [(rd_T108 t103 x34_1).f2]) := ⟨_, rfl⟩; replace H : (commit_Links.l0 k1 y109 t103 (t103.length : Int) (wrap64 (x34_1 + 1))) = some (r1, r2) := by first | (rw [hy109]; with_reducible exact H) | (have H2_ := (Option.bind_some _ _).symm.trans H; rw [hy109]; with_reducible exact H2_) | (have H2_ := (Option.bind_some _ _).symm.trans H; with_reducible exact H2_) | with_reducible exact H | (rw [hy109]; exact H) | exact H
     have Ny109 := Aside0.mk hy109; clear hy109; have H' := Aside0.mk H; clear H; have p107 : 0 ≤ (x34_1 : Int) := y0_; have q107 : x34_1 < (t103.length : Int) := y0_; obtain ⟨ad107, e107, hx107_0, hx107_1, hx107_2⟩ := at_T108 (Kd.R_reads' HO_32.out).2.2 x34_1 p107 q107
     cases e107
     replace p107 := eq_true p107; replace q107 := eq_true q107; go_wp2_with (first | ((with_reducible refine gate_dst (N := 9) rfl ?_); refine be_ (cs := #[.int .i64 0, .string ⟨#[]⟩, .string ⟨#[]⟩]) (t := 108) ?_; intro gb108 hg w18 hbox hb; replace HO_5 := Aside0.mk (Kd.R_below (rk_ HO_5.out) hb); replace HO_32 := Aside0.mk (Kd.R_below (Kd.R_elderB (rk_ HO_32.out) gb108 (Nat.le_of_eq hg.symm)) hb); have BK108 := Aside0.mk (hbox); have GW108 := Aside0.mk ((by rw [hg]; exact (below_size (hs_)) : w.heap.size ≤ gb108)); have GE108 := Aside0.mk ((by rw [hg]; exact (below_size (hs_)) : w.heap.size ≤ gb108)); replace HB := Aside0.mk (below_step (hs_) hb); have NB101_108 := Aside0.mk (nl2_ hg BK101.out); have NB108_101 := Aside0.mk (ng2_ hg BK101.out); replace BK101 := ab_ BK101 hb; clear hb hbox hg; have hnb19 := NB108_101.out; have hnc19 := NB101_108.out; obtain ⟨Z20_0, Z20_1, Z20_2, F20⟩ := bc3 BK108.out) | ((with_reducible refine gate_builtin (b := .append) (xs := #[.tmp 38, .tmp 41]) rfl ?_); at_builtin; refine Kd.R_append Kd.string (w0 := w) w.heap.size rfl (.tmp 38) (.tmp 41) 22 9 (.string ⟨#[]⟩) 16 rfl underlying22 info9 rfl (by decide) (by omega) u5 x5_1 ((rd_T108 t103 x34_1).f2) [.string ((rd_T108 t103 x34_1).f2)] (fun _ => True) (fun _ => False) rfl z27_ ?aP (fun _ hk => hk.elim) ?aF ?aO ?aB ?aS ?aL ?_; (case aP => exact rfl); (case aB => exact (hs_)); (case aF => exact (fun _ _ => trivial)); (case aO => exact (by (with_reducible repeat (first | apply Kd.R_alloc | apply Kd.R_drewN | apply Kd.R_drew)); exact Kd.R_mono (Kd.R_far (p := ⟨gb108, 2, none⟩) (Kd.R_far (p := ⟨gb108, 1, none⟩) (Kd.R_far (p := ⟨gb108, 0, none⟩) (Kd.R_types HO_5.out BK108.out (by decide)) (fun _ hk => hk.2) (.int .i64 ((rd_T108 t103 x34_1).f0))) (fun _ hk => hk.2) (.string ((rd_T108 t103 x34_1).f1))) (fun _ hk => hk.2) (.string ((rd_T108 t103 x34_1).f2))) (fun _ hk => trivial))); (case aS => exact (below_size (hs_))); (case aL => have := LMc17.out; omega); intro v110 w21 ho hb hg hat; rw [← Ny109.out] at ho; have n0_ := Aside0.mk (Kd.R_over' (by (with_reducible repeat (first | apply Kd.R_alloc | apply Kd.R_drewN | apply Kd.R_drew)); exact (Kd.R_mono (Kd.R_far (p := ⟨gb108, 2, none⟩) (Kd.R_far (p := ⟨gb108, 1, none⟩) (Kd.R_far (p := ⟨gb108, 0, none⟩) (Kd.R_mono HO_32.out (fun k_ hk => (⟨hk, hk.2⟩ : _ ∧ k_ ≠ gb108))) (fun _ hk => hk.2) (.int .i64 ((rd_T108 t103 x34_1).f0))) (fun _ hk => hk.2) (.string ((rd_T108 t103 x34_1).f1))) (fun _ hk => hk.2) (.string ((rd_T108 t103 x34_1).f2))) (fun _ h_ => h_.1))) (Kd.R_typed (by (with_reducible repeat (first | apply Kd.R_alloc | apply Kd.R_drewN | apply Kd.R_drew)); exact (Kd.R_mono (Kd.R_far (p := ⟨gb108, 2, none⟩) (Kd.R_far (p := ⟨gb108, 1, none⟩) (Kd.R_far (p := ⟨gb108, 0, none⟩) (Kd.R_types HO_5.out BK108.out (by decide)) (fun _ hk => hk.2) (.int .i64 ((rd_T108 t103 x34_1).f0))) (fun _ hk => hk.2) (.string ((rd_T108 t103 x34_1).f1))) (fun _ hk => hk.2) (.string ((rd_T108 t103 x34_1).f2))) (fun _ h_ => h_.1)))) (by decide) hg); have n1_ := Aside0.mk (blk_grown (g := gb101) (o := .cells #[.int .i64 a0_0, .string a0_1] 50 (0, 0)) (by have b_ := BK101; have f_ := NB101_108; exact zb_) hg (Kd.R_ne HO_5.out BK101.out (by decide))); have n2_ := Aside0.mk (blk_grown (g := gb108) (o := .cells #[.int .i64 ((rd_T108 t103 x34_1).f0), .string ((rd_T108 t103 x34_1).f1), .string ((rd_T108 t103 x34_1).f2)] 108 (0, 0)) (by have b_ := BK108; exact zb_) hg (Kd.R_ne HO_5.out BK108.out (by decide))); have n3_ := Aside0.mk (hb); have n4_ := Aside0.mk (ho); clear HO_32; clear BK101; clear BK108; clear HB; clear HO_5; have HO_32 := n0_; have BK101 := n1_; have BK108 := n2_; have HB := n3_; have HO111 := n4_; clear n0_ n1_ n2_ n3_ n4_; clear ho hb hg hat))
     go_roundg k1
     case measure => have := HK1.out; omega
     case rel => exact ⟨(y109), (wrap64 (x34_1 + 1)), z1_, H', ⟨by have := HK1.out; omega⟩, ⟨by (with_reducible repeat (first | apply Kd.R_alloc | apply Kd.R_drewN | apply Kd.R_drew)); exact HO111.out⟩, ⟨by (with_reducible repeat (first | apply Kd.R_alloc | apply Kd.R_drewN | apply Kd.R_drew)); exact Kd.R_mono HO_32.out (fun _ hk => trivial)⟩, ⟨bk_ BK101.out⟩, ⟨hs_⟩⟩
  rw [if_neg c9] at H; have c9b0 := ef_ c9; have c9b1 := nt_ c9; (first | rw [c9b0] | (simp only [i64_w, i32_w]; rw [c9b0]) | skip); (try rw [c9b8])
  by_cases c22 : a0_0 = 3; rotate_left
  ·rw [if_neg c22] at H; have c22b0 := ef_ c22; have c22b1 := nt_ c22; by_cases c35 : a0_0 = 4; rotate_left
   ·rw [if_neg c35] at H; have c35b0 := ef_ c35; have c35b1 := nt_ c35; have H' := Aside0.mk H; clear H; go_wp2
    go_meet
    case rel => exact ⟨_, (([] : List ByteArray)), H', ⟨z4_⟩, ⟨z6_⟩, ⟨bk_ BK101.out⟩, ⟨hs_⟩⟩
   rw [if_pos c35] at H; have c35b0 := et_ c35; have c35b1 := nf_ c35; clear c35; obtain ⟨⟨t133, t134, t135, t136, t137, t138, t139, t140, t141⟩, A36, H⟩ := bx_ H; dsimp only at H; obtain ⟨y143, hy143⟩ : ∃ y_ : List ByteArray, y_ = (([t133] : List ByteArray)) := ⟨_, rfl⟩; replace H : (commit_Links.j1 k y143) = some (r1, r2) := by first | (rw [hy143]; with_reducible exact H) | (have H2_ := (Option.bind_some _ _).symm.trans H; rw [hy143]; with_reducible exact H2_) | (have H2_ := (Option.bind_some _ _).symm.trans H; with_reducible exact H2_) | with_reducible exact H | (rw [hy143]; exact H) | exact H
   have Ny143 := Aside0.mk hy143; clear hy143; have H' := Aside0.mk H; clear H; obtain ⟨Z37_0, Z37_1, F37⟩ := bc2 BK101.out; go_wp2_with (first | ((with_reducible refine gate_callee (f := 23) rfl ?_); refine gl_ (some 63) func23 #[.string a0_1] ?_; (with_reducible refine (commit_ParseTag.calls k a0_1 t133 t134 t135 t136 t137 t138 t139 t140 t141 _ ?side1 A36.out).mono ?_); (case side1 => exact GV.below hgv (hs_)); rintro e w38 ⟨rfl, hb⟩; refine ⟨_, rfl, ?_⟩; replace BK101 := ab_ BK101 hb; replace HB := Aside0.mk (below_step (hs_) hb); (try clear hb); (try clear hb2); (try clear hk); (try clear hi)) | ((with_reducible refine gate_dst (N := 12) rfl ?_); refine be_ (cs := #[.string ⟨#[]⟩, .int .i64 0, .string ⟨#[]⟩, .string ⟨#[]⟩, .string ⟨#[]⟩, .int .i64 0, .int .i64 0, .string ⟨#[]⟩]) (t := 37) ?_; intro gb142 hg w39 hbox hb; have BK142 := Aside0.mk (hbox); have GW142 := Aside0.mk ((by rw [hg]; exact (below_size (hs_)) : w.heap.size ≤ gb142)); have GE142 := Aside0.mk ((by rw [hg]; exact (below_size (hs_)) : w.heap.size ≤ gb142)); replace HB := Aside0.mk (below_step (hs_) hb); have NB101_142 := Aside0.mk (nl2_ hg BK101.out); have NB142_101 := Aside0.mk (ng2_ hg BK101.out); replace BK101 := ab_ BK101 hb; clear hb hbox hg; have hnb40 := NB142_101.out; have hnc40 := NB101_142.out; obtain ⟨Z41_0, Z41_1, Z41_2, Z41_3, Z41_4, Z41_5, Z41_6, Z41_7, F41⟩ := bc8 BK142.out) | ((with_reducible refine gate_dst (N := 68) rfl ?_); refine Kd.R_lit Kd.string _ 9 ?hg (N := 68) ?hd (xs := ([t133] : List ByteArray)) (inner := [.string t133]) (ok := fun _ => True) (okp := fun _ => True) ?hr ?hp (fun _ hk => hk) trivial (Below.refl _ _) (Nat.le_refl _) (by simp) ?_; (case hd => rfl); (case hg => rfl); (case hr => first | (go_simp; done) | (go_simp; rfl)); (case hp => exact (Reps.one (show Kd.M Kd.string _ _ _ t133 [.string t133] from rfl) (Reps.none _ _))); intro v144 w42 ho43 hb hg_ hnew_; clear hg_ hnew_; (first | rw [← Ny143.out] at ho43 | (simp only [Int.reduceToNat] at ho43; rw [← Ny143.out] at ho43)); have HO145 := Aside0.mk (Kd.R_lower ho43 (below_size (hs_))); replace BK101 := Aside0.mk (blk_below (g := gb101) (o := .cells #[.int .i64 a0_0, .string a0_1] 50 (0, 0)) (by have b_ := BK101; have f_ := NB101_142; exact zb_) hb); replace BK142 := Aside0.mk (blk_below (g := gb142) (o := .cells #[.string t133, .int .i64 t134, .string t135, .string t136, .string t137, .int .i64 t138, .int .i64 t139, .string t140] 37 (0, 0)) (by have b_ := BK142; exact zb_) hb); replace HB := Aside0.mk (below_step (hs_) hb); clear hb ho43)); go_meet
   case rel => exact ⟨_, (y143), H', ⟨z4_⟩, ⟨by (with_reducible repeat (first | apply Kd.R_alloc | apply Kd.R_drewN | apply Kd.R_drew)); exact HO145.out⟩, ⟨bk_ BK101.out⟩, ⟨hs_⟩⟩
  rw [if_pos c22] at H; have c22b0 := et_ c22; have c22b1 := nf_ c22; clear c22; obtain ⟨⟨t112, t113, t116, t117, t118, t119, t120, t121, t122, t123, t124, t125⟩, A23, H⟩ := bx_ H; dsimp only at H; obtain ⟨y127, hy127⟩ : ∃ y_ : List ByteArray, y_ = (([t112] : List ByteArray)) := ⟨_, rfl⟩; replace H : (if y127.length + t113.length < 8796093022208 then (commit_Links.j1 k (y127 ++ t113)) else (none)) = some (r1, r2) := by first | (rw [hy127]; with_reducible exact H) | (have H2_ := (Option.bind_some _ _).symm.trans H; rw [hy127]; with_reducible exact H2_) | (have H2_ := (Option.bind_some _ _).symm.trans H; with_reducible exact H2_) | with_reducible exact H | (rw [hy127]; exact H) | exact H
  have Ny127 := Aside0.mk hy127; clear hy127; by_cases c24 : y127.length + t113.length < 8796093022208; rotate_left
  ·rw [if_neg c24] at H; exact no_ H
  rw [if_pos c24] at H; have LMc24 := Aside0.mk c24; clear c24; obtain ⟨y130, hy130⟩ : ∃ y_ : List ByteArray, y_ = (y127 ++ t113) := ⟨_, rfl⟩; replace H : (commit_Links.j1 k y130) = some (r1, r2) := by first | (rw [hy130]; with_reducible exact H) | (have H2_ := (Option.bind_some _ _).symm.trans H; rw [hy130]; with_reducible exact H2_) | (have H2_ := (Option.bind_some _ _).symm.trans H; with_reducible exact H2_) | with_reducible exact H | (rw [hy130]; exact H) | exact H
  have Ny130 := Aside0.mk hy130; clear hy130; have H' := Aside0.mk H; clear H; obtain ⟨Z25_0, Z25_1, F25⟩ := bc2 BK101.out; go_wp2_with (first | ((with_reducible refine gate_callee (f := 20) rfl ?_); refine gl_ (some 49) func20 #[.string a0_1] ?_; (with_reducible refine (commit_Parse.calls k a0_1 t112 t113 t116 t117 t118 t119 t120 t121 t122 t123 t124 t125 _ ?side1 A23.out).mono ?_); (case side1 => exact GV.below hgv (hs_)); rintro e w26 ⟨v114, rfl, ho0, hb⟩; refine ⟨_, rfl, ?_⟩; have HO115 := Aside0.mk (Kd.R_lower ho0 (below_size (hs_))); replace BK101 := ab_ BK101 hb; replace HB := Aside0.mk (below_step (hs_) hb); (try clear hb); (try clear hb2); (try clear hk); (try clear hi); (try clear ho0)) | ((with_reducible refine gate_dst (N := 10) rfl ?_); refine be_ (cs := #[.string ⟨#[]⟩, .slice none 0 0, .string ⟨#[]⟩, .string ⟨#[]⟩, .int .i64 0, .int .i64 0, .string ⟨#[]⟩, .string ⟨#[]⟩, .int .i64 0, .int .i64 0, .string ⟨#[]⟩]) (t := 26) ?_; intro gb126 hg w27 hbox hb; replace HO115 := Aside0.mk (Kd.R_below (rk_ HO115.out) hb); have BK126 := Aside0.mk (hbox); have GW126 := Aside0.mk ((by rw [hg]; exact (below_size (hs_)) : w.heap.size ≤ gb126)); have GE126 := Aside0.mk ((by rw [hg]; exact (below_size (hs_)) : w.heap.size ≤ gb126)); replace HB := Aside0.mk (below_step (hs_) hb); have NB101_126 := Aside0.mk (nl2_ hg BK101.out); have NB126_101 := Aside0.mk (ng2_ hg BK101.out); replace BK101 := ab_ BK101 hb; clear hb hbox hg; have hnb28 := NB126_101.out; have hnc28 := NB101_126.out; obtain ⟨Z29_0, Z29_1, Z29_2, Z29_3, Z29_4, Z29_5, Z29_6, Z29_7, Z29_8, Z29_9, Z29_10, F29⟩ := bc11 BK126.out; obtain ⟨Ao30, co30, eo30⟩ := Kd.R_slice HO115.out; subst eo30) | ((with_reducible refine gate_dst (N := 54) rfl ?_); refine Kd.R_lit Kd.string _ 9 ?hg (N := 54) ?hd (xs := ([t112] : List ByteArray)) (inner := [.string t112]) (ok := fun _ => True) (okp := fun _ => True) ?hr ?hp (fun _ hk => hk) trivial (Below.refl _ _) (Nat.le_refl _) (by simp) ?_; (case hd => rfl); (case hg => rfl); (case hr => first | (go_simp; done) | (go_simp; rfl)); (case hp => exact (Reps.one (show Kd.M Kd.string _ _ _ t112 [.string t112] from rfl) (Reps.none _ _))); intro v128 w31 ho32 hb hg_ hnew_; clear hg_ hnew_; (first | rw [← Ny127.out] at ho32 | (simp only [Int.reduceToNat] at ho32; rw [← Ny127.out] at ho32)); have HO129 := Aside0.mk (Kd.R_lower (Kd.R_new' ho32 (Kd.R_lt (by (with_reducible repeat (first | apply Kd.R_alloc | apply Kd.R_drewN | apply Kd.R_drew)); exact (Kd.R_mono (Kd.R_far (p := ⟨gb126, 10, none⟩) (Kd.R_far (p := ⟨gb126, 9, none⟩) (Kd.R_far (p := ⟨gb126, 8, none⟩) (Kd.R_far (p := ⟨gb126, 7, none⟩) (Kd.R_far (p := ⟨gb126, 6, none⟩) (Kd.R_far (p := ⟨gb126, 5, none⟩) (Kd.R_far (p := ⟨gb126, 4, none⟩) (Kd.R_far (p := ⟨gb126, 3, none⟩) (Kd.R_far (p := ⟨gb126, 2, none⟩) (Kd.R_far (p := ⟨gb126, 1, none⟩) (Kd.R_far (p := ⟨gb126, 0, none⟩) (Kd.R_types HO115.out BK126.out (by decide)) (fun _ hk => hk.2) (.string t112)) (fun _ hk => hk.2) (.slice Ao30 t113.length co30)) (fun _ hk => hk.2) (.string t116)) (fun _ hk => hk.2) (.string t117)) (fun _ hk => hk.2) (.int .i64 t118)) (fun _ hk => hk.2) (.int .i64 t119)) (fun _ hk => hk.2) (.string t120)) (fun _ hk => hk.2) (.string t121)) (fun _ hk => hk.2) (.int .i64 t122)) (fun _ hk => hk.2) (.int .i64 t123)) (fun _ hk => hk.2) (.string t124)) (fun _ h_ => h_.1))))) (below_size (hs_))); replace HO115 := Aside0.mk (Kd.R_elder' (by (with_reducible repeat (first | apply Kd.R_alloc | apply Kd.R_drewN | apply Kd.R_drew)); exact (Kd.R_mono (Kd.R_far (p := ⟨gb126, 10, none⟩) (Kd.R_far (p := ⟨gb126, 9, none⟩) (Kd.R_far (p := ⟨gb126, 8, none⟩) (Kd.R_far (p := ⟨gb126, 7, none⟩) (Kd.R_far (p := ⟨gb126, 6, none⟩) (Kd.R_far (p := ⟨gb126, 5, none⟩) (Kd.R_far (p := ⟨gb126, 4, none⟩) (Kd.R_far (p := ⟨gb126, 3, none⟩) (Kd.R_far (p := ⟨gb126, 2, none⟩) (Kd.R_far (p := ⟨gb126, 1, none⟩) (Kd.R_far (p := ⟨gb126, 0, none⟩) (Kd.R_types HO115.out BK126.out (by decide)) (fun _ hk => hk.2) (.string t112)) (fun _ hk => hk.2) (.slice Ao30 t113.length co30)) (fun _ hk => hk.2) (.string t116)) (fun _ hk => hk.2) (.string t117)) (fun _ hk => hk.2) (.int .i64 t118)) (fun _ hk => hk.2) (.int .i64 t119)) (fun _ hk => hk.2) (.string t120)) (fun _ hk => hk.2) (.string t121)) (fun _ hk => hk.2) (.int .i64 t122)) (fun _ hk => hk.2) (.int .i64 t123)) (fun _ hk => hk.2) (.string t124)) (fun _ h_ => h_.1))) (Kd.R_base ho32) hb); replace BK101 := Aside0.mk (blk_below (g := gb101) (o := .cells #[.int .i64 a0_0, .string a0_1] 50 (0, 0)) (by have b_ := BK101; have f_ := NB101_126; exact zb_) hb); replace BK126 := Aside0.mk (blk_below (g := gb126) (o := .cells #[.string t112, .slice Ao30 t113.length co30, .string t116, .string t117, .int .i64 t118, .int .i64 t119, .string t120, .string t121, .int .i64 t122, .int .i64 t123, .string t124] 26 (0, 0)) (by have b_ := BK126; exact zb_) hb); replace HB := Aside0.mk (below_step (hs_) hb); clear hb ho32; obtain ⟨Z33_0, Z33_1, Z33_2, Z33_3, Z33_4, Z33_5, Z33_6, Z33_7, Z33_8, Z33_9, Z33_10, F33⟩ := bc11 BK126.out) | ((with_reducible refine gate_builtin (b := .append) (xs := #[.tmp 54, .tmp 56]) rfl ?_); at_builtin; refine Kd.R_append_rows Kd.string (w0 := w) w.heap.size rfl (.tmp 54) (.tmp 56) 22 9 (.string ⟨#[]⟩) 16 rfl underlying22 info9 rfl (by decide) (by omega) v128 y127 t113 _ _ _ (fun k_ => some k_ ≠ (.slice Ao30 t113.length co30 : Value).ownBlock) (fun _ => False) rfl rfl ?aO ?aR (fun _ _ h => h) (fun _ h => h.elim) ?aF ?aB ?aS ?aL ?_; (case aR => repeat (first | exact (Kd.R_reads' HO115.out).2.2 | (with_reducible refine Kd.C_alloc ?_ _) | (with_reducible refine Kd.C_drewN ?_ _) | (with_reducible refine Kd.C_drew ?_))); (case aB => exact (hs_)); (case aF => exact (fun k_ hk => Kd.fresh' (Kd.R_lt (rk_ HO115.out)) k_ hk)); (case aO => exact (by (with_reducible repeat (first | apply Kd.R_alloc | apply Kd.R_drewN | apply Kd.R_drew)); exact Kd.R_mono HO129.out (fun _ hk => hk.2))); (case aS => exact (below_size (hs_))); (case aL => have := LMc24.out; omega); intro v131 w34 ho hb hg hat; rw [← Ny130.out] at ho; have n0_ := Aside0.mk (blk_grown (g := gb101) (o := .cells #[.int .i64 a0_0, .string a0_1] 50 (0, 0)) (bk_ BK101.out) hg (Kd.R_ne HO129.out BK101.out (by decide))); have n1_ := Aside0.mk (Kd.R_after (ok := (fun _ => True)) (rk_ HO115.out) hg hat); have n2_ := Aside0.mk (blk_grown (g := gb126) (o := .cells #[.string t112, .slice Ao30 t113.length co30, .string t116, .string t117, .int .i64 t118, .int .i64 t119, .string t120, .string t121, .int .i64 t122, .int .i64 t123, .string t124] 26 (0, 0)) (bk_ BK126.out) hg (Kd.R_ne HO129.out BK126.out (by decide))); have n3_ := Aside0.mk (hb); have n4_ := Aside0.mk (ho); clear BK101; clear HO115; clear BK126; clear HB; clear HO129; have BK101 := n0_; have HO115 := n1_; have BK126 := n2_; have HB := n3_; have HO132 := n4_; clear n0_ n1_ n2_ n3_ n4_; clear ho hb hg hat))
  go_meet
  case rel => exact ⟨_, (y130), H', ⟨z4_⟩, ⟨by (with_reducible repeat (first | apply Kd.R_alloc | apply Kd.R_drewN | apply Kd.R_drew)); exact Kd.R_mono HO132.out (fun _ hk => trivial)⟩, ⟨bk_ BK101.out⟩, ⟨hs_⟩⟩
 case rest =>
  clear HC4; try clear c1
  try clear p1
  try clear q1
  try clear hx1
  try clear c2
  try clear p2
  try clear c3
  try clear c3b0
  try clear c3b1
  try clear c4
  try clear p6
  try clear c9
  try clear c9b0
  try clear c9b1
  try clear p10
  try clear q10
  try clear hx10
  try clear c14
  try clear c14b0
  try clear c15
  try clear c15b0
  try clear c16
  try clear c16b0
  try clear c17
  try clear c19
  try clear c20
  try clear c22
  try clear c22b0
  try clear c22b1
  try clear c23
  try clear c24
  try clear c28
  try clear c34
  try clear c35
  try clear c35b0
  try clear c35b1
  try clear c36
  try clear c40
  try clear Z11_0 Z11_1
  try clear Z20_0 Z20_1 Z20_2
  try clear Z25_0 Z25_1
  try clear Z29_0 Z29_1 Z29_10 Z29_2 Z29_3 Z29_4 Z29_5 Z29_6 Z29_7 Z29_8 Z29_9
  try clear Z33_0 Z33_1 Z33_10 Z33_2 Z33_3 Z33_4 Z33_5 Z33_6 Z33_7 Z33_8 Z33_9
  try clear Z37_0 Z37_1
  try clear Z41_0 Z41_1 Z41_2 Z41_3 Z41_4 Z41_5 Z41_6 Z41_7
  try clear Z6_0 Z6_1
  try clear Z8_0 Z8_1
  try clear F11
  try clear F20
  try clear F25
  try clear F29
  try clear F33
  try clear F37
  try clear F41
  try clear F6
  try clear F8
  try clear hx107_0
  try clear hx107_1
  try clear hx107_2
  try clear p107
  try clear p2
  try clear q107
  obtain ⟨kq, x5_3, HA, HJ3, HO_5, BK101, HB⟩ := hcut
  cases kq with
  | zero => exact absurd HA.out (by simp [commit_Links.j1])
  | succ kj3 =>
   have H := HA.out; clear HA; simp only [commit_Links.j1] at H; have H' := Aside0.mk H; clear H; obtain ⟨Ao44, co44, eo44⟩ := Kd.R_slice HO_5.out; subst eo44; go_wp2
   go_loopg [14, 71] kj3 (fun kq v14 v71 w' => ∃ (x14_2 : List ByteArray) (x71_2 : Int), v71 = .int .i64 x71_2 ∧ Aside0 (commit_Links.l1 kq x14_2 x5_3 (x5_3.length : Int) x71_2 = some (r1, r2)) ∧ Aside0 (kq ≤ kj3) ∧ Aside0 (Kd.R Kd.string 9 w' w.heap.size (fun k_ => some k_ ≠ ((.slice Ao44 x5_3.length co44) : Value).ownBlock) v14 x14_2) ∧ Aside0 (Kd.R Kd.string 9 w' w.heap.size (fun k_ => some k_ ≠ (v14 : Value).ownBlock) (.slice Ao44 x5_3.length co44) x5_3) ∧ Aside0 (w'.heap[gb101]? = some (.cells #[.int .i64 a0_0, .string a0_1] 50 (0, 0))) ∧ Aside0 (Below w.heap.size w w'))
   case atStart => exact ⟨(([] : List ByteArray)), (0), z1_, H', ⟨Nat.le_refl _⟩, ⟨z6_⟩, ⟨by (with_reducible repeat (first | apply Kd.R_alloc | apply Kd.R_drewN | apply Kd.R_drew)); exact Kd.R_mono HO_5.out (fun _ hk => (by simp [Value.ownBlock]))⟩, ⟨bk_ BK101.out⟩, ⟨hs_⟩⟩
   case round =>
    clear H'; try clear c1
    try clear p1
    try clear q1
    try clear hx1
    try clear c2
    try clear p2
    try clear c3
    try clear c3b0
    try clear c3b1
    try clear c4
    try clear p6
    try clear c9
    try clear c9b0
    try clear c9b1
    try clear p10
    try clear q10
    try clear hx10
    try clear c14
    try clear c14b0
    try clear c15
    try clear c15b0
    try clear c16
    try clear c16b0
    try clear c17
    try clear c19
    try clear c20
    try clear c22
    try clear c22b0
    try clear c22b1
    try clear c23
    try clear c24
    try clear c28
    try clear c34
    try clear c35
    try clear c35b0
    try clear c35b1
    try clear c36
    try clear c40
    try clear Z11_0 Z11_1
    try clear Z20_0 Z20_1 Z20_2
    try clear Z25_0 Z25_1
    try clear Z29_0 Z29_1 Z29_10 Z29_2 Z29_3 Z29_4 Z29_5 Z29_6 Z29_7 Z29_8 Z29_9
    try clear Z33_0 Z33_1 Z33_10 Z33_2 Z33_3 Z33_4 Z33_5 Z33_6 Z33_7 Z33_8 Z33_9
    try clear Z37_0 Z37_1
    try clear Z41_0 Z41_1 Z41_2 Z41_3 Z41_4 Z41_5 Z41_6 Z41_7
    try clear Z6_0 Z6_1
    try clear Z8_0 Z8_1
    try clear F11
    try clear F20
    try clear F25
    try clear F29
    try clear F33
    try clear F37
    try clear F41
    try clear F6
    try clear F8
    try clear hx107_0
    try clear hx107_1
    try clear hx107_2
    try clear p1
    try clear p10
    try clear p107
    try clear p2
    try clear p6
    try clear q1
    try clear q10
    try clear q107
    obtain ⟨x14_2, x71_2, rfl, HA, HK2, HO_14, HO_69, BK101, HB⟩ := hrel
    cases gk with
    | zero => exact absurd HA.out (by simp [commit_Links.l1])
    | succ k2 =>
     have H := HA.out; clear HA; simp only [commit_Links.l1] at H; by_cases c45 : x71_2 < (x5_3.length : Int); rotate_left
     ·rw [if_neg c45] at H; have c45b0 := df_ c45; clear c45; obtain ⟨rfl, rfl⟩ := pj2_ H; go_wp2
      go_ret2
      exact ⟨_, z3_, by (with_reducible repeat (first | apply Kd.R_alloc | apply Kd.R_drewN | apply Kd.R_drew)); exact Kd.R_mono HO_14.out (fun _ hk => trivial), hs_⟩
     rw [if_pos c45] at H; have c45b0 := dt_ c45; clear c45; by_cases c46 : 0 ≤ x71_2; rotate_left
     ·rw [if_neg c46] at H; exact no_ H
     rw [if_pos c46] at H; have c46b0 := dt_ c46; clear c46; by_cases c47 : x71_2 < (x5_3.length : Int); rotate_left
     ·rw [if_neg c47] at H; exact no_ H
     rw [if_pos c47] at H; have c47b0 := dt_ c47; clear c47; obtain ⟨t147, A48, H⟩ := bx_ H; by_cases c49 : t147 = true
     ·subst c49; rw [if_pos rfl] at H; have H' := Aside0.mk H; clear H; have p146 : 0 ≤ (x71_2 : Int) := y0_; have q146 : x71_2 < (x5_3.length : Int) := y0_; obtain ⟨ad146, e146, hx146_0⟩ := Kd.at_string (Kd.R_reads' HO_69.out).2.2 x71_2 p146 q146
      cases e146
      replace p146 := eq_true p146; replace q146 := eq_true q146; obtain ⟨Ao50, co50, eo50⟩ := Kd.R_slice HO_14.out; subst eo50; go_wp2_with (first | ((with_reducible refine gate_callee (f := 95) rfl ?_); refine gl_ (some 77) func95 #[.slice Ao50 x14_2.length co50, .string (rdOf ByteArray.empty x5_3 x71_2)] ?_; (with_reducible refine (slices_Contains_string_string.calls k2 _ _ x14_2 (rdOf ByteArray.empty x5_3 x71_2) true _ ?side1 ?side2 A48.out).mono ?_); (case side1 => repeat (first | exact (Kd.R_reads' HO_14.out).2.2 | (with_reducible refine Kd.C_alloc ?_ _) | (with_reducible refine Kd.C_drewN ?_ _) | (with_reducible refine Kd.C_drew ?_))); (case side2 => exact (Kd.R_reads' HO_14.out).2.1); rintro e w' ⟨rfl, ⟨nd, rfl⟩⟩; refine ⟨_, rfl, ?_⟩)); go_roundg k2
      case measure => have := HJ3.out; have := HK2.out; omega
      case rel => exact ⟨(x14_2), (wrap64 (x71_2 + 1)), z1_, H', ⟨by have := HJ3.out; have := HK2.out; omega⟩, ⟨by (with_reducible repeat (first | apply Kd.R_alloc | apply Kd.R_drewN | apply Kd.R_drew)); exact HO_14.out⟩, ⟨by (with_reducible repeat (first | apply Kd.R_alloc | apply Kd.R_drewN | apply Kd.R_drew)); exact HO_69.out⟩, ⟨bk_ BK101.out⟩, ⟨hs_⟩⟩
     replace c49 := Bool.eq_false_iff.mpr c49; subst c49; rw [if_neg nft_] at H; by_cases c51 : x14_2.length < 8796093022208; rotate_left
     ·rw [if_neg c51] at H; exact no_ H
     rw [if_pos c51] at H; have LMc51 := Aside0.mk c51; clear c51; obtain ⟨y148, hy148⟩ : ∃ y_ : List ByteArray, y_ = (x14_2 ++ [rdOf ByteArray.empty x5_3 x71_2]) := ⟨_, rfl⟩; replace H : (commit_Links.l1 k2 y148 x5_3 (x5_3.length : Int) (wrap64 (x71_2 + 1))) = some (r1, r2) := by first | (rw [hy148]; with_reducible exact H) | (have H2_ := (Option.bind_some _ _).symm.trans H; rw [hy148]; with_reducible exact H2_) | (have H2_ := (Option.bind_some _ _).symm.trans H; with_reducible exact H2_) | with_reducible exact H | (rw [hy148]; exact H) | exact H
     have Ny148 := Aside0.mk hy148; clear hy148; have H' := Aside0.mk H; clear H; have p146 : 0 ≤ (x71_2 : Int) := y0_; have q146 : x71_2 < (x5_3.length : Int) := y0_; obtain ⟨ad146, e146, hx146_0⟩ := Kd.at_string (Kd.R_reads' HO_69.out).2.2 x71_2 p146 q146
     cases e146
     replace p146 := eq_true p146; replace q146 := eq_true q146; obtain ⟨Ao52, co52, eo52⟩ := Kd.R_slice HO_14.out; subst eo52; go_wp2_with (first | ((with_reducible refine gate_callee (f := 95) rfl ?_); refine gl_ (some 77) func95 #[.slice Ao52 x14_2.length co52, .string (rdOf ByteArray.empty x5_3 x71_2)] ?_; (with_reducible refine (slices_Contains_string_string.calls k2 _ _ x14_2 (rdOf ByteArray.empty x5_3 x71_2) false _ ?side1 ?side2 A48.out).mono ?_); (case side1 => repeat (first | exact (Kd.R_reads' HO_14.out).2.2 | (with_reducible refine Kd.C_alloc ?_ _) | (with_reducible refine Kd.C_drewN ?_ _) | (with_reducible refine Kd.C_drew ?_))); (case side2 => exact (Kd.R_reads' HO_14.out).2.1); rintro e w' ⟨rfl, ⟨nd, rfl⟩⟩; refine ⟨_, rfl, ?_⟩) | ((with_reducible refine gate_builtin (b := .append) (xs := #[.tmp 79, .tmp 81]) rfl ?_); at_builtin; refine Kd.R_append Kd.string (w0 := w) w.heap.size rfl (.tmp 79) (.tmp 81) 22 9 (.string ⟨#[]⟩) 16 rfl underlying22 info9 rfl (by decide) (by omega) (.slice Ao52 x14_2.length co52) x14_2 (rdOf ByteArray.empty x5_3 x71_2) [.string (rdOf ByteArray.empty x5_3 x71_2)] (fun k_ => some k_ ≠ (.slice (some ad146) x5_3.length co44 : Value).ownBlock) (fun _ => False) rfl rfl ?aP (fun _ hk => hk.elim) ?aF ?aO ?aB ?aS ?aL ?_; (case aP => exact rfl); (case aB => exact (hs_)); (case aF => exact (fun k_ hk => Kd.fresh' (Kd.R_lt (rk_ HO_69.out)) k_ hk)); (case aO => exact (rk_ HO_14.out)); (case aS => exact (below_size (hs_))); (case aL => have := LMc51.out; omega); intro v149 w53 ho hb hg hat; rw [← Ny148.out] at ho; have n0_ := Aside0.mk (Kd.R_after (ok := (fun _ => True)) (by (with_reducible repeat (first | apply Kd.R_alloc | apply Kd.R_drewN | apply Kd.R_drew)); exact Kd.R_mono HO_69.out (fun _ hk => ⟨trivial, hk⟩)) hg hat); have n1_ := Aside0.mk (blk_grown (g := gb101) (o := .cells #[.int .i64 a0_0, .string a0_1] 50 (0, 0)) (bk_ BK101.out) hg (Kd.R_ne HO_14.out BK101.out (by decide))); have n2_ := Aside0.mk (hb); have n3_ := Aside0.mk (ho); clear HO_69; clear BK101; clear HB; clear HO_14; have HO_69 := n0_; have BK101 := n1_; have HB := n2_; have HO150 := n3_; clear n0_ n1_ n2_ n3_; clear ho hb hg hat)); go_roundg k2
     case measure => have := HJ3.out; have := HK2.out; omega
     case rel => exact ⟨(y148), (wrap64 (x71_2 + 1)), z1_, H', ⟨by have := HJ3.out; have := HK2.out; omega⟩, ⟨by (with_reducible repeat (first | apply Kd.R_alloc | apply Kd.R_drewN | apply Kd.R_drew)); exact HO150.out⟩, ⟨by (with_reducible repeat (first | apply Kd.R_alloc | apply Kd.R_drewN | apply Kd.R_drew)); exact Kd.R_mono HO_69.out (fun _ hk => hk.2)⟩, ⟨bk_ BK101.out⟩, ⟨hs_⟩⟩
def graftagelaw16_who.f  : Option (ByteArray × ByteArray × Int × Int) := some ((⟨#[97]⟩ : ByteArray), (⟨#[97, 64, 98]⟩ : ByteArray), 5, 60)
theorem graftagelaw16_who.calls  (r1 : ByteArray) (r2 : ByteArray) (r3 : Int) (r4 : Int) (w : World) (h : graftagelaw16_who.f  = some (r1, r2, r3, r4)) :
  Calls Tryz.prog 63 #[] w fun e w' => e = .returned (.agg #[.string r1, .string r2, .int .i64 r3, .int .i64 r4]) ∧ Below w.heap.size w w' := by
 have hu24 := underlying24; have HB := Aside0.mk (Below.refl w.heap.size w); unfold graftagelaw16_who.f at h; have H := h; clear h; obtain ⟨rfl, rfl, rfl, rfl⟩ := pj4_ H; go_enter func63, ntmps63; go_wp2_with (first | ((with_reducible refine gate_dst (N := 0) rfl ?_); refine be_ (cs := #[.string ⟨#[]⟩, .string ⟨#[]⟩, .int .i64 0, .int .i64 0]) (t := 24) ?_; intro gb139 hg w1 hbox hb; have BK139 := Aside0.mk (hbox); have GW139 := ag_ hg HB; have GE139 := ag_ hg HB; replace HB := ah_ HB hb; clear hb hbox hg; obtain ⟨Z2_0, Z2_1, Z2_2, Z2_3, F2⟩ := bc4 BK139.out)); refine bodyPost_ret (results_cell_row rfl _ _ gb139 24 #[.string ⟨#[97]⟩, .string ⟨#[97, 64, 98]⟩, .int .i64 5, .int .i64 60] (0, 0) _ rfl (by have b_ := BK139; exact zb_) underlying24 rfl (by kernel_rfl)) rfl ?_; exact ⟨z3_, hs_⟩
def graftagelaw16_lives.f (k : Nat)  : Option (Bool) := (commit_ParseWho.f k ⟨#[97, 32, 60, 97, 64, 98, 62, 32, 53, 32, 45, 48, 49, 51, 48]⟩).bind fun bt101 => ((commit_ParseWho.f k ⟨#[97, 32, 60, 98, 62, 32, 48, 53, 32, 43, 48, 48, 48, 48]⟩).bind fun bt107 => ((graftagelaw16_who.f).bind fun bt113 => ((graftagelaw16_who.f).bind fun bt117 => ((commit_Body.f k ⟨#[48, 49, 50, 51, 52, 53, 54, 55, 56, 57, 97, 98, 99, 100, 101, 102, 48, 49, 50, 51, 52, 53, 54, 55, 56, 57, 97, 98, 99, 100, 101, 102, 48, 49, 50, 51, 52, 53, 54, 55]⟩ ([] : List ByteArray) bt113.1 bt113.2.1 bt113.2.2.1 bt113.2.2.2 bt117.1 bt117.2.1 bt117.2.2.1 bt117.2.2.2 ⟨#[120, 10]⟩).bind fun bt121 => ((commit_Links.f k 3 bt121.1).bind fun bt123 => ((graftagelaw16_who.f).bind fun bt127 => ((commit_TagBody.f k ⟨#[48, 49, 50, 51, 52, 53, 54, 55, 56, 57, 97, 98, 99, 100, 101, 102, 48, 49, 50, 51, 52, 53, 54, 55, 56, 57, 97, 98, 99, 100, 101, 102, 48, 49, 50, 51, 52, 53, 54, 55]⟩ 5 ⟨#[118]⟩ bt127.1 bt127.2.1 bt127.2.2.1 bt127.2.2.2 ⟨#[]⟩).bind fun bt131 => ((graftagelaw16_who.f).bind fun bt133 => ((commit_Who.f bt133.1 bt133.2.1 bt133.2.2.1 bt133.2.2.2).bind fun t137 => (if t137.toList = ([97, 32, 60, 97, 64, 98, 62, 32, 53, 32, 43, 48, 49, 48, 48] : List UInt8) then (if bt101.2.2.2.1 = (-90) then (if bt101.2.2.2.2 = 0 then (if bt107.2.2.2.2 = 2 then (if bt121.1.toList = ([116, 114, 101, 101, 32, 48, 49, 50, 51, 52, 53, 54, 55, 56, 57, 97, 98, 99, 100, 101, 102, 48, 49, 50, 51, 52, 53, 54, 55, 56, 57, 97, 98, 99, 100, 101, 102, 48, 49, 50, 51, 52, 53, 54, 55, 10, 97, 117, 116, 104, 111, 114, 32, 97, 32, 60, 97, 64, 98, 62, 32, 53, 32, 43, 48, 49, 48, 48, 10, 99, 111, 109, 109, 105, 116, 116, 101, 114, 32, 97, 32, 60, 97, 64, 98, 62, 32, 53, 32, 43, 48, 49, 48, 48, 10, 10, 120, 10] : List UInt8) then (if bt121.2 = 0 then (if (bt123.1.length : Int) = 1 then (if 0 < (bt123.1.length : Int) then (if (rdOf ByteArray.empty bt123.1 0).toList = ([48, 49, 50, 51, 52, 53, 54, 55, 56, 57, 97, 98, 99, 100, 101, 102, 48, 49, 50, 51, 52, 53, 54, 55, 56, 57, 97, 98, 99, 100, 101, 102, 48, 49, 50, 51, 52, 53, 54, 55] : List UInt8) then (if bt123.2 = 0 then (if bt131.2 = 1 then ((commit_Whole.f k 3 ⟨#[120]⟩).bind fun t139 => (some (t139 == 2))) else (some false)) else (some false)) else (some false)) else (none)) else (some false)) else (some false)) else (some false)) else (some false)) else (some false)) else (some false)) else (some false)))))))))))
theorem graftagelaw16_lives.mono : ∀ k, LeO (graftagelaw16_lives.f k ) (graftagelaw16_lives.f (k + 1) ) := by
 intro  k; unfold graftagelaw16_lives.f; have m0_ := @commit_Body.mono; have m1_ := @commit_Links.mono; have m2_ := @commit_ParseWho.mono; have m3_ := @commit_TagBody.mono; have m4_ := @commit_Whole.mono; exact mz_
theorem graftagelaw16_lives.callsT (k : Nat)  (r : Bool) (w : World) (hgv : GV w) (hr_ : r = true) (h : graftagelaw16_lives.f k  = some r) :
  Calls Tryz.prog 15 #[] w fun e w' => e = .returned (.bool r) ∧ Below w.heap.size w w' := by
 have hu24 := underlying24; have hu26 := underlying26; have hu50 := underlying50; have hu37 := underlying37; have HB := Aside0.mk (Below.refl w.heap.size w); unfold graftagelaw16_lives.f at h; have H := h; clear h; obtain ⟨⟨t101, t102, t103, t104, t105⟩, A1, H⟩ := bx_ H; dsimp only at H; obtain ⟨⟨t107, t108, t109, t110, t111⟩, A2, H⟩ := bx_ H; dsimp only at H; obtain ⟨⟨t113, t114, t115, t116⟩, A3, H⟩ := bx_ H; dsimp only at H; obtain ⟨⟨t117, t118, t119, t120⟩, A4, H⟩ := bx_ H; dsimp only at H; obtain ⟨⟨t121, t122⟩, A5, H⟩ := bx_ H; dsimp only at H; obtain ⟨⟨t123, t126⟩, A6, H⟩ := bx_ H; dsimp only at H; obtain ⟨⟨t127, t128, t129, t130⟩, A7, H⟩ := bx_ H; dsimp only at H; obtain ⟨⟨t131, t132⟩, A8, H⟩ := bx_ H; dsimp only at H; obtain ⟨⟨t133, t134, t135, t136⟩, A9, H⟩ := bx_ H; dsimp only at H; obtain ⟨t137, A10, H⟩ := bx_ H; by_cases c11 : t137.toList = ([97, 32, 60, 97, 64, 98, 62, 32, 53, 32, 43, 48, 49, 48, 48] : List UInt8); rotate_left
 ·rw [if_neg c11] at H; have c11b0 := ef_ c11; have c11b1 := nt_ c11; exact absurd ((Option.some.inj H).trans hr_) (by simp)
 rw [if_pos c11] at H; have c11b0 := et_ c11; have c11b1 := nf_ c11; clear c11; by_cases c12 : t104 = (-90); rotate_left
 ·rw [if_neg c12] at H; have c12b0 := ef_ c12; have c12b1 := nt_ c12; exact absurd ((Option.some.inj H).trans hr_) (by simp)
 rw [if_pos c12] at H; have c12b0 := et_ c12; have c12b1 := nf_ c12; clear c12; by_cases c13 : t105 = 0; rotate_left
 ·rw [if_neg c13] at H; have c13b0 := ef_ c13; have c13b1 := nt_ c13; exact absurd ((Option.some.inj H).trans hr_) (by simp)
 rw [if_pos c13] at H; have c13b0 := et_ c13; have c13b1 := nf_ c13; clear c13; by_cases c14 : t111 = 2; rotate_left
 ·rw [if_neg c14] at H; have c14b0 := ef_ c14; have c14b1 := nt_ c14; exact absurd ((Option.some.inj H).trans hr_) (by simp)
 rw [if_pos c14] at H; have c14b0 := et_ c14; have c14b1 := nf_ c14; clear c14; by_cases c15 : t121.toList = ([116, 114, 101, 101, 32, 48, 49, 50, 51, 52, 53, 54, 55, 56, 57, 97, 98, 99, 100, 101, 102, 48, 49, 50, 51, 52, 53, 54, 55, 56, 57, 97, 98, 99, 100, 101, 102, 48, 49, 50, 51, 52, 53, 54, 55, 10, 97, 117, 116, 104, 111, 114, 32, 97, 32, 60, 97, 64, 98, 62, 32, 53, 32, 43, 48, 49, 48, 48, 10, 99, 111, 109, 109, 105, 116, 116, 101, 114, 32, 97, 32, 60, 97, 64, 98, 62, 32, 53, 32, 43, 48, 49, 48, 48, 10, 10, 120, 10] : List UInt8); rotate_left
 ·rw [if_neg c15] at H; have c15b0 := ef_ c15; have c15b1 := nt_ c15; exact absurd ((Option.some.inj H).trans hr_) (by simp)
 rw [if_pos c15] at H; have c15b0 := et_ c15; have c15b1 := nf_ c15; clear c15; by_cases c16 : t122 = 0; rotate_left
 ·rw [if_neg c16] at H; have c16b0 := ef_ c16; have c16b1 := nt_ c16; exact absurd ((Option.some.inj H).trans hr_) (by simp)
 rw [if_pos c16] at H; have c16b0 := et_ c16; have c16b1 := nf_ c16; clear c16; by_cases c17 : (t123.length : Int) = 1; rotate_left
 ·rw [if_neg c17] at H; have c17b0 := ef_ c17; have c17b1 := nt_ c17; exact absurd ((Option.some.inj H).trans hr_) (by simp)
 rw [if_pos c17] at H; have c17b0 := et_ c17; have c17b1 := nf_ c17; clear c17; by_cases c18 : 0 < (t123.length : Int); rotate_left
 ·rw [if_neg c18] at H; exact no_ H
 rw [if_pos c18] at H; have c18b0 := dt_ c18; have c18b1 : decide (0 < t123.length) = true := decide_eq_true (by omega); clear c18; by_cases c19 : (rdOf ByteArray.empty t123 0).toList = ([48, 49, 50, 51, 52, 53, 54, 55, 56, 57, 97, 98, 99, 100, 101, 102, 48, 49, 50, 51, 52, 53, 54, 55, 56, 57, 97, 98, 99, 100, 101, 102, 48, 49, 50, 51, 52, 53, 54, 55] : List UInt8); rotate_left
 ·rw [if_neg c19] at H; have c19b0 := ef_ c19; have c19b1 := nt_ c19; exact absurd ((Option.some.inj H).trans hr_) (by simp)
 rw [if_pos c19] at H; have c19b0 := et_ c19; have c19b1 := nf_ c19; clear c19; by_cases c20 : t126 = 0; rotate_left
 ·rw [if_neg c20] at H; have c20b0 := ef_ c20; have c20b1 := nt_ c20; exact absurd ((Option.some.inj H).trans hr_) (by simp)
 rw [if_pos c20] at H; have c20b0 := et_ c20; have c20b1 := nf_ c20; clear c20; by_cases c21 : t132 = 1; rotate_left
 ·rw [if_neg c21] at H; have c21b0 := ef_ c21; have c21b1 := nt_ c21; exact absurd ((Option.some.inj H).trans hr_) (by simp)
 rw [if_pos c21] at H; have c21b0 := et_ c21; have c21b1 := nf_ c21; clear c21; obtain ⟨t139, A22, H⟩ := bx_ H; obtain rfl := oi_ H; go_enter func15, ntmps15; have tk1_ : True := trivial; have tk2_ : True := trivial; have tk3_ : True := trivial; have tk4_ : True := trivial; have tk5_ : True := trivial; have tk6_ : True := trivial; go_wp2_with (first | (have _t := tk1_; (with_reducible refine gate_callee (f := 29) rfl ?_); refine gl_ (some 12) func29 #[.string ⟨#[97, 32, 60, 97, 64, 98, 62, 32, 53, 32, 45, 48, 49, 51, 48]⟩] ?_; (with_reducible refine (commit_ParseWho.calls k ⟨#[97, 32, 60, 97, 64, 98, 62, 32, 53, 32, 45, 48, 49, 51, 48]⟩ t101 t102 t103 t104 t105 _ ?side1 A1.out).mono ?_); (case side1 => exact GV.below hgv (hb_ HB.out)); rintro e w23 ⟨rfl, hb⟩; refine ⟨_, rfl, ?_⟩; replace HB := ah_ HB hb; (try clear hb); (try clear hb2); (try clear hk); (try clear hi); clear tk1_) | ((with_reducible refine gate_dst (N := 1) rfl ?_); (try (refine gate_guard (by rfl) ?_; dsimp only)); refine be_ (cs := #[.string ⟨#[]⟩, .string ⟨#[]⟩, .int .i64 0, .int .i64 0]) (t := 24) ?_; intro gb106 hg w24 hbox hb; have BK106 := Aside0.mk (hbox); have GW106 := ag_ hg HB; have GE106 := ag_ hg HB; replace HB := ah_ HB hb; clear hb hbox hg; obtain ⟨Z25_0, Z25_1, Z25_2, Z25_3, F25⟩ := bc4 BK106.out) | (have _t := tk2_; (with_reducible refine gate_callee (f := 29) rfl ?_); refine gl_ (some 16) func29 #[.string ⟨#[97, 32, 60, 98, 62, 32, 48, 53, 32, 43, 48, 48, 48, 48]⟩] ?_; (with_reducible refine (commit_ParseWho.calls k ⟨#[97, 32, 60, 98, 62, 32, 48, 53, 32, 43, 48, 48, 48, 48]⟩ t107 t108 t109 t110 t111 _ ?side1 A2.out).mono ?_); (case side1 => exact GV.below hgv (hs_)); rintro e w26 ⟨rfl, hb⟩; refine ⟨_, rfl, ?_⟩; replace BK106 := Aside0.mk (blk_below (g := gb106) (o := .cells #[.string t101, .string t102, .int .i64 t103, .int .i64 t104] 24 (0, 0)) (by have b_ := BK106; exact zb_) hb); replace HB := Aside0.mk (below_step (hs_) hb); (try clear hb); (try clear hb2); (try clear hk); (try clear hi); clear tk2_) | ((with_reducible refine gate_dst (N := 3) rfl ?_); (try (refine gate_guard (by rfl) ?_; dsimp only)); refine be_ (cs := #[.string ⟨#[]⟩, .string ⟨#[]⟩, .int .i64 0, .int .i64 0]) (t := 24) ?_; intro gb112 hg w27 hbox hb; have BK112 := Aside0.mk (hbox); have GW112 := Aside0.mk ((by rw [hg]; exact (below_size (hs_)) : w.heap.size ≤ gb112)); have GE112 := Aside0.mk ((by rw [hg]; exact (below_size (hs_)) : w.heap.size ≤ gb112)); replace HB := Aside0.mk (below_step (hs_) hb); have NB106_112 := Aside0.mk (nl2_ hg BK106.out); have NB112_106 := Aside0.mk (ng2_ hg BK106.out); replace BK106 := ab_ BK106 hb; clear hb hbox hg; have hnb28 := NB112_106.out; have hnc28 := NB106_112.out; obtain ⟨Z29_0, Z29_1, Z29_2, Z29_3, F29⟩ := bc4 BK112.out) | (have _t := tk3_; (with_reducible refine gate_callee (f := 63) rfl ?_); refine gl_ (some 20) func63 #[] ?_; refine cm_ (graftagelaw16_who.calls  t113 t114 t115 t116 _ A3.out) fun w30 hb => ?_; replace BK106 := Aside0.mk (blk_below (g := gb106) (o := .cells #[.string t101, .string t102, .int .i64 t103, .int .i64 t104] 24 (0, 0)) (by have b_ := BK106; have f_ := NB106_112; exact zb_) hb); replace BK112 := Aside0.mk (blk_below (g := gb112) (o := .cells #[.string t107, .string t108, .int .i64 t109, .int .i64 t110] 24 (0, 0)) (by have b_ := BK112; exact zb_) hb); replace HB := Aside0.mk (below_step (hs_) hb); (try clear hb); (try clear hb2); (try clear hk); (try clear hi); clear tk3_) | (have _t := tk4_; (with_reducible refine gate_callee (f := 63) rfl ?_); refine gl_ (some 21) func63 #[] ?_; refine cm_ (graftagelaw16_who.calls  t117 t118 t119 t120 _ A4.out) fun w31 hb => ?_; replace BK106 := ab_ BK106 hb; replace BK112 := ab_ BK112 hb; replace HB := Aside0.mk (below_step (hs_) hb); (try clear hb); (try clear hb2); (try clear hk); (try clear hi); clear tk4_) | ((with_reducible refine gate_callee (f := 16) rfl ?_); refine gl_ (some 23) func16 #[.agg #[.string ⟨#[48, 49, 50, 51, 52, 53, 54, 55, 56, 57, 97, 98, 99, 100, 101, 102, 48, 49, 50, 51, 52, 53, 54, 55, 56, 57, 97, 98, 99, 100, 101, 102, 48, 49, 50, 51, 52, 53, 54, 55]⟩, .slice none 0 0, .string t113, .string t114, .int .i64 t115, .int .i64 t116, .string t117, .string t118, .int .i64 t119, .int .i64 t120, .string ⟨#[120, 10]⟩]] ?_; (refine (commit_Body.calls k ⟨#[48, 49, 50, 51, 52, 53, 54, 55, 56, 57, 97, 98, 99, 100, 101, 102, 48, 49, 50, 51, 52, 53, 54, 55, 56, 57, 97, 98, 99, 100, 101, 102, 48, 49, 50, 51, 52, 53, 54, 55]⟩ _ _ ([] : List ByteArray) t113 t114 t115 t116 t117 t118 t119 t120 ⟨#[120, 10]⟩ t121 t122 _ ?side1 ?side2 ?side3 A5.out).mono ?_); (case side1 => exact Kd.C_nil _ _); (case side2 => exact Nat.le_refl _); (case side3 => exact GV.below hgv (hs_)); rintro e w32 ⟨rfl, hb⟩; refine ⟨_, rfl, ?_⟩; replace BK106 := ab_ BK106 hb; replace BK112 := ab_ BK112 hb; replace HB := Aside0.mk (below_step (hs_) hb); (try clear hb); (try clear hb2); (try clear hk); (try clear hi)) | ((with_reducible refine gate_callee (f := 34) rfl ?_); refine gl_ (some 29) func34 #[.agg #[.int .i64 3, .string t121]] ?_; (with_reducible refine (commit_Links.calls k 3 t121 t123 t126 _ ?side1 A6.out).mono ?_); (case side1 => exact GV.below hgv (hs_)); rintro e w33 ⟨v124, rfl, ho0, hb⟩; refine ⟨_, rfl, ?_⟩; have HO125 := Aside0.mk (Kd.R_lower ho0 (below_size (hs_))); replace BK106 := ab_ BK106 hb; replace BK112 := ab_ BK112 hb; replace HB := Aside0.mk (below_step (hs_) hb); (try clear hb); (try clear hb2); (try clear hk); (try clear hi); (try clear ho0)) | (have _t := tk5_; (with_reducible refine gate_callee (f := 63) rfl ?_); refine gl_ (some 33) func63 #[] ?_; refine cm_ (graftagelaw16_who.calls  t127 t128 t129 t130 _ A7.out) fun w34 hb => ?_; replace HO125 := Aside0.mk (Kd.R_below (rk_ HO125.out) hb); replace BK106 := ab_ BK106 hb; replace BK112 := ab_ BK112 hb; replace HB := Aside0.mk (below_step (hs_) hb); (try clear hb); (try clear hb2); (try clear hk); (try clear hi); clear tk5_) | ((with_reducible refine gate_callee (f := 25) rfl ?_); refine gl_ (some 35) func25 #[.agg #[.string ⟨#[48, 49, 50, 51, 52, 53, 54, 55, 56, 57, 97, 98, 99, 100, 101, 102, 48, 49, 50, 51, 52, 53, 54, 55, 56, 57, 97, 98, 99, 100, 101, 102, 48, 49, 50, 51, 52, 53, 54, 55]⟩, .int .i64 5, .string ⟨#[118]⟩, .string t127, .string t128, .int .i64 t129, .int .i64 t130, .string ⟨#[]⟩]] ?_; (with_reducible refine (commit_TagBody.calls k ⟨#[48, 49, 50, 51, 52, 53, 54, 55, 56, 57, 97, 98, 99, 100, 101, 102, 48, 49, 50, 51, 52, 53, 54, 55, 56, 57, 97, 98, 99, 100, 101, 102, 48, 49, 50, 51, 52, 53, 54, 55]⟩ 5 ⟨#[118]⟩ t127 t128 t129 t130 ⟨#[]⟩ t131 t132 _ ?side1 A8.out).mono ?_); (case side1 => exact GV.below hgv (hs_)); rintro e w35 ⟨rfl, hb⟩; refine ⟨_, rfl, ?_⟩; replace HO125 := Aside0.mk (Kd.R_below (rk_ HO125.out) hb); replace BK106 := ab_ BK106 hb; replace BK112 := ab_ BK112 hb; replace HB := Aside0.mk (below_step (hs_) hb); (try clear hb); (try clear hb2); (try clear hk); (try clear hi)) | (have _t := tk6_; (with_reducible refine gate_callee (f := 63) rfl ?_); refine gl_ (some 38) func63 #[] ?_; refine cm_ (graftagelaw16_who.calls  t133 t134 t135 t136 _ A9.out) fun w36 hb => ?_; replace HO125 := Aside0.mk (Kd.R_below (rk_ HO125.out) hb); replace BK106 := ab_ BK106 hb; replace BK112 := ab_ BK112 hb; replace HB := Aside0.mk (below_step (hs_) hb); (try clear hb); (try clear hb2); (try clear hk); (try clear hi); clear tk6_) | ((with_reducible refine gate_callee (f := 31) rfl ?_); refine gl_ (some 39) func31 #[.agg #[.string t133, .string t134, .int .i64 t135, .int .i64 t136]] ?_; (with_reducible refine (commit_Who.calls t133 t134 t135 t136 t137 _ ?side1 A10.out).mono ?_); (case side1 => exact GV.below hgv (hs_)); rintro e w37 ⟨rfl, hb⟩; refine ⟨_, rfl, ?_⟩; replace HO125 := Aside0.mk (Kd.R_below (rk_ HO125.out) hb); replace BK106 := ab_ BK106 hb; replace BK112 := ab_ BK112 hb; replace HB := Aside0.mk (below_step (hs_) hb); (try clear hb); (try clear hb2); (try clear hk); (try clear hi); obtain ⟨Z38_0, Z38_1, Z38_2, Z38_3, F38⟩ := bc4 BK106.out; obtain ⟨Ao39, co39, eo39⟩ := Kd.R_slice HO125.out; subst eo39; have p138 : 0 ≤ (0 : Int) := (by omega); have q138 : 0 < (t123.length : Int) := y0_; obtain ⟨ad138, e138, hx138_0⟩ := Kd.at_string (Kd.R_reads' HO125.out).2.2 0 p138 q138; cases e138; have qi138 : (0 < t123.length) = True := eq_true (by omega); (try rw [show ((0 : Int)).toNat = 0 from rfl] at hx138_0); (try rw [Addr.add_zero'] at hx138_0); replace p138 := eq_true p138; replace q138 := eq_true q138) | (go_at_call 36; (with_reducible refine (commit_Whole.calls k 3 ⟨#[120]⟩ t139 _ ?side1 A22.out).mono ?_); (case side1 => exact GV.below hgv (hs_)); rintro e w40 ⟨rfl, hb⟩; replace HO125 := Aside0.mk (Kd.R_below (rk_ HO125.out) hb); replace BK106 := ab_ BK106 hb; replace BK112 := ab_ BK112 hb; replace HB := Aside0.mk (below_step (hs_) hb); (try clear hb); (try clear hb2); (try clear hk); (try clear hi)))
 go_ret
 exact ⟨z3_, hs_⟩
theorem lives16 : Ev (fun k => graftagelaw16_lives.f k) true := Ev.of (fun k => graftagelaw16_lives.mono k) (k := 400) (by decide +kernel)
theorem ev_is {α : Type} {g : Nat → Option α} {r t : α} (hg : ∀ k, LeO (g k) (g (k + 1))) (h : Ev g r) {k : Nat} (ht : g k = some t) : t = r := by
  obtain ⟨K, hK⟩ := h
  have h1 := hK (max K k) (Nat.le_max_left _ _)
  have h2 := at_rounds hg (Nat.le_max_right K k) ht
  rw [h1] at h2
  exact (Option.some.inj h2).symm
theorem graftagelaw16_lives.calls (k : Nat) (r : Bool) (w : World) (hgv : GV w) (h : graftagelaw16_lives.f k = some r) : Calls Tryz.prog 15 #[] w fun e w' => e = .returned (.bool r) ∧ Below w.heap.size w w' :=
  graftagelaw16_lives.callsT k r w hgv (ev_is (fun k => graftagelaw16_lives.mono k) lives16 h) h
theorem liveOr16 : Ev (fun k => (graftagelaw16_lives.f k).bind fun t => some t) true := Ev.bind lives16 (Ev.now _)
mutual
def graftagelaw16_CommitNames.j0 : Nat → Bool → ByteArray → List ByteArray → ByteArray → ByteArray → Int → Int → ByteArray → ByteArray → Int → Int → ByteArray → ByteArray → List ByteArray → ByteArray → ByteArray → Int → Int → ByteArray → ByteArray → Int → Int → ByteArray → ByteArray → Int → ByteArray → ByteArray → ByteArray → Int → Int → ByteArray → Option (Bool)
 | 0, _, _, _, _, _, _, _, _, _, _, _, _, _, _, _, _, _, _, _, _, _, _, _, _, _, _, _, _, _, _, _ => none
 | k + 1, x46, x246000, x246001, x246002, x246003, x246004, x246005, x246006, x246007, x246008, x246009, x246010, x247000, x247001, x247002, x247003, x247004, x247005, x247006, x247007, x247008, x247009, x247010, x248000, x248001, x248002, x248003, x248004, x248005, x248006, x248007 => if x46 = true then ((graftagelaw16_lives.f k).bind fun t248 => (some t248)) else ((commit_Body.f k x246000 x246001 x246002 x246003 x246004 x246005 x246006 x246007 x246008 x246009 x246010).bind fun bt249 => ((commit_Body.f k x247000 x247001 x247002 x247003 x247004 x247005 x247006 x247007 x247008 x247009 x247010).bind fun bt251 => (if bt249.2 = 0 then ((commit_Links.f k 3 bt249.1).bind fun bt253 => (graftagelaw16_CommitNames.l0 k bt249.1 bt249.2 bt251.1 bt251.2 bt253.1 bt253.2 (([x246000] : List ByteArray)) 0 x246000 x246001 x246002 x246003 x246004 x246005 x246006 x246007 x246008 x246009 x246010 x247000 x247001 x247002 x247003 x247004 x247005 x247006 x247007 x247008 x247009 x247010 x248000 x248001 x248002 x248003 x248004 x248005 x248006 x248007)) else (graftagelaw16_CommitNames.j2 k bt249.1 bt249.2 bt251.1 bt251.2 x246000 x246001 x246002 x246003 x246004 x246005 x246006 x246007 x246008 x246009 x246010 x247000 x247001 x247002 x247003 x247004 x247005 x247006 x247007 x247008 x247009 x247010 x248000 x248001 x248002 x248003 x248004 x248005 x248006 x248007))))
def graftagelaw16_CommitNames.j2 : Nat → ByteArray → Int → ByteArray → Int → ByteArray → List ByteArray → ByteArray → ByteArray → Int → Int → ByteArray → ByteArray → Int → Int → ByteArray → ByteArray → List ByteArray → ByteArray → ByteArray → Int → Int → ByteArray → ByteArray → Int → Int → ByteArray → ByteArray → Int → ByteArray → ByteArray → ByteArray → Int → Int → ByteArray → Option (Bool)
 | 0, _, _, _, _, _, _, _, _, _, _, _, _, _, _, _, _, _, _, _, _, _, _, _, _, _, _, _, _, _, _, _, _, _, _ => none
 | k + 1, x7, x8, x9, x10, x246000, x246001, x246002, x246003, x246004, x246005, x246006, x246007, x246008, x246009, x246010, x247000, x247001, x247002, x247003, x247004, x247005, x247006, x247007, x247008, x247009, x247010, x248000, x248001, x248002, x248003, x248004, x248005, x248006, x248007 => if x8 = 0 then (if x10 = 0 then ((graftageref16_Same.f k x246000 x246001 x246002 x246003 x246004 x246005 x246006 x246007 x246008 x246009 x246010 x247000 x247001 x247002 x247003 x247004 x247005 x247006 x247007 x247008 x247009 x247010).bind fun t266 => (graftagelaw16_CommitNames.j3 k ((x7.toList == x9.toList) != t266) x248000 x248001 x248002 x248003 x248004 x248005 x248006 x248007)) else (graftagelaw16_CommitNames.j3 k false x248000 x248001 x248002 x248003 x248004 x248005 x248006 x248007)) else (graftagelaw16_CommitNames.j3 k false x248000 x248001 x248002 x248003 x248004 x248005 x248006 x248007)
def graftagelaw16_CommitNames.j3 : Nat → Bool → ByteArray → Int → ByteArray → ByteArray → ByteArray → Int → Int → ByteArray → Option (Bool)
 | 0, _, _, _, _, _, _, _, _, _ => none
 | k + 1, x114, x248000, x248001, x248002, x248003, x248004, x248005, x248006, x248007 => if x114 = true then (some false) else ((commit_TagBody.f k x248000 x248001 x248002 x248003 x248004 x248005 x248006 x248007).bind fun bt267 => (if bt267.2 = 0 then ((commit_Links.f k 4 bt267.1).bind fun bt269 => ((graftagelaw16_lives.f k).bind fun t273 => (if t273 = true then (if bt269.2 = 0 then (if (bt269.1.length : Int) = 1 then (if 0 < (bt269.1.length : Int) then (some ((rdOf ByteArray.empty bt269.1 0).toList == x248000.toList)) else (none)) else (some false)) else (some false)) else (some false)))) else ((graftagelaw16_lives.f k).bind fun t275 => (some t275))))
def graftagelaw16_CommitNames.l0 : Nat → ByteArray → Int → ByteArray → Int → List ByteArray → Int → List ByteArray → Int → ByteArray → List ByteArray → ByteArray → ByteArray → Int → Int → ByteArray → ByteArray → Int → Int → ByteArray → ByteArray → List ByteArray → ByteArray → ByteArray → Int → Int → ByteArray → ByteArray → Int → Int → ByteArray → ByteArray → Int → ByteArray → ByteArray → ByteArray → Int → Int → ByteArray → Option (Bool)
 | 0, _, _, _, _, _, _, _, _, _, _, _, _, _, _, _, _, _, _, _, _, _, _, _, _, _, _, _, _, _, _, _, _, _, _, _, _, _, _ => none
 | k + 1, x7, x8, x9, x10, x11, x12, x13, x14, x246000, x246001, x246002, x246003, x246004, x246005, x246006, x246007, x246008, x246009, x246010, x247000, x247001, x247002, x247003, x247004, x247005, x247006, x247007, x247008, x247009, x247010, x248000, x248001, x248002, x248003, x248004, x248005, x248006, x248007 => if x14 < (x246001.length : Int) then (if 0 ≤ x14 then (if (rdOf ByteArray.empty x246001 x14).toList = x246000.toList then (graftagelaw16_CommitNames.l0 k x7 x8 x9 x10 x11 x12 x13 (wrap64 (x14 + 1)) x246000 x246001 x246002 x246003 x246004 x246005 x246006 x246007 x246008 x246009 x246010 x247000 x247001 x247002 x247003 x247004 x247005 x247006 x247007 x247008 x247009 x247010 x248000 x248001 x248002 x248003 x248004 x248005 x248006 x248007) else (if x13.length < 8796093022208 then (graftagelaw16_CommitNames.l0 k x7 x8 x9 x10 x11 x12 (x13 ++ [rdOf ByteArray.empty x246001 x14]) (wrap64 (x14 + 1)) x246000 x246001 x246002 x246003 x246004 x246005 x246006 x246007 x246008 x246009 x246010 x247000 x247001 x247002 x247003 x247004 x247005 x247006 x247007 x247008 x247009 x247010 x248000 x248001 x248002 x248003 x248004 x248005 x248006 x248007) else (none))) else (none)) else (if x12 = 0 then ((graftageref06_Same.f k x11 x13).bind fun t265 => (if t265 = true then (graftagelaw16_CommitNames.j2 k x7 x8 x9 x10 x246000 x246001 x246002 x246003 x246004 x246005 x246006 x246007 x246008 x246009 x246010 x247000 x247001 x247002 x247003 x247004 x247005 x247006 x247007 x247008 x247009 x247010 x248000 x248001 x248002 x248003 x248004 x248005 x248006 x248007) else (some false))) else (some false))
end
def graftagelaw16_CommitNames.f (k : Nat) (a0_0 : ByteArray) (l0_1 : List ByteArray) (a0_2 : ByteArray) (a0_3 : ByteArray) (a0_4 : Int) (a0_5 : Int) (a0_6 : ByteArray) (a0_7 : ByteArray) (a0_8 : Int) (a0_9 : Int) (a0_10 : ByteArray) (a1_0 : ByteArray) (l1_1 : List ByteArray) (a1_2 : ByteArray) (a1_3 : ByteArray) (a1_4 : Int) (a1_5 : Int) (a1_6 : ByteArray) (a1_7 : ByteArray) (a1_8 : Int) (a1_9 : Int) (a1_10 : ByteArray) (a2_0 : ByteArray) (a2_1 : Int) (a2_2 : ByteArray) (a2_3 : ByteArray) (a2_4 : ByteArray) (a2_5 : Int) (a2_6 : Int) (a2_7 : ByteArray) : Option (Bool) := if (l0_1.length : Int) > 40 then (graftagelaw16_CommitNames.j0 k true a0_0 l0_1 a0_2 a0_3 a0_4 a0_5 a0_6 a0_7 a0_8 a0_9 a0_10 a1_0 l1_1 a1_2 a1_3 a1_4 a1_5 a1_6 a1_7 a1_8 a1_9 a1_10 a2_0 a2_1 a2_2 a2_3 a2_4 a2_5 a2_6 a2_7) else (if (a0_10.size : Int) > 5000 then (graftagelaw16_CommitNames.j0 k true a0_0 l0_1 a0_2 a0_3 a0_4 a0_5 a0_6 a0_7 a0_8 a0_9 a0_10 a1_0 l1_1 a1_2 a1_3 a1_4 a1_5 a1_6 a1_7 a1_8 a1_9 a1_10 a2_0 a2_1 a2_2 a2_3 a2_4 a2_5 a2_6 a2_7) else (if (l1_1.length : Int) > 40 then (graftagelaw16_CommitNames.j0 k true a0_0 l0_1 a0_2 a0_3 a0_4 a0_5 a0_6 a0_7 a0_8 a0_9 a0_10 a1_0 l1_1 a1_2 a1_3 a1_4 a1_5 a1_6 a1_7 a1_8 a1_9 a1_10 a2_0 a2_1 a2_2 a2_3 a2_4 a2_5 a2_6 a2_7) else (if (a1_10.size : Int) > 5000 then (graftagelaw16_CommitNames.j0 k true a0_0 l0_1 a0_2 a0_3 a0_4 a0_5 a0_6 a0_7 a0_8 a0_9 a0_10 a1_0 l1_1 a1_2 a1_3 a1_4 a1_5 a1_6 a1_7 a1_8 a1_9 a1_10 a2_0 a2_1 a2_2 a2_3 a2_4 a2_5 a2_6 a2_7) else (graftagelaw16_CommitNames.j0 k (decide ((a2_7.size : Int) > 5000)) a0_0 l0_1 a0_2 a0_3 a0_4 a0_5 a0_6 a0_7 a0_8 a0_9 a0_10 a1_0 l1_1 a1_2 a1_3 a1_4 a1_5 a1_6 a1_7 a1_8 a1_9 a1_10 a2_0 a2_1 a2_2 a2_3 a2_4 a2_5 a2_6 a2_7))))
def graftagelaw16_CommitNames.T11 : Bool × List (List Nat × List Nat) := (true, [([], []), ([0], [0]), ([], []), ([1, 2], [1, 2]), ([3], [3]), ([], []), ([5], [5]), ([4, 6], [4, 6])])
def graftagelaw16_CommitNames.B11 : List Nat := [0, 1, 0, 7, 15, 0, 32, 127]
theorem graftagelaw16_CommitNames.tab11 : rtab .any (opsOf Tryz.f8 11) = graftagelaw16_CommitNames.T11 := by kernel_rfl
theorem graftagelaw16_CommitNames.bits11 : waitsOk graftagelaw16_CommitNames.T11.2 graftagelaw16_CommitNames.B11 = true := by kernel_rfl
def graftagelaw16_CommitNames.T21 : Bool × List (List Nat × List Nat) := (true, [([], []), ([0, 0], [0]), ([1], [1]), ([2, 1], [1, 2]), ([1, 3], [1, 3]), ([4, 1], [4]), ([5], [5]), ([6, 5], [5, 6]), ([7, 5], [5, 7]), ([5, 8], [5, 8]), ([9, 5], [9]), ([10], [10]), ([11, 10], [10, 11]), ([12, 10], [10, 12]), ([10], [10]), ([14, 10], [10, 14]), ([13, 15, 10], [10, 13, 15]), ([10, 16], [10, 16]), ([17, 10, 0, 1, 2, 3, 4, 5, 6, 7, 8, 9, 10, 11, 12, 13, 14, 15, 16, 17], [17])])
def graftagelaw16_CommitNames.B21 : List Nat := [0, 1, 3, 7, 15, 31, 63, 127, 255, 511, 1023, 2047, 4095, 8191, 2047, 18431, 65535, 131071, 262143]
theorem graftagelaw16_CommitNames.tab21 : rtab .any (opsOf Tryz.f8 21) = graftagelaw16_CommitNames.T21 := by kernel_rfl
theorem graftagelaw16_CommitNames.bits21 : waitsOk graftagelaw16_CommitNames.T21.2 graftagelaw16_CommitNames.B21 = true := by kernel_rfl
theorem graftagelaw16_CommitNames.calls (k : Nat) (a0_0 : ByteArray) (A0_1 : Option Addr) (c0_1 : Nat) (l0_1 : List ByteArray) (a0_2 : ByteArray) (a0_3 : ByteArray) (a0_4 : Int) (a0_5 : Int) (a0_6 : ByteArray) (a0_7 : ByteArray) (a0_8 : Int) (a0_9 : Int) (a0_10 : ByteArray) (a1_0 : ByteArray) (A1_1 : Option Addr) (c1_1 : Nat) (l1_1 : List ByteArray) (a1_2 : ByteArray) (a1_3 : ByteArray) (a1_4 : Int) (a1_5 : Int) (a1_6 : ByteArray) (a1_7 : ByteArray) (a1_8 : Int) (a1_9 : Int) (a1_10 : ByteArray) (a2_0 : ByteArray) (a2_1 : Int) (a2_2 : ByteArray) (a2_3 : ByteArray) (a2_4 : ByteArray) (a2_5 : Int) (a2_6 : Int) (a2_7 : ByteArray) (r : Bool) (w : World) (hr0_1 : Kd.C Kd.string w A0_1 l0_1.length l0_1) (hc0_1 : l0_1.length ≤ c0_1) (hr1_1 : Kd.C Kd.string w A1_1 l1_1.length l1_1) (hc1_1 : l1_1.length ≤ c1_1) (hgv : GV w) (h : graftagelaw16_CommitNames.f k a0_0 l0_1 a0_2 a0_3 a0_4 a0_5 a0_6 a0_7 a0_8 a0_9 a0_10 a1_0 l1_1 a1_2 a1_3 a1_4 a1_5 a1_6 a1_7 a1_8 a1_9 a1_10 a2_0 a2_1 a2_2 a2_3 a2_4 a2_5 a2_6 a2_7 = some r) :
  Calls Tryz.prog 8 #[.agg #[.string a0_0, .slice A0_1 l0_1.length c0_1, .string a0_2, .string a0_3, .int .i64 a0_4, .int .i64 a0_5, .string a0_6, .string a0_7, .int .i64 a0_8, .int .i64 a0_9, .string a0_10], .agg #[.string a1_0, .slice A1_1 l1_1.length c1_1, .string a1_2, .string a1_3, .int .i64 a1_4, .int .i64 a1_5, .string a1_6, .string a1_7, .int .i64 a1_8, .int .i64 a1_9, .string a1_10], .agg #[.string a2_0, .int .i64 a2_1, .string a2_2, .string a2_3, .string a2_4, .int .i64 a2_5, .int .i64 a2_6, .string a2_7]] w fun e w' => e = .returned (.bool r) ∧ Below w.heap.size w w' := by
 have hu26 := underlying26; have hu37 := underlying37; have hu50 := underlying50; have HR0_1 := Aside0.mk hr0_1; have HC0_1 := Aside0.mk hc0_1; clear hr0_1 hc0_1; have HR1_1 := Aside0.mk hr1_1; have HC1_1 := Aside0.mk hc1_1; clear hr1_1 hc1_1; have HB := Aside0.mk (Below.refl w.heap.size w); unfold graftagelaw16_CommitNames.f at h; have H := h; clear h; have HC4 := Aside0.mk H; clear H; go_enter func8, ntmps8; go_upto_region 1 with (first | ((with_reducible refine gate_dst (N := 3) rfl ?_); (try (refine gate_guard (by rfl) ?_; dsimp only)); refine be_ (cs := #[.string a0_0, .slice A0_1 l0_1.length c0_1, .string a0_2, .string a0_3, .int .i64 a0_4, .int .i64 a0_5, .string a0_6, .string a0_7, .int .i64 a0_8, .int .i64 a0_9, .string a0_10]) (t := 26) ?_; intro gb245 hg w5 hbox hb; have BK245 := Aside0.mk (hbox); have GW245 := ag_ hg HB; have GE245 := ag_ hg HB; replace HB := ah_ HB hb; clear hb hbox hg) | ((with_reducible refine gate_dst (N := 4) rfl ?_); (try (refine gate_guard (by rfl) ?_; dsimp only)); refine be_ (cs := #[.string a1_0, .slice A1_1 l1_1.length c1_1, .string a1_2, .string a1_3, .int .i64 a1_4, .int .i64 a1_5, .string a1_6, .string a1_7, .int .i64 a1_8, .int .i64 a1_9, .string a1_10]) (t := 26) ?_; intro gb246 hg w6 hbox hb; have BK246 := Aside0.mk (hbox); have GW246 := Aside0.mk ((by rw [hg]; exact (below_size (hs_)) : w.heap.size ≤ gb246)); have GE246 := Aside0.mk ((by rw [hg]; exact (below_size (hs_)) : w.heap.size ≤ gb246)); replace HB := Aside0.mk (below_step (hs_) hb); have NB245_246 := Aside0.mk (nl2_ hg BK245.out); have NB246_245 := Aside0.mk (ng2_ hg BK245.out); replace BK245 := ab_ BK245 hb; clear hb hbox hg) | ((with_reducible refine gate_dst (N := 5) rfl ?_); (try (refine gate_guard (by rfl) ?_; dsimp only)); refine be_ (cs := #[.string a2_0, .int .i64 a2_1, .string a2_2, .string a2_3, .string a2_4, .int .i64 a2_5, .int .i64 a2_6, .string a2_7]) (t := 37) ?_; intro gb247 hg w7 hbox hb; have BK247 := Aside0.mk (hbox); have GW247 := Aside0.mk ((by rw [hg]; exact (below_size (hs_)) : w.heap.size ≤ gb247)); have GE247 := Aside0.mk ((by rw [hg]; exact (below_size (hs_)) : w.heap.size ≤ gb247)); replace HB := Aside0.mk (below_step (hs_) hb); have NB245_247 := Aside0.mk (nl2_ hg BK245.out); have NB247_245 := Aside0.mk (ng2_ hg BK245.out); replace BK245 := ab_ BK245 hb; have NB246_247 := Aside0.mk (nl2_ hg BK246.out); have NB247_246 := Aside0.mk (ng2_ hg BK246.out); replace BK246 := ab_ BK246 hb; clear hb hbox hg)); (try simp only [Act.put, List.setIfInBounds_toArray, List.set_cons_zero, List.set_cons_succ])
 go_cut [46] (fun v46 wc => ∃ (kq : Nat) (x46_3 : Bool), v46 = .bool x46_3 ∧ Aside0 (graftagelaw16_CommitNames.j0 kq x46_3 a0_0 l0_1 a0_2 a0_3 a0_4 a0_5 a0_6 a0_7 a0_8 a0_9 a0_10 a1_0 l1_1 a1_2 a1_3 a1_4 a1_5 a1_6 a1_7 a1_8 a1_9 a1_10 a2_0 a2_1 a2_2 a2_3 a2_4 a2_5 a2_6 a2_7 = some r) ∧ Aside0 (kq ≤ k) ∧ Aside0 (wc.heap[gb245]? = some (.cells #[.string a0_0, (.slice A0_1 l0_1.length c0_1), .string a0_2, .string a0_3, .int .i64 a0_4, .int .i64 a0_5, .string a0_6, .string a0_7, .int .i64 a0_8, .int .i64 a0_9, .string a0_10] 26 (0, 0))) ∧ Aside0 (wc.heap[gb246]? = some (.cells #[.string a1_0, (.slice A1_1 l1_1.length c1_1), .string a1_2, .string a1_3, .int .i64 a1_4, .int .i64 a1_5, .string a1_6, .string a1_7, .int .i64 a1_8, .int .i64 a1_9, .string a1_10] 26 (0, 0))) ∧ Aside0 (wc.heap[gb247]? = some (.cells #[.string a2_0, .int .i64 a2_1, .string a2_2, .string a2_3, .string a2_4, .int .i64 a2_5, .int .i64 a2_6, .string a2_7] 37 (0, 0))) ∧ Aside0 (Below w.heap.size w wc))
 case first =>
  have H := HC4.out; clear HC4; by_cases c8 : (l0_1.length : Int) > 40
  ·rw [if_pos c8] at H; have c8b0 := dt_ c8; have c8b1 : decide (40 < l0_1.length) = true := decide_eq_true (by omega); clear c8; (first | rw [c8b0] | (simp only [i64_w, i32_w]; rw [c8b0]) | skip); (try rw [c8b8])
   have H' := Aside0.mk H; clear H; have hnb9 := NB245_246.out; have hnc9 := NB246_245.out; have hnb10 := NB245_247.out; have hnc10 := NB247_245.out; obtain ⟨Z11_0, Z11_1, Z11_2, Z11_3, Z11_4, Z11_5, Z11_6, Z11_7, Z11_8, Z11_9, Z11_10, F11⟩ := bc11 BK245.out; go_wp2
   go_meet
   case rel => exact ⟨_, (true), z1_, H', ⟨z4_⟩, ⟨bk_ BK245.out⟩, ⟨bk_ BK246.out⟩, ⟨bk_ BK247.out⟩, ⟨hs_⟩⟩
  rw [if_neg c8] at H; have c8b0 := df_ c8; have c8b1 : decide (40 < l0_1.length) = false := decide_eq_false (by omega); clear c8; (first | rw [c8b0] | (simp only [i64_w, i32_w]; rw [c8b0]) | skip); (try rw [c8b8])
  by_cases c12 : (a0_10.size : Int) > 5000
  ·rw [if_pos c12] at H; have c12b0 := dt_ c12; have c12b1 : decide (5000 < a0_10.size) = true := decide_eq_true (by omega); clear c12; have H' := Aside0.mk H; clear H; have hnb13 := NB245_246.out; have hnc13 := NB246_245.out; have hnb14 := NB245_247.out; have hnc14 := NB247_245.out; obtain ⟨Z15_0, Z15_1, Z15_2, Z15_3, Z15_4, Z15_5, Z15_6, Z15_7, Z15_8, Z15_9, Z15_10, F15⟩ := bc11 BK245.out; go_wp2
   go_meet
   case rel => exact ⟨_, (true), z1_, H', ⟨z4_⟩, ⟨bk_ BK245.out⟩, ⟨bk_ BK246.out⟩, ⟨bk_ BK247.out⟩, ⟨hs_⟩⟩
  rw [if_neg c12] at H; have c12b0 := df_ c12; have c12b1 : decide (5000 < a0_10.size) = false := decide_eq_false (by omega); clear c12; by_cases c16 : (l1_1.length : Int) > 40
  ·rw [if_pos c16] at H; have c16b0 := dt_ c16; have c16b1 : decide (40 < l1_1.length) = true := decide_eq_true (by omega); clear c16; have H' := Aside0.mk H; clear H; have hnb17 := NB245_246.out; have hnc17 := NB246_245.out; have hnb18 := NB245_247.out; have hnc18 := NB247_245.out; obtain ⟨Z19_0, Z19_1, Z19_2, Z19_3, Z19_4, Z19_5, Z19_6, Z19_7, Z19_8, Z19_9, Z19_10, F19⟩ := bc11 BK245.out; have hnb20 := NB246_247.out; have hnc20 := NB247_246.out; obtain ⟨Z21_0, Z21_1, Z21_2, Z21_3, Z21_4, Z21_5, Z21_6, Z21_7, Z21_8, Z21_9, Z21_10, F21⟩ := bc11 BK246.out; go_wp2
   go_meet
   case rel => exact ⟨_, (true), z1_, H', ⟨z4_⟩, ⟨bk_ BK245.out⟩, ⟨bk_ BK246.out⟩, ⟨bk_ BK247.out⟩, ⟨hs_⟩⟩
  rw [if_neg c16] at H; have c16b0 := df_ c16; have c16b1 : decide (40 < l1_1.length) = false := decide_eq_false (by omega); clear c16; by_cases c22 : (a1_10.size : Int) > 5000
  ·rw [if_pos c22] at H; have c22b0 := dt_ c22; have c22b1 : decide (5000 < a1_10.size) = true := decide_eq_true (by omega); clear c22; have H' := Aside0.mk H; clear H; have hnb23 := NB245_246.out; have hnc23 := NB246_245.out; have hnb24 := NB245_247.out; have hnc24 := NB247_245.out; obtain ⟨Z25_0, Z25_1, Z25_2, Z25_3, Z25_4, Z25_5, Z25_6, Z25_7, Z25_8, Z25_9, Z25_10, F25⟩ := bc11 BK245.out; have hnb26 := NB246_247.out; have hnc26 := NB247_246.out; obtain ⟨Z27_0, Z27_1, Z27_2, Z27_3, Z27_4, Z27_5, Z27_6, Z27_7, Z27_8, Z27_9, Z27_10, F27⟩ := bc11 BK246.out; go_wp2
   go_meet
   case rel => exact ⟨_, (true), z1_, H', ⟨z4_⟩, ⟨bk_ BK245.out⟩, ⟨bk_ BK246.out⟩, ⟨bk_ BK247.out⟩, ⟨hs_⟩⟩
  rw [if_neg c22] at H; have c22b0 := df_ c22; have c22b1 : decide (5000 < a1_10.size) = false := decide_eq_false (by omega); clear c22; have H' := Aside0.mk H; clear H; have hnb28 := NB245_246.out; have hnc28 := NB246_245.out; have hnb29 := NB245_247.out; have hnc29 := NB247_245.out; obtain ⟨Z30_0, Z30_1, Z30_2, Z30_3, Z30_4, Z30_5, Z30_6, Z30_7, Z30_8, Z30_9, Z30_10, F30⟩ := bc11 BK245.out; have hnb31 := NB246_247.out; have hnc31 := NB247_246.out; obtain ⟨Z32_0, Z32_1, Z32_2, Z32_3, Z32_4, Z32_5, Z32_6, Z32_7, Z32_8, Z32_9, Z32_10, F32⟩ := bc11 BK246.out; obtain ⟨Z33_0, Z33_1, Z33_2, Z33_3, Z33_4, Z33_5, Z33_6, Z33_7, F33⟩ := bc8 BK247.out; go_wp2
  go_meet
  case rel => exact ⟨_, (decide ((a2_7.size : Int) > 5000)), z1_, H', ⟨z4_⟩, ⟨bk_ BK245.out⟩, ⟨bk_ BK246.out⟩, ⟨bk_ BK247.out⟩, ⟨hs_⟩⟩
 case rest =>
  clear HC4; try clear c1
  try clear c2
  try clear p2
  try clear c3
  try clear c8
  try clear c8b0
  try clear c8b1
  try clear c9
  try clear c10
  try clear c12
  try clear c12b0
  try clear c12b1
  try clear c13
  try clear c14
  try clear c16
  try clear c16b0
  try clear c16b1
  try clear c17
  try clear c18
  try clear c20
  try clear c22
  try clear c22b0
  try clear c22b1
  try clear c23
  try clear c24
  try clear c26
  try clear c28
  try clear c29
  try clear c31
  try clear Z11_0 Z11_1 Z11_10 Z11_2 Z11_3 Z11_4 Z11_5 Z11_6 Z11_7 Z11_8 Z11_9
  try clear Z15_0 Z15_1 Z15_10 Z15_2 Z15_3 Z15_4 Z15_5 Z15_6 Z15_7 Z15_8 Z15_9
  try clear Z19_0 Z19_1 Z19_10 Z19_2 Z19_3 Z19_4 Z19_5 Z19_6 Z19_7 Z19_8 Z19_9
  try clear Z21_0 Z21_1 Z21_10 Z21_2 Z21_3 Z21_4 Z21_5 Z21_6 Z21_7 Z21_8 Z21_9
  try clear Z25_0 Z25_1 Z25_10 Z25_2 Z25_3 Z25_4 Z25_5 Z25_6 Z25_7 Z25_8 Z25_9
  try clear Z27_0 Z27_1 Z27_10 Z27_2 Z27_3 Z27_4 Z27_5 Z27_6 Z27_7 Z27_8 Z27_9
  try clear Z30_0 Z30_1 Z30_10 Z30_2 Z30_3 Z30_4 Z30_5 Z30_6 Z30_7 Z30_8 Z30_9
  try clear Z32_0 Z32_1 Z32_10 Z32_2 Z32_3 Z32_4 Z32_5 Z32_6 Z32_7 Z32_8 Z32_9
  try clear Z33_0 Z33_1 Z33_2 Z33_3 Z33_4 Z33_5 Z33_6 Z33_7
  try clear F11
  try clear F15
  try clear F19
  try clear F21
  try clear F25
  try clear F27
  try clear F30
  try clear F32
  try clear F33
  obtain ⟨kq, x46_3, rfl, HA, HJ3, BK245, BK246, BK247, HB⟩ := hcut
  cases kq with
  | zero => exact absurd HA.out (by simp [graftagelaw16_CommitNames.j0])
  | succ kj3 =>
   have H := HA.out; clear HA; simp only [graftagelaw16_CommitNames.j0] at H; by_cases c34 : x46_3 = true
   ·subst c34; rw [if_pos rfl] at H; obtain ⟨t248, A35, H⟩ := bx_ H; obtain rfl := oi_ H; go_wp2_with (first | ((with_reducible refine gate_callee (f := 15) rfl ?_); refine gl_ (some 47) func15 #[] ?_; (with_reducible refine (graftagelaw16_lives.calls kj3  t248 _ ?side1 A35.out).mono ?_); (case side1 => exact GV.below hgv (hs_)); rintro e w36 ⟨rfl, hb⟩; refine ⟨_, rfl, ?_⟩; replace BK245 := ab_ BK245 hb; replace BK246 := ab_ BK246 hb; replace BK247 := ab_ BK247 hb; replace HB := Aside0.mk (below_step (hs_) hb); (try clear hb); (try clear hb2); (try clear hk); (try clear hi)))
    go_ret
    exact ⟨z3_, hs_⟩
   replace c34 := Bool.eq_false_iff.mpr c34; subst c34; rw [if_neg nft_] at H; obtain ⟨⟨t249, t250⟩, A37, H⟩ := bx_ H; dsimp only at H; obtain ⟨⟨t251, t252⟩, A38, H⟩ := bx_ H; dsimp only at H; have HC39 := Aside0.mk H; clear H; have hnb40 := NB245_246.out; have hnc40 := NB246_245.out; have hnb41 := NB245_247.out; have hnc41 := NB247_245.out; obtain ⟨Z42_0, Z42_1, Z42_2, Z42_3, Z42_4, Z42_5, Z42_6, Z42_7, Z42_8, Z42_9, Z42_10, F42⟩ := bc11 BK245.out; go_upto_if 59 with (first | ((with_reducible refine gate_callee (f := 16) rfl ?_); refine gl_ (some 50) func16 #[.agg #[.string a0_0, .slice A0_1 l0_1.length c0_1, .string a0_2, .string a0_3, .int .i64 a0_4, .int .i64 a0_5, .string a0_6, .string a0_7, .int .i64 a0_8, .int .i64 a0_9, .string a0_10]] ?_; (with_reducible refine (commit_Body.calls kj3 a0_0 _ _ l0_1 a0_2 a0_3 a0_4 a0_5 a0_6 a0_7 a0_8 a0_9 a0_10 t249 t250 _ ?side1 ?side2 ?side3 A37.out).mono ?_); (case side1 => repeat (first | exact (Kd.C_below HR0_1.out HB.out) | (with_reducible refine Kd.C_alloc ?_ _) | (with_reducible refine Kd.C_drewN ?_ _) | (with_reducible refine Kd.C_drew ?_))); (case side2 => exact HC0_1.out); (case side3 => exact GV.below hgv (hs_)); rintro e w43 ⟨rfl, hb⟩; refine ⟨_, rfl, ?_⟩; replace BK245 := ab_ BK245 hb; replace BK246 := ab_ BK246 hb; replace BK247 := ab_ BK247 hb; replace HB := Aside0.mk (below_step (hs_) hb); (try clear hb); (try clear hb2); (try clear hk); (try clear hi); have hnb44 := NB246_247.out; have hnc44 := NB247_246.out; obtain ⟨Z45_0, Z45_1, Z45_2, Z45_3, Z45_4, Z45_5, Z45_6, Z45_7, Z45_8, Z45_9, Z45_10, F45⟩ := bc11 BK246.out) | ((with_reducible refine gate_callee (f := 16) rfl ?_); refine gl_ (some 55) func16 #[.agg #[.string a1_0, .slice A1_1 l1_1.length c1_1, .string a1_2, .string a1_3, .int .i64 a1_4, .int .i64 a1_5, .string a1_6, .string a1_7, .int .i64 a1_8, .int .i64 a1_9, .string a1_10]] ?_; (with_reducible refine (commit_Body.calls kj3 a1_0 _ _ l1_1 a1_2 a1_3 a1_4 a1_5 a1_6 a1_7 a1_8 a1_9 a1_10 t251 t252 _ ?side1 ?side2 ?side3 A38.out).mono ?_); (case side1 => repeat (first | exact (Kd.C_below HR1_1.out HB.out) | (with_reducible refine Kd.C_alloc ?_ _) | (with_reducible refine Kd.C_drewN ?_ _) | (with_reducible refine Kd.C_drew ?_))); (case side2 => exact HC1_1.out); (case side3 => exact GV.below hgv (hs_)); rintro e w46 ⟨rfl, hb⟩; refine ⟨_, rfl, ?_⟩; replace BK245 := ab_ BK245 hb; replace BK246 := ab_ BK246 hb; replace BK247 := ab_ BK247 hb; replace HB := Aside0.mk (below_step (hs_) hb); (try clear hb); (try clear hb2); (try clear hk); (try clear hi)))
   (try simp only [Act.put, List.setIfInBounds_toArray, List.set_cons_zero, List.set_cons_succ])
   go_cut [] (fun wc => ∃ (kq : Nat), Aside0 (graftagelaw16_CommitNames.j2 kq t249 t250 t251 t252 a0_0 l0_1 a0_2 a0_3 a0_4 a0_5 a0_6 a0_7 a0_8 a0_9 a0_10 a1_0 l1_1 a1_2 a1_3 a1_4 a1_5 a1_6 a1_7 a1_8 a1_9 a1_10 a2_0 a2_1 a2_2 a2_3 a2_4 a2_5 a2_6 a2_7 = some r) ∧ Aside0 (kq ≤ kj3) ∧ Aside0 (wc.heap[gb245]? = some (.cells #[.string a0_0, (.slice A0_1 l0_1.length c0_1), .string a0_2, .string a0_3, .int .i64 a0_4, .int .i64 a0_5, .string a0_6, .string a0_7, .int .i64 a0_8, .int .i64 a0_9, .string a0_10] 26 (0, 0))) ∧ Aside0 (wc.heap[gb246]? = some (.cells #[.string a1_0, (.slice A1_1 l1_1.length c1_1), .string a1_2, .string a1_3, .int .i64 a1_4, .int .i64 a1_5, .string a1_6, .string a1_7, .int .i64 a1_8, .int .i64 a1_9, .string a1_10] 26 (0, 0))) ∧ Aside0 (wc.heap[gb247]? = some (.cells #[.string a2_0, .int .i64 a2_1, .string a2_2, .string a2_3, .string a2_4, .int .i64 a2_5, .int .i64 a2_6, .string a2_7] 37 (0, 0))) ∧ Aside0 (Below w.heap.size w wc))
   case first =>
    have H := HC39.out; clear HC39; by_cases c47 : t250 = 0; rotate_left
    ·rw [if_neg c47] at H; have c47b0 := ef_ c47; have c47b1 := nt_ c47; (first | rw [c47b0] | (simp only [i64_w, i32_w]; rw [c47b0]) | skip); (try rw [c47b8])
     have H' := Aside0.mk H; clear H; go_wp2
     go_meet
     case rel => exact ⟨_, H', ⟨by have := HJ3.out; first | omega | exact Nat.le_refl _⟩, ⟨bk_ BK245.out⟩, ⟨bk_ BK246.out⟩, ⟨bk_ BK247.out⟩, ⟨hs_⟩⟩
    rw [if_pos c47] at H; have c47b0 := et_ c47; have c47b1 := nf_ c47; clear c47; (first | rw [c47b0] | (simp only [i64_w, i32_w]; rw [c47b0]) | skip); (try rw [c47b8])
    obtain ⟨⟨t253, t256⟩, A48, H⟩ := bx_ H; dsimp only at H; obtain ⟨y257, hy257⟩ : ∃ y_ : List ByteArray, y_ = (([a0_0] : List ByteArray)) := ⟨_, rfl⟩; replace H : (graftagelaw16_CommitNames.l0 kj3 t249 t250 t251 t252 t253 t256 y257 0 a0_0 l0_1 a0_2 a0_3 a0_4 a0_5 a0_6 a0_7 a0_8 a0_9 a0_10 a1_0 l1_1 a1_2 a1_3 a1_4 a1_5 a1_6 a1_7 a1_8 a1_9 a1_10 a2_0 a2_1 a2_2 a2_3 a2_4 a2_5 a2_6 a2_7) = some r := by first | (rw [hy257]; with_reducible exact H) | (have H2_ := (Option.bind_some _ _).symm.trans H; rw [hy257]; with_reducible exact H2_) | (have H2_ := (Option.bind_some _ _).symm.trans H; with_reducible exact H2_) | with_reducible exact H | (rw [hy257]; exact H) | exact H
    have Ny257 := Aside0.mk hy257; clear hy257; have H' := Aside0.mk H; clear H; go_wp2_with (first | ((with_reducible refine gate_callee (f := 34) rfl ?_); refine gl_ (some 63) func34 #[.agg #[.int .i64 3, .string t249]] ?_; (with_reducible refine (commit_Links.calls kj3 3 t249 t253 t256 _ ?side1 A48.out).mono ?_); (case side1 => exact GV.below hgv (hs_)); rintro e w49 ⟨v254, rfl, ho0, hb⟩; refine ⟨_, rfl, ?_⟩; have HO255 := Aside0.mk (Kd.R_lower ho0 (below_size (hs_))); replace BK245 := ab_ BK245 hb; replace BK246 := ab_ BK246 hb; replace BK247 := ab_ BK247 hb; replace HB := Aside0.mk (below_step (hs_) hb); (try clear hb); (try clear hb2); (try clear hk); (try clear hi); (try clear ho0); have hnb50 := NB245_246.out; have hnc50 := NB246_245.out; have hnb51 := NB245_247.out; have hnc51 := NB247_245.out; obtain ⟨Z52_0, Z52_1, Z52_2, Z52_3, Z52_4, Z52_5, Z52_6, Z52_7, Z52_8, Z52_9, Z52_10, F52⟩ := bc11 BK245.out) | ((with_reducible refine gate_dst (N := 68) rfl ?_); (try (refine gate_guard (by rfl) ?_; dsimp only)); refine Kd.R_lit Kd.string _ 9 ?hg (N := 68) ?hd (xs := ([a0_0] : List ByteArray)) (inner := [.string a0_0]) (ok := fun _ => True) (okp := fun _ => True) ?hr ?hp (fun _ hk => hk) trivial (Below.refl _ _) (Nat.le_refl _) (by simp) ?_; (case hd => rfl); (case hg => rfl); (case hr => first | (go_simp; done) | (go_simp; rfl)); (case hp => exact (Reps.one (show Kd.M Kd.string _ _ _ a0_0 [.string a0_0] from rfl) (Reps.none _ _))); intro v258 w53 ho54 hb hg_ hnew_; clear hg_ hnew_; (first | rw [← Ny257.out] at ho54 | (simp only [Int.reduceToNat] at ho54; rw [← Ny257.out] at ho54)); have HO259 := Aside0.mk (Kd.R_lower (Kd.R_new' ho54 (Kd.R_lt (rk_ HO255.out))) (below_size (hs_))); replace HO255 := Aside0.mk (Kd.R_elder' (rk_ HO255.out) (Kd.R_base ho54) hb); replace BK245 := ab_ BK245 hb; replace BK246 := ab_ BK246 hb; replace BK247 := ab_ BK247 hb; replace HB := Aside0.mk (below_step (hs_) hb); clear hb ho54)); go_loopg [13, 14] kj3 (fun kq v13 v14 w' => ∃ (x13_2 : List ByteArray) (x14_2 : Int), v14 = .int .i64 x14_2 ∧ Aside0 (graftagelaw16_CommitNames.l0 kq t249 t250 t251 t252 t253 t256 x13_2 x14_2 a0_0 l0_1 a0_2 a0_3 a0_4 a0_5 a0_6 a0_7 a0_8 a0_9 a0_10 a1_0 l1_1 a1_2 a1_3 a1_4 a1_5 a1_6 a1_7 a1_8 a1_9 a1_10 a2_0 a2_1 a2_2 a2_3 a2_4 a2_5 a2_6 a2_7 = some r) ∧ Aside0 (kq ≤ kj3) ∧ Aside0 (Kd.R Kd.string 9 w' w.heap.size (fun k_ => some k_ ≠ (v13 : Value).ownBlock) v254 t253) ∧ Aside0 (Kd.R Kd.string 9 w' w.heap.size (fun k_ => some k_ ≠ (v254 : Value).ownBlock) v13 x13_2) ∧ Aside0 (w'.heap[gb245]? = some (.cells #[.string a0_0, (.slice A0_1 l0_1.length c0_1), .string a0_2, .string a0_3, .int .i64 a0_4, .int .i64 a0_5, .string a0_6, .string a0_7, .int .i64 a0_8, .int .i64 a0_9, .string a0_10] 26 (0, 0))) ∧ Aside0 (w'.heap[gb246]? = some (.cells #[.string a1_0, (.slice A1_1 l1_1.length c1_1), .string a1_2, .string a1_3, .int .i64 a1_4, .int .i64 a1_5, .string a1_6, .string a1_7, .int .i64 a1_8, .int .i64 a1_9, .string a1_10] 26 (0, 0))) ∧ Aside0 (w'.heap[gb247]? = some (.cells #[.string a2_0, .int .i64 a2_1, .string a2_2, .string a2_3, .string a2_4, .int .i64 a2_5, .int .i64 a2_6, .string a2_7] 37 (0, 0))) ∧ Aside0 (Below w.heap.size w w'))
    case atStart => exact ⟨(y257), (0), z1_, H', ⟨Nat.le_refl _⟩, ⟨by (with_reducible repeat (first | apply Kd.R_alloc | apply Kd.R_drewN | apply Kd.R_drew)); exact Kd.R_mono HO255.out (fun _ hk => hk.2)⟩, ⟨by (with_reducible repeat (first | apply Kd.R_alloc | apply Kd.R_drewN | apply Kd.R_drew)); exact Kd.R_mono HO259.out (fun _ hk => hk.2)⟩, ⟨bk_ BK245.out⟩, ⟨bk_ BK246.out⟩, ⟨bk_ BK247.out⟩, ⟨hs_⟩⟩
    case round =>
     clear H'; try clear c1
     try clear c2
     try clear p2
     try clear c3
     try clear c4
     try clear c5
     try clear c8
     try clear c8b0
     try clear c8b1
     try clear c9
     try clear c10
     try clear c12
     try clear c12b0
     try clear c12b1
     try clear c13
     try clear c14
     try clear c15
     try clear c16
     try clear c16b0
     try clear c16b1
     try clear c17
     try clear c18
     try clear c20
     try clear c22
     try clear c22b0
     try clear c22b1
     try clear c23
     try clear c24
     try clear c26
     try clear c28
     try clear c29
     try clear c31
     try clear c34
     try clear c40
     try clear c41
     try clear c44
     try clear c47
     try clear c47b0
     try clear c47b1
     try clear c50
     try clear c51
     try clear Z11_0 Z11_1 Z11_10 Z11_2 Z11_3 Z11_4 Z11_5 Z11_6 Z11_7 Z11_8 Z11_9
     try clear Z15_0 Z15_1 Z15_10 Z15_2 Z15_3 Z15_4 Z15_5 Z15_6 Z15_7 Z15_8 Z15_9
     try clear Z19_0 Z19_1 Z19_10 Z19_2 Z19_3 Z19_4 Z19_5 Z19_6 Z19_7 Z19_8 Z19_9
     try clear Z21_0 Z21_1 Z21_10 Z21_2 Z21_3 Z21_4 Z21_5 Z21_6 Z21_7 Z21_8 Z21_9
     try clear Z25_0 Z25_1 Z25_10 Z25_2 Z25_3 Z25_4 Z25_5 Z25_6 Z25_7 Z25_8 Z25_9
     try clear Z27_0 Z27_1 Z27_10 Z27_2 Z27_3 Z27_4 Z27_5 Z27_6 Z27_7 Z27_8 Z27_9
     try clear Z30_0 Z30_1 Z30_10 Z30_2 Z30_3 Z30_4 Z30_5 Z30_6 Z30_7 Z30_8 Z30_9
     try clear Z32_0 Z32_1 Z32_10 Z32_2 Z32_3 Z32_4 Z32_5 Z32_6 Z32_7 Z32_8 Z32_9
     try clear Z33_0 Z33_1 Z33_2 Z33_3 Z33_4 Z33_5 Z33_6 Z33_7
     try clear Z42_0 Z42_1 Z42_10 Z42_2 Z42_3 Z42_4 Z42_5 Z42_6 Z42_7 Z42_8 Z42_9
     try clear Z45_0 Z45_1 Z45_10 Z45_2 Z45_3 Z45_4 Z45_5 Z45_6 Z45_7 Z45_8 Z45_9
     try clear Z52_0 Z52_1 Z52_10 Z52_2 Z52_3 Z52_4 Z52_5 Z52_6 Z52_7 Z52_8 Z52_9
     try clear F11
     try clear F15
     try clear F19
     try clear F21
     try clear F25
     try clear F27
     try clear F30
     try clear F32
     try clear F33
     try clear F42
     try clear F45
     try clear F52
     try clear p2
     obtain ⟨x13_2, x14_2, rfl, HA, HK2, HO_11, HO_13, BK245, BK246, BK247, HB⟩ := hrel
     cases gk with
     | zero => exact absurd HA.out (by simp [graftagelaw16_CommitNames.l0])
     | succ k2 =>
      have H := HA.out; clear HA; simp only [graftagelaw16_CommitNames.l0] at H; by_cases c55 : x14_2 < (l0_1.length : Int); rotate_left
      ·rw [if_neg c55] at H; have c55b0 := df_ c55; clear c55; by_cases c69 : t256 = 0; rotate_left
       ·rw [if_neg c69] at H; have c69b0 := ef_ c69; have c69b1 := nt_ c69; obtain rfl := oi_ H; have hnb82 := NB245_246.out; have hnc82 := NB246_245.out; have hnb83 := NB245_247.out; have hnc83 := NB247_245.out; obtain ⟨Z84_0, Z84_1, Z84_2, Z84_3, Z84_4, Z84_5, Z84_6, Z84_7, Z84_8, Z84_9, Z84_10, F84⟩ := bc11 BK245.out; go_wp2
        go_ret
        exact ⟨z3_, hs_⟩
       rw [if_pos c69] at H; have c69b0 := et_ c69; have c69b1 := nf_ c69; clear c69; obtain ⟨t265, A70, H⟩ := bx_ H; by_cases c71 : t265 = true
       ·subst c71; rw [if_pos rfl] at H; have H' := Aside0.mk H; clear H; have hnb72 := NB245_246.out; have hnc72 := NB246_245.out; have hnb73 := NB245_247.out; have hnc73 := NB247_245.out; obtain ⟨Z74_0, Z74_1, Z74_2, Z74_3, Z74_4, Z74_5, Z74_6, Z74_7, Z74_8, Z74_9, Z74_10, F74⟩ := bc11 BK245.out; obtain ⟨Ao75, co75, eo75⟩ := Kd.R_slice HO_11.out; subst eo75; obtain ⟨Ao76, co76, eo76⟩ := Kd.R_slice HO_13.out; subst eo76; go_wp2_with (first | (go_at_call 38; (with_reducible refine (graftageref06_Same.calls k2 _ _ t253 _ _ x13_2 true _ ?side1 ?side2 ?side3 ?side4 A70.out).mono ?_); (case side1 => repeat (first | exact (Kd.R_reads' HO_11.out).2.2 | (with_reducible refine Kd.C_alloc ?_ _) | (with_reducible refine Kd.C_drewN ?_ _) | (with_reducible refine Kd.C_drew ?_))); (case side2 => exact (Kd.R_reads' HO_11.out).2.1); (case side3 => repeat (first | exact (Kd.R_reads' HO_13.out).2.2 | (with_reducible refine Kd.C_alloc ?_ _) | (with_reducible refine Kd.C_drewN ?_ _) | (with_reducible refine Kd.C_drew ?_))); (case side4 => exact (Kd.R_reads' HO_13.out).2.1); rintro e w' ⟨rfl, ⟨nd, rfl⟩⟩)); go_meet
        case rel => exact ⟨_, H', ⟨by have := HJ3.out; have := HK2.out; first | omega | exact Nat.le_refl _⟩, ⟨bk_ BK245.out⟩, ⟨bk_ BK246.out⟩, ⟨bk_ BK247.out⟩, ⟨hs_⟩⟩
       replace c71 := Bool.eq_false_iff.mpr c71; subst c71; rw [if_neg nft_] at H; obtain rfl := oi_ H; have hnb77 := NB245_246.out; have hnc77 := NB246_245.out; have hnb78 := NB245_247.out; have hnc78 := NB247_245.out; obtain ⟨Z79_0, Z79_1, Z79_2, Z79_3, Z79_4, Z79_5, Z79_6, Z79_7, Z79_8, Z79_9, Z79_10, F79⟩ := bc11 BK245.out; obtain ⟨Ao80, co80, eo80⟩ := Kd.R_slice HO_11.out; subst eo80; obtain ⟨Ao81, co81, eo81⟩ := Kd.R_slice HO_13.out; subst eo81; go_wp2_with (first | (go_at_call 38; (with_reducible refine (graftageref06_Same.calls k2 _ _ t253 _ _ x13_2 false _ ?side1 ?side2 ?side3 ?side4 A70.out).mono ?_); (case side1 => repeat (first | exact (Kd.R_reads' HO_11.out).2.2 | (with_reducible refine Kd.C_alloc ?_ _) | (with_reducible refine Kd.C_drewN ?_ _) | (with_reducible refine Kd.C_drew ?_))); (case side2 => exact (Kd.R_reads' HO_11.out).2.1); (case side3 => repeat (first | exact (Kd.R_reads' HO_13.out).2.2 | (with_reducible refine Kd.C_alloc ?_ _) | (with_reducible refine Kd.C_drewN ?_ _) | (with_reducible refine Kd.C_drew ?_))); (case side4 => exact (Kd.R_reads' HO_13.out).2.1); rintro e w' ⟨rfl, ⟨nd, rfl⟩⟩)); go_ret
       exact ⟨z3_, hs_⟩
      rw [if_pos c55] at H; have c55b0 := dt_ c55; clear c55; by_cases c56 : 0 ≤ x14_2; rotate_left
      ·rw [if_neg c56] at H; exact no_ H
      rw [if_pos c56] at H; have c56b0 := dt_ c56; clear c56; by_cases c57 : (rdOf ByteArray.empty l0_1 x14_2).toList = a0_0.toList
      ·rw [if_pos c57] at H; have c57b0 := et_ c57; have c57b1 := nf_ c57; clear c57; have H' := Aside0.mk H; clear H; have hnb58 := NB245_246.out; have hnc58 := NB246_245.out; have hnb59 := NB245_247.out; have hnc59 := NB247_245.out; obtain ⟨Z60_0, Z60_1, Z60_2, Z60_3, Z60_4, Z60_5, Z60_6, Z60_7, Z60_8, Z60_9, Z60_10, F60⟩ := bc11 BK245.out; try go_wp2
       replace HO_11 := Aside0.mk (Kd.R_drew HO_11.out); replace HO_13 := Aside0.mk (Kd.R_drew HO_13.out); replace BK245 := ad_ BK245; replace BK246 := ad_ BK246; replace BK247 := ad_ BK247; replace HB := hd_ HB; have p260 : 0 ≤ (x14_2 : Int) := y0_; have q260 : x14_2 < (l0_1.length : Int) := y0_; obtain ⟨ad260, e260, hx260_0⟩ := Kd.at_string HR0_1.out x14_2 p260 q260; have hw260_0 := hx260_0
       cases e260
       replace hx260_0 := (HB.out.cell (World.block_lt_of_cell? w _ hx260_0)).trans hx260_0; replace p260 := eq_true p260; replace q260 := eq_true q260; refine start_ (n := 8) (S := fun w' => w'.cell? ⟨gb245, 0, none⟩ = some (.string a0_0) ∧ w'.cell? ⟨gb245, 1, none⟩ = some (.slice (some ad260) l0_1.length c0_1) ∧ w'.cell? ⟨gb245, 2, none⟩ = some (.string a0_2) ∧ w'.cell? ⟨gb245, 3, none⟩ = some (.string a0_3) ∧ w'.cell? ⟨gb245, 4, none⟩ = some (.int .i64 a0_4) ∧ w'.cell? ⟨gb245, 5, none⟩ = some (.int .i64 a0_5) ∧ w'.cell? ⟨gb245, 6, none⟩ = some (.string a0_6) ∧ w'.cell? ⟨gb245, 7, none⟩ = some (.string a0_7) ∧ w'.cell? ⟨gb245, 8, none⟩ = some (.int .i64 a0_8) ∧ w'.cell? ⟨gb245, 9, none⟩ = some (.int .i64 a0_9) ∧ w'.cell? ⟨gb245, 10, none⟩ = some (.string a0_10) ∧ w'.cell? (ad260.add (x14_2).toNat) = some (.string (rdOf ByteArray.empty l0_1 x14_2))) (ds := []) (bs 8 0) (by kernel_rfl) rfl rfl ⟨(blk_cell BK245.out 0).trans rfl, (blk_cell BK245.out 1).trans rfl, (blk_cell BK245.out 2).trans rfl, (blk_cell BK245.out 3).trans rfl, (blk_cell BK245.out 4).trans rfl, (blk_cell BK245.out 5).trans rfl, (blk_cell BK245.out 6).trans rfl, (blk_cell BK245.out 7).trans rfl, (blk_cell BK245.out 8).trans rfl, (blk_cell BK245.out 9).trans rfl, (blk_cell BK245.out 10).trans rfl, ((HB.out.cell (World.block_lt_of_cell? w _ hw260_0)).trans hw260_0)⟩ (fun hHeld => ?_); refine with_tabW graftagelaw16_CommitNames.tab11 graftagelaw16_CommitNames.bits11 (fun HT_ HW_ => ?_); generalize wr.drew = w61 at HO_11 HO_13 BK245 BK246 BK247 HB hx260_0 hHeld ⊢; refine pun_ 0 76 8 1 ?_; refine pun_ 2 78 8 5 ?_; refine pun_ 5 81 8 37 ?_; refine tkW12n_ 1 77 8 39 hHeld ?_; refine pun_ 3 79 8 47 ?_; refine tkW12n_ 4 80 8 63 hHeld ?_; refine tkW12n_ 6 82 8 127 hHeld ?_; refine pun_ 7 83 8 255 ?_; refine dn_ ?_; try go_wp2
       go_roundg k2
       case measure => have := HJ3.out; have := HK2.out; omega
       case rel => exact ⟨(x13_2), (wrap64 (x14_2 + 1)), z1_, H', ⟨by have := HJ3.out; have := HK2.out; omega⟩, ⟨by (with_reducible repeat (first | apply Kd.R_alloc | apply Kd.R_drewN | apply Kd.R_drew)); exact HO_11.out⟩, ⟨by (with_reducible repeat (first | apply Kd.R_alloc | apply Kd.R_drewN | apply Kd.R_drew)); exact HO_13.out⟩, ⟨bk_ BK245.out⟩, ⟨bk_ BK246.out⟩, ⟨bk_ BK247.out⟩, ⟨hs_⟩⟩
      rw [if_neg c57] at H; have c57b0 := ef_ c57; have c57b1 := nt_ c57; by_cases c62 : x13_2.length < 8796093022208; rotate_left
      ·rw [if_neg c62] at H; exact no_ H
      rw [if_pos c62] at H; have LMc62 := Aside0.mk c62; clear c62; obtain ⟨y262, hy262⟩ : ∃ y_ : List ByteArray, y_ = (x13_2 ++ [rdOf ByteArray.empty l0_1 x14_2]) := ⟨_, rfl⟩; replace H : (graftagelaw16_CommitNames.l0 k2 t249 t250 t251 t252 t253 t256 y262 (wrap64 (x14_2 + 1)) a0_0 l0_1 a0_2 a0_3 a0_4 a0_5 a0_6 a0_7 a0_8 a0_9 a0_10 a1_0 l1_1 a1_2 a1_3 a1_4 a1_5 a1_6 a1_7 a1_8 a1_9 a1_10 a2_0 a2_1 a2_2 a2_3 a2_4 a2_5 a2_6 a2_7) = some r := by first | (rw [hy262]; with_reducible exact H) | (have H2_ := (Option.bind_some _ _).symm.trans H; rw [hy262]; with_reducible exact H2_) | (have H2_ := (Option.bind_some _ _).symm.trans H; with_reducible exact H2_) | with_reducible exact H | (rw [hy262]; exact H) | exact H
      have Ny262 := Aside0.mk hy262; clear hy262; have H' := Aside0.mk H; clear H; have hnb63 := NB245_246.out; have hnc63 := NB246_245.out; have hnb64 := NB245_247.out; have hnc64 := NB247_245.out; obtain ⟨Z65_0, Z65_1, Z65_2, Z65_3, Z65_4, Z65_5, Z65_6, Z65_7, Z65_8, Z65_9, Z65_10, F65⟩ := bc11 BK245.out; try go_wp2
      replace HO_11 := Aside0.mk (Kd.R_drew HO_11.out); replace HO_13 := Aside0.mk (Kd.R_drew HO_13.out); replace BK245 := ad_ BK245; replace BK246 := ad_ BK246; replace BK247 := ad_ BK247; replace HB := hd_ HB; have p260 : 0 ≤ (x14_2 : Int) := y0_; have q260 : x14_2 < (l0_1.length : Int) := y0_; obtain ⟨ad260, e260, hx260_0⟩ := Kd.at_string HR0_1.out x14_2 p260 q260; have hw260_0 := hx260_0
      cases e260
      replace hx260_0 := (HB.out.cell (World.block_lt_of_cell? w _ hx260_0)).trans hx260_0; replace p260 := eq_true p260; replace q260 := eq_true q260; refine start_ (n := 8) (S := fun w' => w'.cell? ⟨gb245, 0, none⟩ = some (.string a0_0) ∧ w'.cell? ⟨gb245, 1, none⟩ = some (.slice (some ad260) l0_1.length c0_1) ∧ w'.cell? ⟨gb245, 2, none⟩ = some (.string a0_2) ∧ w'.cell? ⟨gb245, 3, none⟩ = some (.string a0_3) ∧ w'.cell? ⟨gb245, 4, none⟩ = some (.int .i64 a0_4) ∧ w'.cell? ⟨gb245, 5, none⟩ = some (.int .i64 a0_5) ∧ w'.cell? ⟨gb245, 6, none⟩ = some (.string a0_6) ∧ w'.cell? ⟨gb245, 7, none⟩ = some (.string a0_7) ∧ w'.cell? ⟨gb245, 8, none⟩ = some (.int .i64 a0_8) ∧ w'.cell? ⟨gb245, 9, none⟩ = some (.int .i64 a0_9) ∧ w'.cell? ⟨gb245, 10, none⟩ = some (.string a0_10) ∧ w'.cell? (ad260.add (x14_2).toNat) = some (.string (rdOf ByteArray.empty l0_1 x14_2))) (ds := []) (bs 8 0) (by kernel_rfl) rfl rfl ⟨(blk_cell BK245.out 0).trans rfl, (blk_cell BK245.out 1).trans rfl, (blk_cell BK245.out 2).trans rfl, (blk_cell BK245.out 3).trans rfl, (blk_cell BK245.out 4).trans rfl, (blk_cell BK245.out 5).trans rfl, (blk_cell BK245.out 6).trans rfl, (blk_cell BK245.out 7).trans rfl, (blk_cell BK245.out 8).trans rfl, (blk_cell BK245.out 9).trans rfl, (blk_cell BK245.out 10).trans rfl, ((HB.out.cell (World.block_lt_of_cell? w _ hw260_0)).trans hw260_0)⟩ (fun hHeld => ?_); refine with_tabW graftagelaw16_CommitNames.tab11 graftagelaw16_CommitNames.bits11 (fun HT_ HW_ => ?_); generalize wr.drew = w66 at HO_11 HO_13 BK245 BK246 BK247 HB hx260_0 hHeld ⊢; refine pun_ 0 76 8 1 ?_; refine pun_ 2 78 8 5 ?_; refine pun_ 5 81 8 37 ?_; refine tkW12n_ 1 77 8 39 hHeld ?_; refine pun_ 3 79 8 47 ?_; refine tkW12n_ 4 80 8 63 hHeld ?_; refine tkW12n_ 6 82 8 127 hHeld ?_; refine pun_ 7 83 8 255 ?_; refine dn_ ?_; obtain ⟨Z67_0, Z67_1, Z67_2, Z67_3, Z67_4, Z67_5, Z67_6, Z67_7, Z67_8, Z67_9, Z67_10, F67⟩ := bc11 BK245.out; have p261 : 0 ≤ (x14_2 : Int) := y0_; have q261 : x14_2 < (l0_1.length : Int) := y0_; obtain ⟨ad261, e261, hx261_0⟩ := Kd.at_string HR0_1.out x14_2 p261 q261; obtain rfl : ad260 = ad261 := (by injection e261); replace hx261_0 := (HB.out.cell (World.block_lt_of_cell? w _ hx261_0)).trans hx261_0; replace p261 := eq_true p261; replace q261 := eq_true q261; try go_wp2_with (first | ((with_reducible refine gate_builtin (b := .append) (xs := #[.tmp 84, .tmp 90]) rfl ?_); (try (refine gate_guard (by rfl) ?_; dsimp only)); at_builtin; refine Kd.R_append Kd.string (w0 := w) w.heap.size rfl (.tmp 84) (.tmp 90) 22 9 (.string ⟨#[]⟩) 16 rfl underlying22 info9 rfl (by decide) (by omega) u13 x13_2 (rdOf ByteArray.empty l0_1 x14_2) [.string (rdOf ByteArray.empty l0_1 x14_2)] (fun k_ => some k_ ≠ (v254 : Value).ownBlock) (fun _ => False) rfl rfl ?aP (fun _ hk => hk.elim) ?aF ?aO ?aB ?aS ?aL ?_; (case aP => exact rfl); (case aB => exact (hs_)); (case aF => exact (fun k_ hk => Kd.fresh' (Kd.R_lt (rk_ HO_11.out)) k_ hk)); (case aO => exact (rk_ HO_13.out)); (case aS => exact (below_size (hs_))); (case aL => have := LMc62.out; omega); intro v263 w68 ho hb hg hat; rw [← Ny262.out] at ho; have n0_ := Aside0.mk (Kd.R_after (ok := (fun _ => True)) (by (with_reducible repeat (first | apply Kd.R_alloc | apply Kd.R_drewN | apply Kd.R_drew)); exact Kd.R_mono HO_11.out (fun _ hk => ⟨trivial, hk⟩)) hg hat); have n1_ := Aside0.mk (blk_grown (g := gb245) (o := .cells #[.string a0_0, .slice (some ad260) l0_1.length c0_1, .string a0_2, .string a0_3, .int .i64 a0_4, .int .i64 a0_5, .string a0_6, .string a0_7, .int .i64 a0_8, .int .i64 a0_9, .string a0_10] 26 (0, 0)) (bk_ BK245.out) hg (Kd.R_ne HO_13.out BK245.out (by decide))); have n2_ := Aside0.mk (blk_grown (g := gb246) (o := .cells #[.string a1_0, .slice A1_1 l1_1.length c1_1, .string a1_2, .string a1_3, .int .i64 a1_4, .int .i64 a1_5, .string a1_6, .string a1_7, .int .i64 a1_8, .int .i64 a1_9, .string a1_10] 26 (0, 0)) (bk_ BK246.out) hg (Kd.R_ne HO_13.out BK246.out (by decide))); have n3_ := Aside0.mk (blk_grown (g := gb247) (o := .cells #[.string a2_0, .int .i64 a2_1, .string a2_2, .string a2_3, .string a2_4, .int .i64 a2_5, .int .i64 a2_6, .string a2_7] 37 (0, 0)) (bk_ BK247.out) hg (Kd.R_ne HO_13.out BK247.out (by decide))); have n4_ := Aside0.mk (hb); have n5_ := Aside0.mk (ho); clear HO_11; clear BK245; clear BK246; clear BK247; clear HB; clear HO_13; have HO_11 := n0_; have BK245 := n1_; have BK246 := n2_; have BK247 := n3_; have HB := n4_; have HO264 := n5_; clear n0_ n1_ n2_ n3_ n4_ n5_; clear ho hb hg hat))
      go_roundg k2
      case measure => have := HJ3.out; have := HK2.out; omega
      case rel => exact ⟨(y262), (wrap64 (x14_2 + 1)), z1_, H', ⟨by have := HJ3.out; have := HK2.out; omega⟩, ⟨by (with_reducible repeat (first | apply Kd.R_alloc | apply Kd.R_drewN | apply Kd.R_drew)); exact Kd.R_mono HO_11.out (fun _ hk => hk.2)⟩, ⟨by (with_reducible repeat (first | apply Kd.R_alloc | apply Kd.R_drewN | apply Kd.R_drew)); exact HO264.out⟩, ⟨bk_ BK245.out⟩, ⟨bk_ BK246.out⟩, ⟨bk_ BK247.out⟩, ⟨hs_⟩⟩
   case rest =>
    clear HC39; try clear c1
    try clear p2
    try clear q2
    try clear hx2
    try clear c4
    try clear c5
    try clear c6
    try clear p6
    try clear c7
    try clear c8
    try clear p26
    try clear q26
    try clear hx26
    try clear c47
    try clear c47b0
    try clear c47b1
    try clear c55
    try clear c55b0
    try clear c56
    try clear c56b0
    try clear c57
    try clear c57b0
    try clear c57b1
    try clear c58
    try clear c59
    try clear c62
    try clear c63
    try clear c64
    try clear p64
    try clear c69
    try clear c69b0
    try clear c69b1
    try clear c71
    try clear c72
    try clear c73
    try clear c77
    try clear c78
    try clear c82
    try clear c83
    try clear Z45_7 Z45_8 Z45_9
    try clear Z52_0 Z52_1 Z52_10 Z52_2 Z52_3 Z52_4 Z52_5 Z52_6 Z52_7 Z52_8 Z52_9
    try clear Z60_0 Z60_1 Z60_10 Z60_2 Z60_3 Z60_4 Z60_5 Z60_6 Z60_7 Z60_8 Z60_9
    try clear Z65_0 Z65_1 Z65_10 Z65_2 Z65_3 Z65_4 Z65_5 Z65_6 Z65_7 Z65_8 Z65_9
    try clear Z67_0 Z67_1 Z67_10 Z67_2 Z67_3 Z67_4 Z67_5 Z67_6 Z67_7 Z67_8 Z67_9
    try clear Z74_0 Z74_1 Z74_10 Z74_2 Z74_3 Z74_4 Z74_5 Z74_6 Z74_7 Z74_8 Z74_9
    try clear Z79_0 Z79_1 Z79_10 Z79_2 Z79_3 Z79_4 Z79_5 Z79_6 Z79_7 Z79_8 Z79_9
    try clear Z84_0 Z84_1 Z84_10 Z84_2 Z84_3 Z84_4 Z84_5 Z84_6 Z84_7 Z84_8 Z84_9
    try clear F11
    try clear F15
    try clear F19
    try clear F21
    try clear F25
    try clear F27
    try clear F30
    try clear F32
    try clear F33
    try clear F42
    try clear F45
    try clear F52
    try clear F60
    try clear F65
    try clear F67
    try clear F74
    try clear F79
    try clear F84
    try clear hx260_0
    try clear hx261_0
    try clear p2
    try clear p260
    try clear p261
    try clear q260
    try clear q261
    obtain ⟨kq, HA, HJ38, BK245, BK246, BK247, HB⟩ := hcut
    cases kq with
    | zero => exact absurd HA.out (by simp [graftagelaw16_CommitNames.j2])
    | succ kj38 =>
     have H := HA.out; clear HA; simp only [graftagelaw16_CommitNames.j2] at H; have HC85 := Aside0.mk H; clear H; go_upto_region 15 with (fail)
     go_cut [114] (fun v114 wc => ∃ (kq : Nat) (x114_84 : Bool), v114 = .bool x114_84 ∧ Aside0 (graftagelaw16_CommitNames.j3 kq x114_84 a2_0 a2_1 a2_2 a2_3 a2_4 a2_5 a2_6 a2_7 = some r) ∧ Aside0 (kq ≤ kj38) ∧ Aside0 (wc.heap[gb245]? = some (.cells #[.string a0_0, (.slice A0_1 l0_1.length c0_1), .string a0_2, .string a0_3, .int .i64 a0_4, .int .i64 a0_5, .string a0_6, .string a0_7, .int .i64 a0_8, .int .i64 a0_9, .string a0_10] 26 (0, 0))) ∧ Aside0 (wc.heap[gb246]? = some (.cells #[.string a1_0, (.slice A1_1 l1_1.length c1_1), .string a1_2, .string a1_3, .int .i64 a1_4, .int .i64 a1_5, .string a1_6, .string a1_7, .int .i64 a1_8, .int .i64 a1_9, .string a1_10] 26 (0, 0))) ∧ Aside0 (wc.heap[gb247]? = some (.cells #[.string a2_0, .int .i64 a2_1, .string a2_2, .string a2_3, .string a2_4, .int .i64 a2_5, .int .i64 a2_6, .string a2_7] 37 (0, 0))) ∧ Aside0 (Below w.heap.size w wc))
     case first =>
      have H := HC85.out; clear HC85; by_cases c86 : t250 = 0; rotate_left
      ·rw [if_neg c86] at H; have c86b0 := ef_ c86; have c86b1 := nt_ c86; (first | rw [c86b0] | (simp only [i64_w, i32_w]; rw [c86b0]) | skip); (try rw [c86b8])
       have H' := Aside0.mk H; clear H; go_wp2
       go_meet
       case rel => exact ⟨_, (false), z1_, H', ⟨by have := HJ3.out; have := HJ38.out; first | omega | exact Nat.le_refl _⟩, ⟨bk_ BK245.out⟩, ⟨bk_ BK246.out⟩, ⟨bk_ BK247.out⟩, ⟨hs_⟩⟩
      rw [if_pos c86] at H; have c86b0 := et_ c86; have c86b1 := nf_ c86; clear c86; (first | rw [c86b0] | (simp only [i64_w, i32_w]; rw [c86b0]) | skip); (try rw [c86b8])
      by_cases c87 : t252 = 0; rotate_left
      ·rw [if_neg c87] at H; have c87b0 := ef_ c87; have c87b1 := nt_ c87; have H' := Aside0.mk H; clear H; go_wp2
       go_meet
       case rel => exact ⟨_, (false), z1_, H', ⟨by have := HJ3.out; have := HJ38.out; first | omega | exact Nat.le_refl _⟩, ⟨bk_ BK245.out⟩, ⟨bk_ BK246.out⟩, ⟨bk_ BK247.out⟩, ⟨hs_⟩⟩
      rw [if_pos c87] at H; have c87b0 := et_ c87; have c87b1 := nf_ c87; clear c87; obtain ⟨t266, A88, H⟩ := bx_ H; have H' := Aside0.mk H; clear H; have hnb89 := NB245_246.out; have hnc89 := NB246_245.out; have hnb90 := NB245_247.out; have hnc90 := NB247_245.out; obtain ⟨Z91_0, Z91_1, Z91_2, Z91_3, Z91_4, Z91_5, Z91_6, Z91_7, Z91_8, Z91_9, Z91_10, F91⟩ := bc11 BK245.out; have hnb92 := NB246_247.out; have hnc92 := NB247_246.out; obtain ⟨Z93_0, Z93_1, Z93_2, Z93_3, Z93_4, Z93_5, Z93_6, Z93_7, Z93_8, Z93_9, Z93_10, F93⟩ := bc11 BK246.out; go_wp2_with (first | (go_at_call 21; (with_reducible refine (graftageref16_Same.calls kj38 a0_0 _ _ l0_1 a0_2 a0_3 a0_4 a0_5 a0_6 a0_7 a0_8 a0_9 a0_10 a1_0 _ _ l1_1 a1_2 a1_3 a1_4 a1_5 a1_6 a1_7 a1_8 a1_9 a1_10 t266 _ ?side1 ?side2 ?side3 ?side4 A88.out).mono ?_); (case side1 => repeat (first | exact (Kd.C_below HR0_1.out HB.out) | (with_reducible refine Kd.C_alloc ?_ _) | (with_reducible refine Kd.C_drewN ?_ _) | (with_reducible refine Kd.C_drew ?_))); (case side2 => exact HC0_1.out); (case side3 => repeat (first | exact (Kd.C_below HR1_1.out HB.out) | (with_reducible refine Kd.C_alloc ?_ _) | (with_reducible refine Kd.C_drewN ?_ _) | (with_reducible refine Kd.C_drew ?_))); (case side4 => exact HC1_1.out); rintro e w94 ⟨rfl, hb⟩; replace BK245 := ab_ BK245 hb; replace BK246 := ab_ BK246 hb; replace BK247 := ab_ BK247 hb; replace HB := Aside0.mk (below_step (hs_) hb); (try clear hb); (try clear hb2); (try clear hk); (try clear hi)))
      go_meet
      case rel => exact ⟨_, (((t249.toList == t251.toList) != t266)), z1_, H', ⟨by have := HJ3.out; have := HJ38.out; first | omega | exact Nat.le_refl _⟩, ⟨bk_ BK245.out⟩, ⟨bk_ BK246.out⟩, ⟨bk_ BK247.out⟩, ⟨hs_⟩⟩
     case rest =>
      clear HC85; try clear c1
      try clear p2
      try clear q2
      try clear hx2
      try clear c4
      try clear c5
      try clear c6
      try clear p6
      try clear c7
      try clear c8
      try clear c9
      try clear p26
      try clear q26
      try clear hx26
      try clear c47
      try clear c47b0
      try clear c47b1
      try clear c55
      try clear c55b0
      try clear c56
      try clear c56b0
      try clear c57
      try clear c57b0
      try clear c57b1
      try clear c58
      try clear c59
      try clear c62
      try clear c63
      try clear c64
      try clear p64
      try clear c69
      try clear c69b0
      try clear c69b1
      try clear c71
      try clear c72
      try clear c73
      try clear c77
      try clear c78
      try clear c82
      try clear c83
      try clear c86
      try clear c86b0
      try clear c86b1
      try clear c87
      try clear c87b0
      try clear c87b1
      try clear c89
      try clear c90
      try clear c92
      try clear Z45_7 Z45_8 Z45_9
      try clear Z52_0 Z52_1 Z52_10 Z52_2 Z52_3 Z52_4 Z52_5 Z52_6 Z52_7 Z52_8 Z52_9
      try clear Z60_0 Z60_1 Z60_10 Z60_2 Z60_3 Z60_4 Z60_5 Z60_6 Z60_7 Z60_8 Z60_9
      try clear Z65_0 Z65_1 Z65_10 Z65_2 Z65_3 Z65_4 Z65_5 Z65_6 Z65_7 Z65_8 Z65_9
      try clear Z67_0 Z67_1 Z67_10 Z67_2 Z67_3 Z67_4 Z67_5 Z67_6 Z67_7 Z67_8 Z67_9
      try clear Z74_0 Z74_1 Z74_10 Z74_2 Z74_3 Z74_4 Z74_5 Z74_6 Z74_7 Z74_8 Z74_9
      try clear Z79_0 Z79_1 Z79_10 Z79_2 Z79_3 Z79_4 Z79_5 Z79_6 Z79_7 Z79_8 Z79_9
      try clear Z84_0 Z84_1 Z84_10 Z84_2 Z84_3 Z84_4 Z84_5 Z84_6 Z84_7 Z84_8 Z84_9
      try clear Z91_0 Z91_1 Z91_10 Z91_2 Z91_3 Z91_4 Z91_5 Z91_6 Z91_7 Z91_8 Z91_9
      try clear Z93_0 Z93_1 Z93_10 Z93_2 Z93_3 Z93_4 Z93_5 Z93_6 Z93_7 Z93_8 Z93_9
      try clear F11
      try clear F15
      try clear F19
      try clear F21
      try clear F25
      try clear F27
      try clear F30
      try clear F32
      try clear F33
      try clear F42
      try clear F45
      try clear F52
      try clear F60
      try clear F65
      try clear F67
      try clear F74
      try clear F79
      try clear F84
      try clear F91
      try clear F93
      try clear hx260_0
      try clear hx261_0
      try clear p2
      try clear p26
      try clear p260
      try clear p261
      try clear p6
      try clear p64
      try clear q2
      try clear q26
      try clear q260
      try clear q261
      obtain ⟨kq, x114_84, rfl, HA, HJ84, BK245, BK246, BK247, HB⟩ := hcut
      cases kq with
      | zero => exact absurd HA.out (by simp [graftagelaw16_CommitNames.j3])
      | succ kj84 =>
       have H := HA.out; clear HA; simp only [graftagelaw16_CommitNames.j3] at H; by_cases c95 : x114_84 = true
       ·subst c95; rw [if_pos rfl] at H; obtain rfl := oi_ H; go_wp2
        go_ret
        exact ⟨z3_, hs_⟩
       replace c95 := Bool.eq_false_iff.mpr c95; subst c95; rw [if_neg nft_] at H; obtain ⟨⟨t267, t268⟩, A96, H⟩ := bx_ H; dsimp only at H; by_cases c97 : t268 = 0; rotate_left
       ·rw [if_neg c97] at H; have c97b0 := ef_ c97; have c97b1 := nt_ c97; obtain ⟨t275, A134, H⟩ := bx_ H; obtain rfl := oi_ H; have hnb135 := NB247_245.out; have hnc135 := NB245_247.out; have hnb136 := NB247_246.out; have hnc136 := NB246_247.out; obtain ⟨Z137_0, Z137_1, Z137_2, Z137_3, Z137_4, Z137_5, Z137_6, Z137_7, F137⟩ := bc8 BK247.out; go_wp2_with (first | ((with_reducible refine gate_callee (f := 25) rfl ?_); refine gl_ (some 117) func25 #[.agg #[.string a2_0, .int .i64 a2_1, .string a2_2, .string a2_3, .string a2_4, .int .i64 a2_5, .int .i64 a2_6, .string a2_7]] ?_; (with_reducible refine (commit_TagBody.calls kj84 a2_0 a2_1 a2_2 a2_3 a2_4 a2_5 a2_6 a2_7 t267 t268 _ ?side1 A96.out).mono ?_); (case side1 => exact GV.below hgv (hs_)); rintro e w138 ⟨rfl, hb⟩; refine ⟨_, rfl, ?_⟩; replace BK245 := ab_ BK245 hb; replace BK246 := ab_ BK246 hb; replace BK247 := ab_ BK247 hb; replace HB := Aside0.mk (below_step (hs_) hb); (try clear hb); (try clear hb2); (try clear hk); (try clear hi)) | ((with_reducible refine gate_callee (f := 15) rfl ?_); refine gl_ (some 122) func15 #[] ?_; (with_reducible refine (graftagelaw16_lives.calls kj84  t275 _ ?side1 A134.out).mono ?_); (case side1 => exact GV.below hgv (hs_)); rintro e w139 ⟨rfl, hb⟩; refine ⟨_, rfl, ?_⟩; replace BK245 := ab_ BK245 hb; replace BK246 := ab_ BK246 hb; replace BK247 := ab_ BK247 hb; replace HB := Aside0.mk (below_step (hs_) hb); (try clear hb); (try clear hb2); (try clear hk); (try clear hi)))
        go_ret
        exact ⟨z3_, hs_⟩
       rw [if_pos c97] at H; have c97b0 := et_ c97; have c97b1 := nf_ c97; clear c97; obtain ⟨⟨t269, t272⟩, A98, H⟩ := bx_ H; dsimp only at H; obtain ⟨t273, A99, H⟩ := bx_ H; by_cases c100 : t273 = true; rotate_left
       ·replace c100 := Bool.eq_false_iff.mpr c100; subst c100; rw [if_neg nft_] at H; obtain rfl := oi_ H; have hnb127 := NB247_245.out; have hnc127 := NB245_247.out; have hnb128 := NB247_246.out; have hnc128 := NB246_247.out; obtain ⟨Z129_0, Z129_1, Z129_2, Z129_3, Z129_4, Z129_5, Z129_6, Z129_7, F129⟩ := bc8 BK247.out; try go_wp2_with (first | ((with_reducible refine gate_callee (f := 25) rfl ?_); refine gl_ (some 117) func25 #[.agg #[.string a2_0, .int .i64 a2_1, .string a2_2, .string a2_3, .string a2_4, .int .i64 a2_5, .int .i64 a2_6, .string a2_7]] ?_; (with_reducible refine (commit_TagBody.calls kj84 a2_0 a2_1 a2_2 a2_3 a2_4 a2_5 a2_6 a2_7 t267 t268 _ ?side1 A96.out).mono ?_); (case side1 => exact GV.below hgv (hs_)); rintro e w130 ⟨rfl, hb⟩; refine ⟨_, rfl, ?_⟩; replace BK245 := ab_ BK245 hb; replace BK246 := ab_ BK246 hb; replace BK247 := ab_ BK247 hb; replace HB := Aside0.mk (below_step (hs_) hb); (try clear hb); (try clear hb2); (try clear hk); (try clear hi)) | ((with_reducible refine gate_callee (f := 34) rfl ?_); refine gl_ (some 126) func34 #[.agg #[.int .i64 4, .string t267]] ?_; (with_reducible refine (commit_Links.calls kj84 4 t267 t269 t272 _ ?side1 A98.out).mono ?_); (case side1 => exact GV.below hgv (hs_)); rintro e w131 ⟨v270, rfl, ho0, hb⟩; refine ⟨_, rfl, ?_⟩; have HO271 := Aside0.mk (Kd.R_lower ho0 (below_size (hs_))); replace BK245 := ab_ BK245 hb; replace BK246 := ab_ BK246 hb; replace BK247 := ab_ BK247 hb; replace HB := Aside0.mk (below_step (hs_) hb); (try clear hb); (try clear hb2); (try clear hk); (try clear hi); (try clear ho0)))
        replace HO271 := Aside0.mk (Kd.R_drew HO271.out); replace BK245 := ad_ BK245; replace BK246 := ad_ BK246; replace BK247 := ad_ BK247; replace HB := hd_ HB; refine start_ (n := 19) (S := fun w' => True) (ds := []) (bs 19 0) (by kernel_rfl) rfl rfl trivial (fun hHeld => ?_); refine with_tabW graftagelaw16_CommitNames.tab21 graftagelaw16_CommitNames.bits21 (fun HT_ HW_ => ?_); generalize w131.drew = w132 at HO271 BK245 BK246 BK247 HB hHeld ⊢; refine on_ 0 129 19 1 (fun K hK => ?_); refine goes_ func15 (by kernel_rfl) rfl #[] (by rfl) rfl rfl z5_ ?_
        with_reducible refine (graftagelaw16_lives.calls kj84  false _ ?side1 A99.out).mono ?_
        (case side1 => exact GV.below hgv (hs_))
        rintro e w133 ⟨rfl, hb⟩; refine ⟨_, rfl, ?_⟩; replace HO271 := Aside0.mk (Kd.R_below (rk_ HO271.out) hb); replace BK245 := ab_ BK245 hb; replace BK246 := ab_ BK246 hb; replace BK247 := ab_ BK247 hb; replace HB := Aside0.mk (below_step (hs_) hb); (try clear hb)
        (try clear hb2)
        (try clear hk)
        (try clear hi)
        refine hK.out _ _ trivial (fun hHeld => ?_); clear hK K; refine norm_ (a' := ?_) ?_ ?_; rotate_left
        ·show Act.put _ (some 129) _ = _
         simp only [Act.put, List.setIfInBounds_toArray, List.set_cons_zero, List.set_cons_succ, i64_w, i32_w]; rfl
        refine pun_ 1 130 19 3 ?_; refine pnn_ 2 131 19 7 ?_; refine pnn_ 3 132 19 15 ?_; refine pun_ 4 133 19 31 ?_; refine pun_ 5 134 19 63 ?_; refine pnn_ 6 135 19 127 ?_; refine pnn_ 7 136 19 255 ?_; refine pnn_ 8 137 19 511 ?_; refine pun_ 9 138 19 1023 ?_; refine pun_ 10 139 19 2047 ?_; refine pnn_ 11 140 19 4095 ?_; refine pnn_ 12 141 19 8191 ?_; refine pnn_ 13 142 19 16383 ?_; refine pnn_ 14 143 19 32767 ?_; refine pnn_ 15 144 19 65535 ?_; refine pnn_ 16 145 19 131071 ?_; refine pun_ 17 146 19 262143 ?_; refine pun_ 18 6 19 524287 ?_; refine dn_ ?_; try go_wp2
        go_ret
        exact ⟨z3_, hs_⟩
       subst c100; rw [if_pos rfl] at H; by_cases c101 : t272 = 0; rotate_left
       ·rw [if_neg c101] at H; have c101b0 := ef_ c101; have c101b1 := nt_ c101; obtain rfl := oi_ H; have hnb120 := NB247_245.out; have hnc120 := NB245_247.out; have hnb121 := NB247_246.out; have hnc121 := NB246_247.out; obtain ⟨Z122_0, Z122_1, Z122_2, Z122_3, Z122_4, Z122_5, Z122_6, Z122_7, F122⟩ := bc8 BK247.out; try go_wp2_with (first | ((with_reducible refine gate_callee (f := 25) rfl ?_); refine gl_ (some 117) func25 #[.agg #[.string a2_0, .int .i64 a2_1, .string a2_2, .string a2_3, .string a2_4, .int .i64 a2_5, .int .i64 a2_6, .string a2_7]] ?_; (with_reducible refine (commit_TagBody.calls kj84 a2_0 a2_1 a2_2 a2_3 a2_4 a2_5 a2_6 a2_7 t267 t268 _ ?side1 A96.out).mono ?_); (case side1 => exact GV.below hgv (hs_)); rintro e w123 ⟨rfl, hb⟩; refine ⟨_, rfl, ?_⟩; replace BK245 := ab_ BK245 hb; replace BK246 := ab_ BK246 hb; replace BK247 := ab_ BK247 hb; replace HB := Aside0.mk (below_step (hs_) hb); (try clear hb); (try clear hb2); (try clear hk); (try clear hi)) | ((with_reducible refine gate_callee (f := 34) rfl ?_); refine gl_ (some 126) func34 #[.agg #[.int .i64 4, .string t267]] ?_; (with_reducible refine (commit_Links.calls kj84 4 t267 t269 t272 _ ?side1 A98.out).mono ?_); (case side1 => exact GV.below hgv (hs_)); rintro e w124 ⟨v270, rfl, ho0, hb⟩; refine ⟨_, rfl, ?_⟩; have HO271 := Aside0.mk (Kd.R_lower ho0 (below_size (hs_))); replace BK245 := ab_ BK245 hb; replace BK246 := ab_ BK246 hb; replace BK247 := ab_ BK247 hb; replace HB := Aside0.mk (below_step (hs_) hb); (try clear hb); (try clear hb2); (try clear hk); (try clear hi); (try clear ho0)))
        replace HO271 := Aside0.mk (Kd.R_drew HO271.out); replace BK245 := ad_ BK245; replace BK246 := ad_ BK246; replace BK247 := ad_ BK247; replace HB := hd_ HB; refine start_ (n := 19) (S := fun w' => True) (ds := []) (bs 19 0) (by kernel_rfl) rfl rfl trivial (fun hHeld => ?_); refine with_tabW graftagelaw16_CommitNames.tab21 graftagelaw16_CommitNames.bits21 (fun HT_ HW_ => ?_); generalize w124.drew = w125 at HO271 BK245 BK246 BK247 HB hHeld ⊢; refine on_ 0 129 19 1 (fun K hK => ?_); refine goes_ func15 (by kernel_rfl) rfl #[] (by rfl) rfl rfl z5_ ?_
        with_reducible refine (graftagelaw16_lives.calls kj84  true _ ?side1 A99.out).mono ?_
        (case side1 => exact GV.below hgv (hs_))
        rintro e w126 ⟨rfl, hb⟩; refine ⟨_, rfl, ?_⟩; replace HO271 := Aside0.mk (Kd.R_below (rk_ HO271.out) hb); replace BK245 := ab_ BK245 hb; replace BK246 := ab_ BK246 hb; replace BK247 := ab_ BK247 hb; replace HB := Aside0.mk (below_step (hs_) hb); (try clear hb)
        (try clear hb2)
        (try clear hk)
        (try clear hi)
        refine hK.out _ _ trivial (fun hHeld => ?_); clear hK K; refine norm_ (a' := ?_) ?_ ?_; rotate_left
        ·show Act.put _ (some 129) _ = _
         simp only [Act.put, List.setIfInBounds_toArray, List.set_cons_zero, List.set_cons_succ, i64_w, i32_w]; rfl
        refine pun_ 1 130 19 3 ?_; refine pun_ 2 131 19 7 ?_; refine pun_ 3 132 19 15 ?_; refine pun_ 4 133 19 31 ?_; refine pun_ 5 134 19 63 ?_; refine pnn_ 6 135 19 127 ?_; refine pnn_ 7 136 19 255 ?_; refine pnn_ 8 137 19 511 ?_; refine pun_ 9 138 19 1023 ?_; refine pun_ 10 139 19 2047 ?_; refine pnn_ 11 140 19 4095 ?_; refine pnn_ 12 141 19 8191 ?_; refine pnn_ 13 142 19 16383 ?_; refine pnn_ 14 143 19 32767 ?_; refine pnn_ 15 144 19 65535 ?_; refine pnn_ 16 145 19 131071 ?_; refine pun_ 17 146 19 262143 ?_; refine pun_ 18 6 19 524287 ?_; refine dn_ ?_; try go_wp2
        go_ret
        exact ⟨z3_, hs_⟩
       rw [if_pos c101] at H; have c101b0 := et_ c101; have c101b1 := nf_ c101; clear c101; by_cases c102 : (t269.length : Int) = 1; rotate_left
       ·rw [if_neg c102] at H; have c102b0 := ef_ c102; have c102b1 := nt_ c102; obtain rfl := oi_ H; have hnb112 := NB247_245.out; have hnc112 := NB245_247.out; have hnb113 := NB247_246.out; have hnc113 := NB246_247.out; obtain ⟨Z114_0, Z114_1, Z114_2, Z114_3, Z114_4, Z114_5, Z114_6, Z114_7, F114⟩ := bc8 BK247.out; try go_wp2_with (first | ((with_reducible refine gate_callee (f := 25) rfl ?_); refine gl_ (some 117) func25 #[.agg #[.string a2_0, .int .i64 a2_1, .string a2_2, .string a2_3, .string a2_4, .int .i64 a2_5, .int .i64 a2_6, .string a2_7]] ?_; (with_reducible refine (commit_TagBody.calls kj84 a2_0 a2_1 a2_2 a2_3 a2_4 a2_5 a2_6 a2_7 t267 t268 _ ?side1 A96.out).mono ?_); (case side1 => exact GV.below hgv (hs_)); rintro e w115 ⟨rfl, hb⟩; refine ⟨_, rfl, ?_⟩; replace BK245 := ab_ BK245 hb; replace BK246 := ab_ BK246 hb; replace BK247 := ab_ BK247 hb; replace HB := Aside0.mk (below_step (hs_) hb); (try clear hb); (try clear hb2); (try clear hk); (try clear hi)) | ((with_reducible refine gate_callee (f := 34) rfl ?_); refine gl_ (some 126) func34 #[.agg #[.int .i64 4, .string t267]] ?_; (with_reducible refine (commit_Links.calls kj84 4 t267 t269 t272 _ ?side1 A98.out).mono ?_); (case side1 => exact GV.below hgv (hs_)); rintro e w116 ⟨v270, rfl, ho0, hb⟩; refine ⟨_, rfl, ?_⟩; have HO271 := Aside0.mk (Kd.R_lower ho0 (below_size (hs_))); replace BK245 := ab_ BK245 hb; replace BK246 := ab_ BK246 hb; replace BK247 := ab_ BK247 hb; replace HB := Aside0.mk (below_step (hs_) hb); (try clear hb); (try clear hb2); (try clear hk); (try clear hi); (try clear ho0)))
        replace HO271 := Aside0.mk (Kd.R_drew HO271.out); replace BK245 := ad_ BK245; replace BK246 := ad_ BK246; replace BK247 := ad_ BK247; replace HB := hd_ HB; refine start_ (n := 19) (S := fun w' => True) (ds := []) (bs 19 0) (by kernel_rfl) rfl rfl trivial (fun hHeld => ?_); refine with_tabW graftagelaw16_CommitNames.tab21 graftagelaw16_CommitNames.bits21 (fun HT_ HW_ => ?_); generalize w116.drew = w117 at HO271 BK245 BK246 BK247 HB hHeld ⊢; refine on_ 0 129 19 1 (fun K hK => ?_); refine goes_ func15 (by kernel_rfl) rfl #[] (by rfl) rfl rfl z5_ ?_
        with_reducible refine (graftagelaw16_lives.calls kj84  true _ ?side1 A99.out).mono ?_
        (case side1 => exact GV.below hgv (hs_))
        rintro e w118 ⟨rfl, hb⟩; refine ⟨_, rfl, ?_⟩; replace HO271 := Aside0.mk (Kd.R_below (rk_ HO271.out) hb); replace BK245 := ab_ BK245 hb; replace BK246 := ab_ BK246 hb; replace BK247 := ab_ BK247 hb; replace HB := Aside0.mk (below_step (hs_) hb); (try clear hb)
        (try clear hb2)
        (try clear hk)
        (try clear hi)
        obtain ⟨Ao119, co119, eo119⟩ := Kd.R_slice HO271.out; (first | subst eo119 | (injection eo119 with f1_ f2_ f3_; have f4_ := f1_.symm; have f5_ := f3_.symm; clear f1_ f2_ f3_; subst f4_; subst f5_)); refine hK.out _ _ trivial (fun hHeld => ?_); clear hK K; refine norm_ (a' := ?_) ?_ ?_; rotate_left
        ·show Act.put _ (some 129) _ = _
         simp only [Act.put, List.setIfInBounds_toArray, List.set_cons_zero, List.set_cons_succ, i64_w, i32_w]; rfl
        refine pun_ 1 130 19 3 ?_; refine pun_ 2 131 19 7 ?_; refine pun_ 3 132 19 15 ?_; refine pun_ 4 133 19 31 ?_; refine pun_ 5 134 19 63 ?_; refine pun_ 6 135 19 127 ?_; refine pun_ 7 136 19 255 ?_; refine pun_ 8 137 19 511 ?_; refine pun_ 9 138 19 1023 ?_; refine pun_ 10 139 19 2047 ?_; refine pnn_ 11 140 19 4095 ?_; refine pnn_ 12 141 19 8191 ?_; refine pnn_ 13 142 19 16383 ?_; refine pnn_ 14 143 19 32767 ?_; refine pnn_ 15 144 19 65535 ?_; refine pnn_ 16 145 19 131071 ?_; refine pun_ 17 146 19 262143 ?_; refine pun_ 18 6 19 524287 ?_; refine dn_ ?_; try go_wp2
        go_ret
        exact ⟨z3_, hs_⟩
       rw [if_pos c102] at H; have c102b0 := et_ c102; have c102b1 := nf_ c102; clear c102; by_cases c103 : 0 < (t269.length : Int); rotate_left
       ·rw [if_neg c103] at H; exact no_ H
       rw [if_pos c103] at H; have c103b0 := dt_ c103; have c103b1 : decide (0 < t269.length) = true := decide_eq_true (by omega); clear c103; obtain rfl := oi_ H; have hnb104 := NB247_245.out; have hnc104 := NB245_247.out; have hnb105 := NB247_246.out; have hnc105 := NB246_247.out; obtain ⟨Z106_0, Z106_1, Z106_2, Z106_3, Z106_4, Z106_5, Z106_6, Z106_7, F106⟩ := bc8 BK247.out; try go_wp2_with (first | ((with_reducible refine gate_callee (f := 25) rfl ?_); refine gl_ (some 117) func25 #[.agg #[.string a2_0, .int .i64 a2_1, .string a2_2, .string a2_3, .string a2_4, .int .i64 a2_5, .int .i64 a2_6, .string a2_7]] ?_; (with_reducible refine (commit_TagBody.calls kj84 a2_0 a2_1 a2_2 a2_3 a2_4 a2_5 a2_6 a2_7 t267 t268 _ ?side1 A96.out).mono ?_); (case side1 => exact GV.below hgv (hs_)); rintro e w107 ⟨rfl, hb⟩; refine ⟨_, rfl, ?_⟩; replace BK245 := ab_ BK245 hb; replace BK246 := ab_ BK246 hb; replace BK247 := ab_ BK247 hb; replace HB := Aside0.mk (below_step (hs_) hb); (try clear hb); (try clear hb2); (try clear hk); (try clear hi)) | ((with_reducible refine gate_callee (f := 34) rfl ?_); refine gl_ (some 126) func34 #[.agg #[.int .i64 4, .string t267]] ?_; (with_reducible refine (commit_Links.calls kj84 4 t267 t269 t272 _ ?side1 A98.out).mono ?_); (case side1 => exact GV.below hgv (hs_)); rintro e w108 ⟨v270, rfl, ho0, hb⟩; refine ⟨_, rfl, ?_⟩; have HO271 := Aside0.mk (Kd.R_lower ho0 (below_size (hs_))); replace BK245 := ab_ BK245 hb; replace BK246 := ab_ BK246 hb; replace BK247 := ab_ BK247 hb; replace HB := Aside0.mk (below_step (hs_) hb); (try clear hb); (try clear hb2); (try clear hk); (try clear hi); (try clear ho0)))
       replace HO271 := Aside0.mk (Kd.R_drew HO271.out); replace BK245 := ad_ BK245; replace BK246 := ad_ BK246; replace BK247 := ad_ BK247; replace HB := hd_ HB; obtain ⟨Aoz_, coz_, eoz_⟩ := Kd.R_slice HO271.out; subst eoz_; have p274 : 0 ≤ (0 : Int) := (by omega); have q274 : 0 < (t269.length : Int) := y0_; obtain ⟨ad274, e274, hx274_0⟩ := Kd.at_string (Kd.R_reads' HO271.out).2.2 0 p274 q274
       cases e274
       have qi274 : (0 < t269.length) = True := eq_true (by omega); (try rw [show ((0 : Int)).toNat = 0 from rfl] at hx274_0)
       (try rw [Addr.add_zero'] at hx274_0)
       replace p274 := eq_true p274; replace q274 := eq_true q274; refine start_ (n := 19) (S := fun w' => w'.cell? ⟨gb247, 0, none⟩ = some (.string a2_0) ∧ w'.cell? ⟨gb247, 1, none⟩ = some (.int .i64 a2_1) ∧ w'.cell? ⟨gb247, 2, none⟩ = some (.string a2_2) ∧ w'.cell? ⟨gb247, 3, none⟩ = some (.string a2_3) ∧ w'.cell? ⟨gb247, 4, none⟩ = some (.string a2_4) ∧ w'.cell? ⟨gb247, 5, none⟩ = some (.int .i64 a2_5) ∧ w'.cell? ⟨gb247, 6, none⟩ = some (.int .i64 a2_6) ∧ w'.cell? ⟨gb247, 7, none⟩ = some (.string a2_7) ∧ w'.cell? ad274 = some (.string (rdOf ByteArray.empty t269 0))) (ds := []) (bs 19 0) (by kernel_rfl) rfl rfl ⟨(blk_cell BK247.out 0).trans rfl, (blk_cell BK247.out 1).trans rfl, (blk_cell BK247.out 2).trans rfl, (blk_cell BK247.out 3).trans rfl, (blk_cell BK247.out 4).trans rfl, (blk_cell BK247.out 5).trans rfl, (blk_cell BK247.out 6).trans rfl, (blk_cell BK247.out 7).trans rfl, hx274_0⟩ (fun hHeld => ?_); refine with_tabW graftagelaw16_CommitNames.tab21 graftagelaw16_CommitNames.bits21 (fun HT_ HW_ => ?_); generalize w108.drew = w109 at HO271 BK245 BK246 BK247 HB hx274_0 hHeld ⊢; refine on_ 0 129 19 1 (fun K hK => ?_); refine goes_ func15 (by kernel_rfl) rfl #[] (by rfl) rfl rfl z5_ ?_
       with_reducible refine (graftagelaw16_lives.calls kj84  true _ ?side1 A99.out).mono ?_
       (case side1 => exact GV.below hgv (hs_))
       rintro e w110 ⟨rfl, hb⟩; have HS8_ := (hb.cell (World.block_lt_of_cell? _ _ (hHeld.2.2.2.2.2.2.2.2))).trans (hHeld.2.2.2.2.2.2.2.2); refine ⟨_, rfl, ?_⟩; replace HO271 := Aside0.mk (Kd.R_below (rk_ HO271.out) hb); replace BK245 := ab_ BK245 hb; replace BK246 := ab_ BK246 hb; replace BK247 := ab_ BK247 hb; replace HB := Aside0.mk (below_step (hs_) hb); (try clear hb)
       (try clear hb2)
       (try clear hk)
       (try clear hi)
       obtain ⟨Ao111, co111, eo111⟩ := Kd.R_slice HO271.out; (first | subst eo111 | (injection eo111 with f1_ f2_ f3_; have f4_ := f1_.symm; have f5_ := f3_.symm; clear f1_ f2_ f3_; subst f4_; subst f5_)); refine hK.out _ _ ⟨(blk_cell BK247.out 0).trans rfl, (blk_cell BK247.out 1).trans rfl, (blk_cell BK247.out 2).trans rfl, (blk_cell BK247.out 3).trans rfl, (blk_cell BK247.out 4).trans rfl, (blk_cell BK247.out 5).trans rfl, (blk_cell BK247.out 6).trans rfl, (blk_cell BK247.out 7).trans rfl, HS8_⟩ (fun hHeld => ?_); clear hK K; refine norm_ (a' := ?_) ?_ ?_; rotate_left
       ·show Act.put _ (some 129) _ = _
        simp only [Act.put, List.setIfInBounds_toArray, List.set_cons_zero, List.set_cons_succ, i64_w, i32_w]; rfl
       refine pun_ 1 130 19 3 ?_; refine pun_ 2 131 19 7 ?_; refine pun_ 3 132 19 15 ?_; refine pun_ 4 133 19 31 ?_; refine pun_ 5 134 19 63 ?_; refine pun_ 6 135 19 127 ?_; refine pun_ 7 136 19 255 ?_; refine pun_ 8 137 19 511 ?_; refine pun_ 9 138 19 1023 ?_; refine pun_ 10 139 19 2047 ?_; refine pun_ 11 140 19 4095 ?_; refine pun_ 12 141 19 8191 ?_; refine pun_ 14 143 19 24575 ?_; refine tkW9n_ 13 142 19 32767 hHeld ?_; refine tkW9n_ 15 144 19 65535 hHeld ?_; refine pun_ 16 145 19 131071 ?_; refine pun_ 17 146 19 262143 ?_; refine pun_ 18 6 19 524287 ?_; refine dn_ ?_; try go_wp2
       go_ret
       exact ⟨z3_, hs_⟩
def mk (l : List UInt8) : ByteArray := ⟨l.toArray⟩
theorem mk_data (l : List UInt8) : (mk l).data.toList = l := by simp [mk]
theorem mk_of (s : ByteArray) : mk s.data.toList = s := ba_ext (mk_data _)
theorem mk_toList (l : List UInt8) : (mk l).toList = l := by rw [ByteArray.toList_eq, mk_data]
theorem mk_size (l : List UInt8) : (mk l).size = l.length := by rw [Lib.size_eq, mk_data]
theorem mk_app (a b : List UInt8) : mk a ++ mk b = mk (a ++ b) := ba_ext (by rw [append_data, mk_data, mk_data, mk_data])
theorem size_of (s : ByteArray) : s.data.toList.length = s.size := (Lib.size_eq s).symm
theorem index_cons_hit {b : UInt8} {l s : List UInt8} (h : s.isPrefixOf (b :: l) = true) : Lib.index (b :: l) s = 0 := by rw [Lib.index, if_pos h]
theorem index_cons_miss {b : UInt8} {l s : List UInt8} (h : s.isPrefixOf (b :: l) = false) : Lib.index (b :: l) s = if Lib.index l s == -1 then -1 else Lib.index l s + 1 := by rw [Lib.index, if_neg (by simp [h])]
theorem index_spec (s : List UInt8) (hs : s ≠ []) : ∀ l : List UInt8, 0 ≤ Lib.index l s → ∃ a b, l = a ++ s ++ b ∧ Lib.index l s = a.length
 | [], h => by
  rw [Lib.index, if_neg (by simp [hs])] at h; omega
 | c :: l, h => by
  by_cases hp : s.isPrefixOf (c :: l) = true
  ·obtain ⟨t, ht⟩ := List.isPrefixOf_iff_prefix.1 hp
   exact ⟨[], t, by simp [ht], by rw [index_cons_hit hp]; rfl⟩
  ·rw [Bool.not_eq_true] at hp
   rw [index_cons_miss hp] at h ⊢
   by_cases h1 : Lib.index l s = -1
   ·rw [h1] at h; simp at h
   ·obtain ⟨a, b, e, he⟩ := index_spec s hs l (by have := Lib.index_ge l s; omega)
    refine ⟨c :: a, b, by rw [e]; simp, ?_⟩
    rw [if_neg (by simpa using h1), he, List.length_cons]; omega
theorem index_pair (x y : UInt8) (hxy : x ≠ y) : ∀ (a b : List UInt8), y ∉ a → Lib.index (a ++ x :: y :: b) [x, y] = a.length
 | [], b, _ => index_cons_hit (by simp [List.isPrefixOf])
 | c :: a, b, h => by
  have ih := index_pair x y hxy a b (fun e => h (by simp [e]))
  have hp : [x, y].isPrefixOf (c :: (a ++ x :: y :: b)) = false := by
   cases a with
   | nil => simp [List.isPrefixOf]; intro _ e; exact absurd e.symm hxy
   | cons d r => simp [List.isPrefixOf]; intro _ e; subst e; simp at h
  rw [List.cons_append, index_cons_miss hp, ih, if_neg (by simp only [beq_iff_eq]; omega), List.length_cons]
  omega
theorem index_pair' (x y : UInt8) : ∀ (a b : List UInt8), x ∉ a → Lib.index (a ++ x :: y :: b) [x, y] = a.length
 | [], b, _ => index_cons_hit (by simp [List.isPrefixOf])
 | c :: a, b, h => by
  have ih := index_pair' x y a b (fun e => h (by simp [e]))
  have hp : [x, y].isPrefixOf (c :: (a ++ x :: y :: b)) = false := by
   simp [List.isPrefixOf]; intro e; subst e; simp at h
  rw [List.cons_append, index_cons_miss hp, ih, if_neg (by simp only [beq_iff_eq]; omega), List.length_cons]
  omega
theorem index_one (x : UInt8) : ∀ (a b : List UInt8), x ∉ a → Lib.index (a ++ x :: b) [x] = a.length
 | [], b, _ => index_cons_hit (by simp [List.isPrefixOf])
 | c :: a, b, h => by
  have ih := index_one x a b (fun e => h (by simp [e]))
  have hp : [x].isPrefixOf (c :: (a ++ x :: b)) = false := by
   simp [List.isPrefixOf]; intro e; subst e; simp at h
  rw [List.cons_append, index_cons_miss hp, ih, if_neg (by simp only [beq_iff_eq]; omega), List.length_cons]
  omega
theorem cut_of {l s : List UInt8} (h : 0 ≤ Lib.index l s) : Lib.cut l s = (l.take (Lib.index l s).toNat, l.drop ((Lib.index l s).toNat + s.length), true) := by unfold Lib.cut; rw [if_pos h]
theorem cut_no {l s : List UInt8} (h : ¬ 0 ≤ Lib.index l s) : Lib.cut l s = (l, [], false) := by unfold Lib.cut; rw [if_neg h]
theorem cut_pair (x y : UInt8) (hxy : x ≠ y) (a b : List UInt8) (h : y ∉ a) : Lib.cut (a ++ x :: y :: b) [x, y] = (a, b, true) := by
 have := index_pair x y hxy a b h
 rw [cut_of (by omega), this]
 simp [List.take_append, List.drop_append]
theorem cut_pair' (x y : UInt8) (a b : List UInt8) (h : x ∉ a) : Lib.cut (a ++ x :: y :: b) [x, y] = (a, b, true) := by
 have := index_pair' x y a b h
 rw [cut_of (by omega), this]
 simp [List.take_append, List.drop_append]
theorem cut_one (x : UInt8) (a b : List UInt8) (h : x ∉ a) : Lib.cut (a ++ x :: b) [x] = (a, b, true) := by
 have := index_one x a b h
 rw [cut_of (by omega), this]
 simp [List.take_append, List.drop_append]
theorem cut_text {l s a b : List UInt8} (hs : s ≠ []) (h : Lib.cut l s = (a, b, true)) : l = a ++ s ++ b ∧ Lib.index l s = a.length := by
 by_cases h0 : 0 ≤ Lib.index l s
 ·rw [cut_of h0] at h
  obtain ⟨h1, h2⟩ := Prod.mk.inj h
  obtain ⟨h2, _⟩ := Prod.mk.inj h2
  obtain ⟨p, q, e, he⟩ := index_spec s hs l h0
  rw [he] at h1 h2
  have e1 : p = a := by rw [← h1, e]; simp [List.take_append]
  have e2 : q = b := by rw [← h2, e]; simp [List.drop_append]
  subst e1 e2
  exact ⟨e, he⟩
 ·rw [cut_no h0] at h; simp at h
def isDig (c : UInt8) : Bool := decide (48 ≤ c.toNat) && decide (c.toNat ≤ 57)
def valN (acc : Nat) (l : List UInt8) : Nat := l.foldl (fun a c => 10 * a + (c.toNat - 48)) acc
theorem valN_nil (acc : Nat) : valN acc [] = acc := by unfold valN; rw [List.foldl_nil]
theorem valN_cons (acc : Nat) (c : UInt8) (l : List UInt8) : valN acc (c :: l) = valN (10 * acc + (c.toNat - 48)) l := by unfold valN; rw [List.foldl_cons]
theorem digitVal_dig {c : UInt8} (h : isDig c = true) : Lib.digitVal c = some (c.toNat - 48) := by
 unfold isDig at h
 simp only [Bool.and_eq_true, decide_eq_true_eq] at h
 unfold Lib.digitVal
 rw [if_pos h]
theorem decFrom_val (l : List UInt8) : ∀ (acc : Nat), l.all isDig = true → Lib.decFrom acc l = some (valN acc l) := by
 induction l with
 | nil => intro acc _; rfl
 | cons c l ih =>
  intro acc h
  rw [List.all_cons, Bool.and_eq_true] at h
  rw [Lib.decFrom, digitVal_dig h.1]
  show Lib.decFrom (acc * 10 + (c.toNat - 48)) l = _
  rw [ih _ h.2, valN_cons, Nat.mul_comm]
theorem atoi_val {l : List UInt8} (hn : l ≠ []) (h : l.all isDig = true) : Lib.atoi l = some ((valN 0 l : Nat) : Int) := by
 cases l with
 | nil => exact absurd rfl hn
 | cons c r =>
  have hc : isDig c = true := by rw [List.all_cons, Bool.and_eq_true] at h; exact h.1
  unfold isDig at hc
  simp only [Bool.and_eq_true, decide_eq_true_eq] at hc
  have h1 : (c == 45) = false := by rw [beq_eq_false_iff_ne]; rintro rfl; simp at hc
  have h2 : (c == 43) = false := by rw [beq_eq_false_iff_ne]; rintro rfl; simp at hc
  rw [Lib.atoi, h1, h2]
  simp only [Bool.false_eq_true, if_false]
  unfold Lib.decNat
  rw [List.isEmpty_cons]
  simp only [Bool.false_eq_true, if_false]
  rw [decFrom_val _ _ h]; rfl
theorem valN_lt : ∀ (l : List UInt8) (acc n : Nat), l.all isDig = true → acc < 10 ^ n → valN acc l < 10 ^ (n + l.length)
 | [], acc, n, _, h => by simpa [valN_nil] using h
 | c :: l, acc, n, h, ha => by
  rw [List.all_cons, Bool.and_eq_true] at h
  have hc := h.1
  unfold isDig at hc
  simp only [Bool.and_eq_true, decide_eq_true_eq] at hc
  have := valN_lt l (10 * acc + (c.toNat - 48)) (n + 1) h.2 (by rw [Nat.pow_succ]; omega)
  rw [valN_cons, List.length_cons, show n + (l.length + 1) = n + 1 + l.length by omega]
  exact this
theorem valN_app (l : List UInt8) (c : UInt8) : ∀ acc, valN acc (l ++ [c]) = 10 * valN acc l + (c.toNat - 48) := by
 induction l with
 | nil => intro acc; rfl
 | cons d l ih => intro acc; rw [List.cons_append, valN_cons, ih, valN_cons]
theorem dec_all (u : Nat) : (Lib.decDigits u).all isDig = true := by
 induction u using Nat.strongRecOn with
 | _ u ih =>
  rw [Lib.decDigits]
  split
  ·rename_i h
   simp [isDig, UInt8.toNat_ofNat']
   omega
  ·rename_i h
   rw [List.all_append, ih (u / 10) (by omega)]
   simp [isDig, UInt8.toNat_ofNat']
   omega
theorem dec_ne (u : Nat) : Lib.decDigits u ≠ [] := by
 rw [Lib.decDigits]; split <;> simp
theorem dec_val (u : Nat) : valN 0 (Lib.decDigits u) = u := by
 induction u using Nat.strongRecOn with
 | _ u ih =>
  rw [Lib.decDigits]
  split
  ·rename_i h
   simp [valN_cons, valN_nil, UInt8.toNat_ofNat']
   omega
  ·rename_i h
   rw [valN_app, ih (u / 10) (by omega)]
   simp [UInt8.toNat_ofNat']
   omega
theorem dec_head (u : Nat) (h : 10 ≤ u) : ∃ c l, Lib.decDigits u = c :: l ∧ c ≠ 48 ∧ l ≠ [] := by
 induction u using Nat.strongRecOn with
 | _ u ih =>
  rw [Lib.decDigits, dif_neg (by omega)]
  by_cases h1 : u / 10 < 10
  ·rw [Lib.decDigits, dif_pos h1]
   refine ⟨UInt8.ofNat (48 + u / 10), [UInt8.ofNat (48 + u % 10)], rfl, ?_, by simp⟩
   intro e
   have := congrArg UInt8.toNat e
   simp [UInt8.toNat_ofNat'] at this
   omega
  ·obtain ⟨c, l, e, h2, h3⟩ := ih (u / 10) (by omega) (by omega)
   exact ⟨c, l ++ [UInt8.ofNat (48 + u % 10)], by rw [e]; rfl, h2, by simp⟩
end Go.Proofs.YtbhfbbfjdklfgaaGreatDoor.Q
namespace Go.Proofs.YtbhfbbfjdklfgaaGreatDoor.Q
open Go.Proofs.Tryz Go.RowKit Go.Proofs.YtbhfbbfjdklfgaaGreatDoorW.PrintWords Go.Proofs.YtbhfbbfjdklfgaaGreatDoorW.PrintLast Go.Proofs.YtbhfbbfjdklfgaaGreatDoorW.PrintMore
theorem ev_ite {α : Type} {c : Prop} [Decidable c] {f g : Nat → Option α} {r : α} (h1 : c → Ev f r) (h2 : ¬ c → Ev g r) : Ev (fun k => if c then f k else g k) r := by
 by_cases h : c
 ·exact Ev.congr (fun k => if_pos h) (h1 h)
 ·exact Ev.congr (fun k => if_neg h) (h2 h)
theorem ev_yes {α : Type} {c : Prop} [Decidable c] {f g : Nat → Option α} {r : α} (h : c) (h1 : Ev f r) : Ev (fun k => if c then f k else g k) r := ev_ite (fun _ => h1) (fun h2 => absurd h h2)
theorem ev_no {α : Type} {c : Prop} [Decidable c] {f g : Nat → Option α} {r : α} (h : ¬ c) (h1 : Ev g r) : Ev (fun k => if c then f k else g k) r := ev_ite (fun h2 => absurd h2 h) (fun _ => h1)
theorem ev_eq {α : Type} {f : Nat → Option α} {r q : α} (h : Ev f q) (e : q = r) : Ev f r := e ▸ h
theorem sfx_at {s : ByteArray} {i : Nat} {c : UInt8} {t : List UInt8} (h : s.data.toList.drop i = c :: t) : i < s.size ∧ bt s (i : Int) = (c.toNat : Int) ∧ s.data.toList.drop (i + 1) = t := by
 have hlt : i < s.data.toList.length := by
  rcases Nat.lt_or_ge i s.data.toList.length with h1 | h1
  ·exact h1
  ·rw [List.drop_eq_nil_of_le h1] at h; cases h
 have hs : i < s.size := by rw [← size_of]; exact hlt
 rw [List.drop_eq_getElem_cons hlt] at h
 obtain ⟨h1, h2⟩ := List.cons.inj h
 refine ⟨hs, ?_, h2⟩
 rw [bt_get s i hs, h1]
theorem sfx_end {s : ByteArray} {i : Nat} (h : s.data.toList.drop i = []) : s.size ≤ i := by
 rw [← size_of]; simpa [List.drop_eq_nil_iff] using h
theorem ext_data (s : ByteArray) (i j : Nat) : (s.extract i j).data.toList = (s.data.toList.drop i).take (j - i) := by
 rw [ByteArray.data_extract, Array.toList_extract, List.extract_eq_drop_take', List.drop_take]
theorem ext_mk (s : ByteArray) (i j : Nat) : s.extract i j = mk ((s.data.toList.drop i).take (j - i)) := ba_ext (by rw [ext_data, mk_data])
def okU (c : UInt8) : Bool := decide (32 ≤ c.toNat) && (!(decide (c.toNat = 60)) && !(decide (c.toNat = 62)))
def edge (s : ByteArray) : Bool := decide (s.size < 1) || (decide (64 < s.size) || (decide (bt s 0 = 32) || decide (bt s ((s.size : Int) - 1) = 32)))
def namedB (s : ByteArray) : Bool := !edge s && s.data.toList.all okU
theorem okU_all {c : UInt8} {t : List UInt8} : (c :: t).all okU = (okU c && t.all okU) := rfl
theorem named_l0 (s : ByteArray) (hs : s.size ≤ 140737488351232) : ∀ (t : List UInt8) (i : Nat), s.data.toList.drop i = t → Ev (fun k => commit_named.l0 k s (s.size : Int) i) (t.all okU)
 | [], i, h => by
  have := sfx_end h
  exact Ev.step (f := ?_) (fun k => by rw [commit_named.l0, if_neg (by omega)]) (Ev.now _)
 | c :: t, i, h => by
  obtain ⟨hlt, hb, ht⟩ := sfx_at h
  have e1 : wrap64 ((i : Int) + 1) = ((i + 1 : Nat) : Int) := by rw [wrap_id (by omega) (by omega)]; omega
  refine Ev.step (f := ?_) (fun k => by rw [commit_named.l0, if_pos (by omega), if_pos (by omega), if_pos (by omega), hb, e1]) ?_
  rw [okU_all]
  refine ev_ite (fun g => ev_eq (Ev.now _) ?_) (fun g => ?_)
  ·unfold okU; rw [decide_eq_false (by omega)]; rfl
  refine ev_ite (fun g2 => ev_eq (Ev.now _) ?_) (fun g2 => ?_)
  ·unfold okU; rw [decide_eq_true (show c.toNat = 60 by omega)]; simp
  refine ev_ite (fun g3 => ev_eq (Ev.now _) ?_) (fun g3 => ?_)
  ·unfold okU; rw [decide_eq_true (show c.toNat = 62 by omega)]; simp
  refine ev_eq (named_l0 s hs t (i + 1) ht) ?_
  unfold okU
  rw [decide_eq_true (show 32 ≤ c.toNat by omega), decide_eq_false (show ¬ c.toNat = 60 by omega), decide_eq_false (show ¬ c.toNat = 62 by omega)]; rfl
theorem named_ev (s : ByteArray) (hs : s.size ≤ 140737488351232) : Ev (fun k => commit_named.f k s) (namedB s) := by
 have hT : edge s = true → Ev (fun k => commit_named.j0 k s true) (namedB s) := fun h => by
  unfold namedB; rw [h]
  exact Ev.step (f := ?_) (fun k => by rw [commit_named.j0, if_pos rfl]) (Ev.now _)
 unfold edge at hT
 refine ev_ite (fun g => hT (by rw [decide_eq_true (by omega)]; rfl)) (fun g => ?_)
 refine ev_ite (fun g2 => hT (by rw [decide_eq_true (show 64 < s.size by omega)]; simp)) (fun g2 => ?_)
 refine ev_yes (by omega) (ev_ite (fun g3 => hT (by rw [decide_eq_true g3]; simp)) (fun g3 => ?_))
 have e1 : wrap64 ((s.size : Int) - 1) = (s.size : Int) - 1 := wrap_id (by omega) (by omega)
 rw [e1]
 refine ev_yes (by omega) (ev_yes (by omega) ?_)
 by_cases g4 : bt s ((s.size : Int) - 1) = 32
 ·rw [show (bt s ((s.size : Int) - 1) == 32) = true by simpa using g4]
  exact hT (by rw [decide_eq_true g4]; simp)
 ·rw [show (bt s ((s.size : Int) - 1) == 32) = false by simpa using g4]
  refine Ev.step (f := ?_) (fun k => by rw [commit_named.j0, if_neg (by decide)]) ?_
  have he : edge s = false := by
   unfold edge
   rw [decide_eq_false (show ¬ s.size < 1 by omega), decide_eq_false (show ¬ 64 < s.size by omega), decide_eq_false g3, decide_eq_false g4]; rfl
  unfold namedB
  rw [he]
  have := named_l0 s hs s.data.toList 0 rfl
  exact_mod_cast this
def personB (n m : ByteArray) (t z : Int) : Bool := namedB n && (namedB m && (decide (0 ≤ t) && (decide (t ≤ 1099511627776) && (decide (-840 ≤ z) && decide (z ≤ 840)))))
theorem somebody_ev (n m : ByteArray) (t z : Int) (hn : n.size ≤ 140737488351232) (hm : m.size ≤ 140737488351232) : Ev (fun k => commit_somebody.f k n m t z) (personB n m t z) := by
 unfold personB
 refine Ev.bind (named_ev n hn) (ev_ite (fun g => ?_) (fun g => ev_eq (Ev.now _) ?_))
 ·rw [g, Bool.true_and]
  refine Ev.bind (named_ev m hm) (ev_ite (fun g => ?_) (fun g => ev_eq (Ev.now _) ?_))
  ·rw [g, Bool.true_and]
   refine ev_ite (fun g1 => ?_) (fun g1 => ev_eq (Ev.now _) (by rw [decide_eq_false (by omega)]; rfl))
   refine ev_ite (fun g2 => ?_) (fun g2 => ev_eq (Ev.now _) (by rw [decide_eq_false (show ¬ t ≤ 1099511627776 by omega)]; simp))
   refine ev_ite (fun g3 => ?_) (fun g3 => ev_eq (Ev.now _) (by rw [decide_eq_false (show ¬ -840 ≤ z by omega)]; simp))
   refine ev_eq (Ev.now _) ?_
   rw [decide_eq_true (show 0 ≤ t by omega), decide_eq_true g2, decide_eq_true (show -840 ≤ z by omega)]; rfl
  ·rw [Bool.not_eq_true] at g; rw [g]; rfl
 ·rw [Bool.not_eq_true] at g; rw [g]; rfl
def offD (s : ByteArray) : Bool := decide (s.size < 1) || (decide (18 < s.size) || (decide (1 < s.size) && decide (bt s 0 = 48)))
def digOk (s : ByteArray) : Bool := !offD s && s.data.toList.all isDig
def valI (s : ByteArray) : Int := ((valN 0 s.data.toList : Nat) : Int)
theorem isDig_all {c : UInt8} {t : List UInt8} : (c :: t).all isDig = (isDig c && t.all isDig) := rfl
theorem Atoi_eq (s : ByteArray) (h0 : 1 ≤ s.size) (h1 : s.size ≤ 18) (h : s.data.toList.all isDig = true) : strconv_Atoi.f s = some (valI s, none) := by
 unfold strconv_Atoi.f
 rw [if_pos h1, atoi_val (fun e => by have := size_of s; rw [e] at this; simp at this; omega) h]
 rfl
theorem wdigits_l0 (s : ByteArray) (h0 : 1 ≤ s.size) (h1 : s.size ≤ 18) : ∀ (t : List UInt8) (i : Nat), s.data.toList.drop i = t → (s.data.toList.take i).all isDig = true → Ev (fun k => commit_digits.l0 k s (s.size : Int) i) (if t.all isDig = true then (valI s, true) else (0, false))
 | [], i, h, hp => by
  have hi := sfx_end h
  have ha : s.data.toList.all isDig = true := by rwa [List.take_of_length_le (by rw [size_of]; exact hi)] at hp
  refine Ev.step (f := ?_) (fun k => by rw [commit_digits.l0, if_neg (by omega), Atoi_eq s h0 h1 ha]) (ev_eq (Ev.now _) ?_)
  rfl
 | c :: t, i, h, hp => by
  obtain ⟨hlt, hb, ht⟩ := sfx_at h
  have e1 : wrap64 ((i : Int) + 1) = ((i + 1 : Nat) : Int) := by rw [wrap_id (by omega) (by omega)]; omega
  refine Ev.step (f := ?_) (fun k => by rw [commit_digits.l0, if_pos (by omega), if_pos (by omega), if_pos (by omega), hb, e1]) ?_
  rw [isDig_all]
  refine ev_ite (fun g => ev_eq (Ev.now _) ?_) (fun g => ?_)
  ·unfold isDig; rw [decide_eq_false (by omega)]; rfl
  refine ev_ite (fun g2 => ev_eq (Ev.now _) ?_) (fun g2 => ?_)
  ·unfold isDig; rw [decide_eq_false (show ¬ c.toNat ≤ 57 by omega)]; simp
  have hc : isDig c = true := by unfold isDig; rw [decide_eq_true (show 48 ≤ c.toNat by omega), decide_eq_true (show c.toNat ≤ 57 by omega)]; rfl
  have hp2 : (s.data.toList.take (i + 1)).all isDig = true := by
   have hl : i < s.data.toList.length := by rw [size_of]; exact hlt
   rw [List.take_succ_eq_append_getElem hl, List.all_append, hp, Bool.true_and]
   rw [List.drop_eq_getElem_cons hl] at h
   rw [(List.cons.inj h).1]
   simp [hc]
  rw [hc, Bool.true_and]
  exact wdigits_l0 s h0 h1 t (i + 1) ht hp2
theorem digits_ev (s : ByteArray) (hs : s.size ≤ 140737488351232) : Ev (fun k => commit_digits.f k s 18) (if digOk s = true then (valI s, true) else (0, false)) := by
 have hT : offD s = true → Ev (fun k => commit_digits.j0 k s true) (if digOk s = true then (valI s, true) else (0, false)) := fun h => by
  unfold digOk; rw [h]
  exact Ev.step (f := ?_) (fun k => by rw [commit_digits.j0, if_pos rfl]) (Ev.now _)
 have hF : offD s = false → 1 ≤ s.size → s.size ≤ 18 → Ev (fun k => commit_digits.j0 k s false) (if digOk s = true then (valI s, true) else (0, false)) := fun h h0 h1 => by
  unfold digOk; rw [h]
  refine Ev.step (f := ?_) (fun k => by rw [commit_digits.j0, if_neg (by decide)]) ?_
  have := wdigits_l0 s h0 h1 s.data.toList 0 rfl rfl
  exact_mod_cast this
 unfold offD at hT hF
 refine ev_ite (fun g => hT (by rw [decide_eq_true (by omega)]; rfl)) (fun g => ?_)
 refine ev_ite (fun g2 => hT (by rw [decide_eq_true (show 18 < s.size by omega)]; simp)) (fun g2 => ?_)
 rw [decide_eq_false (show ¬ s.size < 1 by omega), decide_eq_false (show ¬ 18 < s.size by omega)] at hF
 refine ev_ite (fun g3 => ev_yes (by omega) ?_) (fun g3 => hF (by rw [decide_eq_false (show ¬ 1 < s.size by omega)]; rfl) (by omega) (by omega))
 rw [decide_eq_true (show 1 < s.size by omega)] at hT hF
 by_cases g4 : bt s 0 = 48
 ·rw [show (bt s 0 == 48) = true by simpa using g4]; exact hT (by rw [decide_eq_true g4]; simp)
 ·rw [show (bt s 0 == 48) = false by simpa using g4]; exact hF (by rw [decide_eq_false g4]; rfl) (by omega) (by omega)
def zoneB (s : ByteArray) : Int × Bool :=
 if s.size = 5 ∧ (bt s 0 = 43 ∨ bt s 0 = 45) ∧ s.data.toList ≠ [45, 48, 48, 48, 48] ∧ (s.data.toList.drop 1).all isDig = true then
  (if 60 ≤ valI (s.extract 3 s.size) then (0, false) else if bt s 0 = 45 then (-60 * valI (s.extract 1 3) - valI (s.extract 3 s.size), true) else (60 * valI (s.extract 1 3) + valI (s.extract 3 s.size), true))
 else (0, false)
theorem all_drop1 {s : ByteArray} (h5 : s.size = 5) (h : (s.data.toList.drop 1).all isDig = true) : (s.extract 1 3).data.toList.all isDig = true ∧ (s.extract 3 s.size).data.toList.all isDig = true ∧ (s.extract 1 3).size = 2 ∧ (s.extract 3 s.size).size = 2 := by
 rw [ext_data, ext_data]
 refine ⟨?_, ?_, ?_, ?_⟩
 ·rw [List.all_eq_true] at h ⊢
  exact fun x hx => h x (List.mem_of_mem_take hx)
 ·rw [List.all_eq_true] at h ⊢
  intro x hx
  have := List.mem_of_mem_take hx
  exact h x (by rw [show (3 : Nat) = 1 + 2 by rfl, ← List.drop_drop] at this; exact List.mem_of_mem_drop this)
 ·rw [← size_of, ext_data, List.length_take, List.length_drop, size_of]; omega
 ·rw [← size_of, ext_data, List.length_take, List.length_drop, size_of]; omega
theorem val_two {s : ByteArray} (h2 : s.size = 2) (h : s.data.toList.all isDig = true) : 0 ≤ valI s ∧ valI s < 100 := by
 have := valN_lt s.data.toList 0 0 h (by decide)
 rw [size_of, h2] at this
 unfold valI
 omega
theorem zone_l0 (s : ByteArray) (h5 : s.size = 5) : ∀ (t : List UInt8) (i : Nat), 1 ≤ i → s.data.toList.drop i = t → ((s.data.toList.drop 1).take (i - 1)).all isDig = true → Ev (fun k => commit_zone.l0 k s i) (if t.all isDig = true then (if 60 ≤ valI (s.extract 3 s.size) then (0, false) else if bt s 0 = 45 then (-60 * valI (s.extract 1 3) - valI (s.extract 3 s.size), true) else (60 * valI (s.extract 1 3) + valI (s.extract 3 s.size), true)) else (0, false))
 | [], i, h1, h, hp => by
  have hi := sfx_end h
  have ha : (s.data.toList.drop 1).all isDig = true := by
   rwa [List.take_of_length_le (by rw [List.length_drop, size_of]; omega)] at hp
  obtain ⟨a1, a2, a3, a4⟩ := all_drop1 h5 ha
  obtain ⟨b1, b2⟩ := val_two a3 a1
  obtain ⟨b3, b4⟩ := val_two a4 a2
  refine Ev.step (f := ?_) (fun k => by rw [commit_zone.l0, if_neg (by omega), if_pos (by omega), if_pos (by omega), Atoi_eq _ (by omega) (by omega) a1, Atoi_eq _ (by omega) (by omega) a2, Option.bind_some, Option.bind_some]) ?_
  change Ev _ (if 60 ≤ valI (s.extract 3 s.size) then (0, false) else if bt s 0 = 45 then (-60 * valI (s.extract 1 3) - valI (s.extract 3 s.size), true) else (60 * valI (s.extract 1 3) + valI (s.extract 3 s.size), true))
  refine ev_ite (fun g => ev_eq (Ev.now _) (by rw [if_pos g])) (fun g => ?_)
  rw [if_neg g]
  refine ev_yes (by omega) (ev_ite (fun g2 => ev_eq (Ev.now _) ?_) (fun g2 => ev_eq (Ev.now _) ?_))
  ·rw [if_pos g2, wrap_id (x := -60 * valI (s.extract 1 3)) (by omega) (by omega), wrap_id (by omega) (by omega)]
  ·rw [if_neg g2, wrap_id (x := 60 * valI (s.extract 1 3)) (by omega) (by omega), wrap_id (by omega) (by omega)]
 | c :: t, i, h1, h, hp => by
  obtain ⟨hlt, hb, ht⟩ := sfx_at h
  have e1 : wrap64 ((i : Int) + 1) = ((i + 1 : Nat) : Int) := by rw [wrap_id (by omega) (by omega)]; omega
  refine Ev.step (f := ?_) (fun k => by rw [commit_zone.l0, if_pos (by omega), if_pos (by omega), if_pos (by omega), hb, e1]) ?_
  rw [isDig_all]
  refine ev_ite (fun g => ev_eq (Ev.now _) ?_) (fun g => ?_)
  ·unfold isDig; rw [decide_eq_false (by omega)]; rfl
  refine ev_ite (fun g2 => ev_eq (Ev.now _) ?_) (fun g2 => ?_)
  ·unfold isDig; rw [decide_eq_false (show ¬ c.toNat ≤ 57 by omega)]; simp
  have hc : isDig c = true := by unfold isDig; rw [decide_eq_true (show 48 ≤ c.toNat by omega), decide_eq_true (show c.toNat ≤ 57 by omega)]; rfl
  rw [hc, Bool.true_and]
  refine zone_l0 s h5 t (i + 1) (by omega) ht ?_
  have hl : i - 1 < (s.data.toList.drop 1).length := by rw [List.length_drop, size_of]; omega
  rw [show i + 1 - 1 = i - 1 + 1 by omega, List.take_succ_eq_append_getElem hl, List.all_append, hp, Bool.true_and]
  have hl2 : i < s.data.toList.length := by rw [size_of]; exact hlt
  have e3 : (s.data.toList.drop 1)[i - 1] = c := by
   rw [List.getElem_drop]
   rw [List.drop_eq_getElem_cons hl2] at h
   rw [← (List.cons.inj h).1]
   congr 1; omega
  rw [e3]; simp [hc]
theorem toList_beq (s : ByteArray) (l : List UInt8) : (s.toList == l) = decide (s.data.toList = l) := by
 rw [ByteArray.toList_eq, Bool.eq_iff_iff]; simp
theorem zone_ev (s : ByteArray) : Ev (fun k => commit_zone.f k s) (zoneB s) := by
 have hT : ¬ (s.size = 5 ∧ (bt s 0 = 43 ∨ bt s 0 = 45) ∧ s.data.toList ≠ [45, 48, 48, 48, 48]) → Ev (fun k => commit_zone.j0 k s true) (zoneB s) := fun h => by
  unfold zoneB; rw [if_neg (fun e => h ⟨e.1, e.2.1, e.2.2.1⟩)]
  exact Ev.step (f := ?_) (fun k => by rw [commit_zone.j0, if_pos rfl]) (Ev.now _)
 have hF : s.size = 5 → (bt s 0 = 43 ∨ bt s 0 = 45) → Ev (fun k => commit_zone.j0 k s (decide (s.data.toList = [45, 48, 48, 48, 48]))) (zoneB s) := fun h1 h2 => by
  by_cases h3 : s.data.toList = [45, 48, 48, 48, 48]
  ·rw [decide_eq_true h3]; exact hT (fun e => e.2.2 h3)
  ·rw [decide_eq_false h3]
   refine Ev.step (f := ?_) (fun k => by rw [commit_zone.j0, if_neg (by decide)]) ?_
   refine ev_eq (zone_l0 s h1 _ 1 (by omega) rfl (by simp)) ?_
   unfold zoneB
   by_cases h4 : (s.data.toList.drop 1).all isDig = true
   ·rw [if_pos h4]; exact (if_pos ⟨h1, h2, h3, h4⟩).symm
   ·rw [if_neg h4]; exact (if_neg (fun e => h4 e.2.2.2)).symm
 unfold commit_zone.f
 rw [toList_beq]
 refine ev_ite (fun g => ev_yes (by omega) ?_) (fun g => hT (fun e => g (by omega)))
 refine ev_ite (fun g2 => hF (by omega) (.inl g2)) (fun g2 => ev_ite (fun g3 => hF (by omega) (.inr g3)) (fun g3 => hT (fun e => by rcases e.2.1 with h | h <;> contradiction)))
end Go.Proofs.YtbhfbbfjdklfgaaGreatDoor.Q
namespace Go.Proofs.YtbhfbbfjdklfgaaGreatDoor.Q
open Go.Proofs.Tryz Go.RowKit Go.Proofs.YtbhfbbfjdklfgaaGreatDoorW.PrintWords Go.Proofs.YtbhfbbfjdklfgaaGreatDoorW.PrintLast Go.Proofs.YtbhfbbfjdklfgaaGreatDoorW.PrintMore
attribute [local go_sem] max2_int min2_int max_two min_two max_three min_three max_four min_four
def graftageref16_Who.T5 : Bool × List (List Nat × List Nat) := (true, [([], []), ([0], [0]), ([1], [1]), ([], []), ([3], [3]), ([2, 4], [2, 4]), ([5], [5]), ([], []), ([7], [7]), ([8], [8]), ([6, 9], [6, 9]), ([10], [10]), ([], []), ([11, 12], [11, 12]), ([], []), ([13, 14], [13, 14]), ([15, 9, 0, 1, 2, 3, 4, 5, 6, 7, 8, 9, 10, 11, 12, 13, 14, 15], [15])])
def graftageref16_Who.B5 : List Nat := [0, 1, 3, 0, 8, 31, 63, 0, 128, 384, 1023, 2047, 0, 8191, 0, 32767, 65535]
theorem graftageref16_Who.tab5 : rtab .any (opsOf Tryz.f33 5) = graftageref16_Who.T5 := by kernel_rfl
theorem graftageref16_Who.bits5 : waitsOk graftageref16_Who.T5.2 graftageref16_Who.B5 = true := by kernel_rfl
def graftageref16_ParseWho.T10 : Bool × List (List Nat × List Nat) := (true, [([], []), ([], []), ([0, 1], [0, 1]), ([], []), ([], []), ([4], [4]), ([], []), ([3, 5, 6], [3, 5, 6]), ([2, 7], [2, 7]), ([], []), ([9, 8, 0, 1, 2, 3, 4, 5, 6, 7, 8, 9], [8, 9])])
def graftageref16_ParseWho.B10 : List Nat := [0, 0, 3, 0, 0, 16, 0, 120, 255, 0, 1023]
theorem graftageref16_ParseWho.tab10 : rtab .any (opsOf Tryz.f30 10) = graftageref16_ParseWho.T10 := by kernel_rfl
theorem graftageref16_ParseWho.bits10 : waitsOk graftageref16_ParseWho.T10.2 graftageref16_ParseWho.B10 = true := by kernel_rfl
end Go.Proofs.YtbhfbbfjdklfgaaGreatDoor.Q

