/- The law CommitPersons holds: for every input it returns true, and each argument reads afterwards as it read before. -/
import Derived.Test.YtbhfbbfjdklfgaaGreatDoorMYCommitPersons1
import Derived.Test.YtbhfbbfjdklfgaaGreatDoorMCommitPersons1
import Derived.Test.YtbhfbbfjdklfgaaGreatDoorMCommitPersons2
import Derived.Test.YtbhfbbfjdklfgaaGreatDoorMCommitPersons3
import Derived.Test.YtbhfbbfjdklfgaaGreatDoorMCommitPersons4
import Derived.Laws.Cover1
import Derived.Lib.IndexMore
import Derived.Lib.IndexLaws
import Derived.Lib.Atoi
import Derived.Lib.ItoaNum
import Derived.Lib.IndexAny
import Derived.Lib.LazyBuf
set_option linter.unusedVariables false
set_option linter.unusedSimpArgs false
namespace Go.Proofs.YtbhfbbfjdklfgaaGreatDoor.Q
open Go.RowKit Go.Proofs.YtbhfbbfjdklfgaaGreatDoorW.PrintWords Go.Proofs.YtbhfbbfjdklfgaaGreatDoorW.PrintLast Go.Proofs.YtbhfbbfjdklfgaaGreatDoorW.PrintMore
attribute [local go_sem] max2_int min2_int max_two min_two max_three min_three max_four min_four   -- for this text's walks alone

mutual
def commit_ParseTag.j0 : Nat → ByteArray → Int → ByteArray → Int → ByteArray → ByteArray → ByteArray → Int → Int → ByteArray → Option (ByteArray × Int × ByteArray × ByteArray × ByteArray × Int × Int × ByteArray × Int)
 | 0, _, _, _, _, _, _, _, _, _, _ => none
 | k + 1, x103000, x103001, x107000, x107001, x107002, x107003, x107004, x107005, x107006, x107007 => (commit_reader_line.f x103000 x103001 (⟨#[116, 97, 103, 32]⟩ : ByteArray)).bind fun bt113 => ((commit_reader_who.f k bt113.2.1 bt113.2.2 (⟨#[116, 97, 103, 103, 101, 114, 32]⟩ : ByteArray)).bind fun bt116 => ((commit_reader_line.f bt116.2.2.2.2.1 bt116.2.2.2.2.2 (⟨#[]⟩ : ByteArray)).bind fun bt122 => (if bt122.1.toList = ([] : List UInt8) then (commit_ParseTag.j1 k bt122.2.1 bt122.2.2 x107000 x107001 bt113.1 bt116.1 bt116.2.1 bt116.2.2.1 bt116.2.2.2.1 x107007) else ((commit_reader_fail.f bt122.2.1 bt122.2.2 2).bind fun bt125 => (commit_ParseTag.j1 k bt125.1 bt125.2 x107000 x107001 bt113.1 bt116.1 bt116.2.1 bt116.2.2.1 bt116.2.2.2.1 x107007)))))
def commit_ParseTag.j1 : Nat → ByteArray → Int → ByteArray → Int → ByteArray → ByteArray → ByteArray → Int → Int → ByteArray → Option (ByteArray × Int × ByteArray × ByteArray × ByteArray × Int × Int × ByteArray × Int)
 | 0, _, _, _, _, _, _, _, _, _, _ => none
 | k + 1, x103000, x103001, x107000, x107001, x107002, x107003, x107004, x107005, x107006, x107007 => if x103001 = 0 then ((commit_CheckTag.f k x107000 x107001 x107002 x107003 x107004 x107005 x107006 x103000).bind fun t127 => (if t127 = 0 then (some (x107000, x107001, x107002, x107003, x107004, x107005, x107006, x103000, 0)) else (some ((⟨#[]⟩ : ByteArray), 0, (⟨#[]⟩ : ByteArray), (⟨#[]⟩ : ByteArray), (⟨#[]⟩ : ByteArray), 0, 0, (⟨#[]⟩ : ByteArray), t127)))) else (some ((⟨#[]⟩ : ByteArray), 0, (⟨#[]⟩ : ByteArray), (⟨#[]⟩ : ByteArray), (⟨#[]⟩ : ByteArray), 0, 0, (⟨#[]⟩ : ByteArray), x103001))
end
def commit_ParseTag.f (k : Nat) (a0 : ByteArray) : Option (ByteArray × Int × ByteArray × ByteArray × ByteArray × Int × Int × ByteArray × Int) := (commit_reader_id.f k a0 0 (⟨#[111, 98, 106, 101, 99, 116, 32]⟩ : ByteArray)).bind fun bt103 => ((commit_reader_line.f bt103.2.1 bt103.2.2 (⟨#[116, 121, 112, 101, 32]⟩ : ByteArray)).bind fun bt107 => ((object_Kind.f bt107.1).bind fun t110 => (if t110 = 0 then ((commit_reader_fail.f bt107.2.1 bt107.2.2 2).bind fun bt111 => (commit_ParseTag.j0 k bt111.1 bt111.2 bt103.1 t110 (⟨#[]⟩ : ByteArray) (⟨#[]⟩ : ByteArray) (⟨#[]⟩ : ByteArray) 0 0 (⟨#[]⟩ : ByteArray))) else (commit_ParseTag.j0 k bt107.2.1 bt107.2.2 bt103.1 t110 (⟨#[]⟩ : ByteArray) (⟨#[]⟩ : ByteArray) (⟨#[]⟩ : ByteArray) 0 0 (⟨#[]⟩ : ByteArray)))))
theorem commit_ParseTag.mono_l : ∀ k, (∀ y0 y1 y2 y3 y4 y5 y6 y7 y8 y9, LeO (commit_ParseTag.j0 k y0 y1 y2 y3 y4 y5 y6 y7 y8 y9) (commit_ParseTag.j0 (k + 1) y0 y1 y2 y3 y4 y5 y6 y7 y8 y9)) ∧ (∀ y0 y1 y2 y3 y4 y5 y6 y7 y8 y9, LeO (commit_ParseTag.j1 k y0 y1 y2 y3 y4 y5 y6 y7 y8 y9) (commit_ParseTag.j1 (k + 1) y0 y1 y2 y3 y4 y5 y6 y7 y8 y9))
 | 0 => ⟨fun _ _ _ _ _ _ _ _ _ _ r h => by simp [commit_ParseTag.j0] at h, fun _ _ _ _ _ _ _ _ _ _ r h => by simp [commit_ParseTag.j1] at h⟩
 | k + 1 => by
  obtain ⟨ih0, ih1⟩ := commit_ParseTag.mono_l k
  refine ⟨?_, ?_⟩
  ·intro y0 y1 y2 y3 y4 y5 y6 y7 y8 y9
   unfold commit_ParseTag.j0
   have m0_ := @ih0
   have m1_ := @ih1
   have m2_ := @commit_CheckTag.mono
   have m3_ := @commit_reader_id.mono
   have m4_ := @commit_reader_who.mono
   exact mz_
  ·intro y0 y1 y2 y3 y4 y5 y6 y7 y8 y9
   unfold commit_ParseTag.j1
   have m0_ := @ih0
   have m1_ := @ih1
   have m2_ := @commit_CheckTag.mono
   have m3_ := @commit_reader_id.mono
   have m4_ := @commit_reader_who.mono
   exact mz_
theorem commit_ParseTag.mono : ∀ a0 k, LeO (commit_ParseTag.f k a0) (commit_ParseTag.f (k + 1) a0) := by
 intro a0 k
 obtain ⟨ih0, ih1⟩ := commit_ParseTag.mono_l k
 unfold commit_ParseTag.f
 have m0_ := @ih0
 have m1_ := @ih1
 have m2_ := @commit_CheckTag.mono
 have m3_ := @commit_reader_id.mono
 have m4_ := @commit_reader_who.mono
 exact mz_
set_option maxHeartbeats 8000000 in
set_option maxRecDepth 100000 in
theorem commit_ParseTag.calls (k : Nat) (a0 : ByteArray) (r1 : ByteArray) (r2 : Int) (r3 : ByteArray) (r4 : ByteArray) (r5 : ByteArray) (r6 : Int) (r7 : Int) (r8 : ByteArray) (r9 : Int) (w : World) (hgv : GV w) (h : commit_ParseTag.f k a0 = some (r1, r2, r3, r4, r5, r6, r7, r8, r9)) :
  Calls Tryz.prog 23 #[.string a0] w fun e w' => e = .returned (.tuple #[.agg #[.string r1, .int .i64 r2, .string r3, .string r4, .string r5, .int .i64 r6, .int .i64 r7, .string r8], .int .i64 r9]) ∧ Below w.heap.size w w' := by
 have hu37 := Tryz.underlying37
 have hu87 := Tryz.underlying87
 have hu24 := Tryz.underlying24
 have HB := Aside0.mk (Below.refl w.heap.size w)
 have H : ((commit_reader_id.f k a0 0 (⟨#[111, 98, 106, 101, 99, 116, 32]⟩ : ByteArray)).bind fun bt103 => ((commit_reader_line.f bt103.2.1 bt103.2.2 (⟨#[116, 121, 112, 101, 32]⟩ : ByteArray)).bind fun bt107 => ((object_Kind.f bt107.1).bind fun t110 => (if t110 = 0 then ((commit_reader_fail.f bt107.2.1 bt107.2.2 2).bind fun bt111 => (commit_ParseTag.j0 k bt111.1 bt111.2 bt103.1 t110 (⟨#[]⟩ : ByteArray) (⟨#[]⟩ : ByteArray) (⟨#[]⟩ : ByteArray) 0 0 (⟨#[]⟩ : ByteArray))) else (commit_ParseTag.j0 k bt107.2.1 bt107.2.2 bt103.1 t110 (⟨#[]⟩ : ByteArray) (⟨#[]⟩ : ByteArray) (⟨#[]⟩ : ByteArray) 0 0 (⟨#[]⟩ : ByteArray)))))) = some (r1, r2, r3, r4, r5, r6, r7, r8, r9) := h
 clear h
 replace H := Option.bind_eq_some_iff.mp H
 obtain ⟨⟨t103, t104, t105⟩, A20, H⟩ := H
 replace H : ((commit_reader_line.f t104 t105 (⟨#[116, 121, 112, 101, 32]⟩ : ByteArray)).bind fun bt107 => ((object_Kind.f bt107.1).bind fun t110 => (if t110 = 0 then ((commit_reader_fail.f bt107.2.1 bt107.2.2 2).bind fun bt111 => (commit_ParseTag.j0 k bt111.1 bt111.2 t103 t110 (⟨#[]⟩ : ByteArray) (⟨#[]⟩ : ByteArray) (⟨#[]⟩ : ByteArray) 0 0 (⟨#[]⟩ : ByteArray))) else (commit_ParseTag.j0 k bt107.2.1 bt107.2.2 t103 t110 (⟨#[]⟩ : ByteArray) (⟨#[]⟩ : ByteArray) (⟨#[]⟩ : ByteArray) 0 0 (⟨#[]⟩ : ByteArray))))) = some (r1, r2, r3, r4, r5, r6, r7, r8, r9) := H
 have A2 := Aside0.mk A20
 clear A20
 replace H := Option.bind_eq_some_iff.mp H
 obtain ⟨⟨t107, t108, t109⟩, A30, H⟩ := H
 replace H : ((object_Kind.f t107).bind fun t110 => (if t110 = 0 then ((commit_reader_fail.f t108 t109 2).bind fun bt111 => (commit_ParseTag.j0 k bt111.1 bt111.2 t103 t110 (⟨#[]⟩ : ByteArray) (⟨#[]⟩ : ByteArray) (⟨#[]⟩ : ByteArray) 0 0 (⟨#[]⟩ : ByteArray))) else (commit_ParseTag.j0 k t108 t109 t103 t110 (⟨#[]⟩ : ByteArray) (⟨#[]⟩ : ByteArray) (⟨#[]⟩ : ByteArray) 0 0 (⟨#[]⟩ : ByteArray)))) = some (r1, r2, r3, r4, r5, r6, r7, r8, r9) := H
 have A3 := Aside0.mk A30
 clear A30
 replace H := Option.bind_eq_some_iff.mp H
 obtain ⟨t110, A40, H⟩ := H
 have A4 := Aside0.mk A40
 clear A40
 have HC5 := Aside0.mk H
 clear H
 go_enter Tryz.func23, Tryz.ntmps23
 go_upto_if 18 with (first | ((with_reducible refine gate_dst (N := 2) rfl ?_); refine be_ (cs := #[.string (⟨#[]⟩ : ByteArray), .int .i64 0, .string (⟨#[]⟩ : ByteArray), .string (⟨#[]⟩ : ByteArray), .string (⟨#[]⟩ : ByteArray), .int .i64 0, .int .i64 0, .string (⟨#[]⟩ : ByteArray)]) (t := 37) ?_; intro gb101 hg w6 hbox hb; have BK101 := Aside0.mk (hbox); have GW101 := Aside0.mk (gw_ hg HB.out); have GE101 := Aside0.mk (gw_ hg HB.out); replace HB := Aside0.mk (below_step (hb_ HB.out) hb); clear hb hbox hg) | ((with_reducible refine gate_dst (N := 8) rfl ?_); refine be_ (cs := #[.string a0, .int .i64 0]) (t := 87) ?_; intro gb102 hg w7 hbox hb; have BK102 := Aside0.mk (hbox); have GW102 := Aside0.mk ((by rw [hg]; exact (below_size (hs_)) : w.heap.size ≤ gb102)); have GE102 := Aside0.mk ((by rw [hg]; exact (below_size (hs_)) : w.heap.size ≤ gb102)); replace HB := Aside0.mk (below_step (hs_) hb); have NB101_102 := Aside0.mk (nl2_ hg BK101.out); have NB102_101 := Aside0.mk (ng2_ hg BK101.out); replace BK101 := Aside0.mk (bb_ BK101.out hb); clear hb hbox hg) | ((with_reducible refine gate_callee (f := 70) rfl ?_); refine goesL_ (some 10) rfl rfl Tryz.func70 (by kernel_rfl) rfl #[.pointer (some ⟨gb102, 0, none⟩), .string (⟨#[111, 98, 106, 101, 99, 116, 32]⟩ : ByteArray)] rfl z2_ ?_; (with_reducible refine (commit_reader_id.calls k gb102 a0 0 (⟨#[111, 98, 106, 101, 99, 116, 32]⟩ : ByteArray) t103 t104 t105 w _ ?side1 ?side2 ?side3 A2.out).mono ?_); (case side1 => exact (show IsS87 w _ gb102 a0 0 from ⟨(bk_ BK102.out), GE102.out⟩)); (case side2 => repeat (first | (with_reducible first | exact HB.out | apply below_alloc | apply pw_below_drewN | apply below_drew1 | refine below_set ?_ (IsS87.ge HI102.out) | refine below_set ?_ GE101.out) | exact HB.out)); (case side3 => exact hgv); rintro e w8 ⟨rfl, hi, hb, hk⟩; refine ⟨_, rfl, ?_⟩; replace BK101 := Aside0.mk (KeepBut.blk hk (g' := gb101) (o := .cells #[.string (⟨#[]⟩ : ByteArray), .int .i64 0, .string (⟨#[]⟩ : ByteArray), .string (⟨#[]⟩ : ByteArray), .string (⟨#[]⟩ : ByteArray), .int .i64 0, .int .i64 0, .string (⟨#[]⟩ : ByteArray)] 37 (0, 0)) (bk_ BK101.out) NB101_102.out (by simp)); replace HB := Aside0.mk (hb); replace BK102 := Aside0.mk (hi.1); (try clear hb); (try clear hb2); (try clear hk); (try clear hi)) | ((with_reducible refine gate_dst (N := 5) rfl ?_); refine be_ (cs := #[.string (⟨#[]⟩ : ByteArray), .int .i64 0, .string (⟨#[]⟩ : ByteArray), .string (⟨#[]⟩ : ByteArray), .string (⟨#[]⟩ : ByteArray), .int .i64 0, .int .i64 0, .string (⟨#[]⟩ : ByteArray)]) (t := 37) ?_; intro gb106 hg w9 hbox hb; have BK106 := Aside0.mk (hbox); have GW106 := Aside0.mk ((by rw [hg]; exact (below_size (hs_)) : w.heap.size ≤ gb106)); have GE106 := Aside0.mk ((by rw [hg]; exact (below_size (hs_)) : w.heap.size ≤ gb106)); replace HB := Aside0.mk (below_step (hs_) hb); have NB101_106 := Aside0.mk (nl2_ hg BK101.out); have NB106_101 := Aside0.mk (ng2_ hg BK101.out); replace BK101 := Aside0.mk (bb_ BK101.out hb); have NB102_106 := Aside0.mk (nl2_ hg BK102.out); have NB106_102 := Aside0.mk (ng2_ hg BK102.out); replace BK102 := Aside0.mk (bb_ BK102.out hb); clear hb hbox hg; have hnb10 := NB106_101.out; have hnc10 := NB101_106.out; have hnb11 := NB106_102.out; have hnc11 := NB102_106.out; obtain ⟨hcz12_0, hcz12_1, hcz12_2, hcz12_3, hcz12_4, hcz12_5, hcz12_6, hcz12_7, hfz12_0, hfz12_1, hfz12_2, hfz12_3, hfz12_4, hfz12_5, hfz12_6, hfz12_7⟩ := bc8 BK106.out) | ((with_reducible refine gate_callee (f := 73) rfl ?_); refine goesL_ (some 13) rfl rfl Tryz.func73 (by kernel_rfl) rfl #[.pointer (some ⟨gb102, 0, none⟩), .string (⟨#[116, 121, 112, 101, 32]⟩ : ByteArray)] rfl z2_ ?_; (with_reducible refine (commit_reader_line.calls gb102 t104 t105 (⟨#[116, 121, 112, 101, 32]⟩ : ByteArray) t107 t108 t109 w _ ?side1 ?side2 ?side3 A3.out).mono ?_); (case side1 => exact (show IsS87 w _ gb102 t104 t105 from ⟨(by have b_ := BK102; have f_ := NB102_106; exact zb_), GE102.out⟩)); (case side2 => repeat (first | (with_reducible first | exact HB.out | apply below_alloc | apply pw_below_drewN | apply below_drew1 | refine below_set ?_ (IsS87.ge HI102.out) | refine below_set ?_ GE101.out | refine below_set ?_ GE106.out) | exact HB.out)); (case side3 => exact hgv); rintro e w13 ⟨rfl, hi, hb, hk⟩; refine ⟨_, rfl, ?_⟩; replace BK101 := Aside0.mk (KeepBut.blk hk (g' := gb101) (o := .cells #[.string (⟨#[]⟩ : ByteArray), .int .i64 0, .string (⟨#[]⟩ : ByteArray), .string (⟨#[]⟩ : ByteArray), .string (⟨#[]⟩ : ByteArray), .int .i64 0, .int .i64 0, .string (⟨#[]⟩ : ByteArray)] 37 (0, 0)) (by have b_ := BK101; have f_ := NB101_106; exact zb_) NB101_102.out (by simp)); replace BK106 := Aside0.mk (KeepBut.blk hk (g' := gb106) (o := .cells #[.string t103, .int .i64 0, .string (⟨#[]⟩ : ByteArray), .string (⟨#[]⟩ : ByteArray), .string (⟨#[]⟩ : ByteArray), .int .i64 0, .int .i64 0, .string (⟨#[]⟩ : ByteArray)] 37 (0, 0)) (by have b_ := BK106; exact zb_) NB106_102.out (by simp)); replace HB := Aside0.mk (hb); replace BK102 := Aside0.mk (hi.1); (try clear hb); (try clear hb2); (try clear hk); (try clear hi)) | ((with_reducible refine gate_callee (f := 77) rfl ?_); refine goesL_ (some 14) rfl rfl Tryz.func77 (by kernel_rfl) rfl #[.string t107] rfl z2_ ?_; (with_reducible refine (object_Kind.calls t107 t110 _ A4.out).mono ?_); rintro e w14 ⟨rfl, hb⟩; refine ⟨_, rfl, ?_⟩; replace BK101 := Aside0.mk (bb_ BK101.out hb); replace BK102 := Aside0.mk (bb_ BK102.out hb); replace BK106 := Aside0.mk (bb_ BK106.out hb); replace HB := Aside0.mk (below_step (hs_) hb); (try clear hb); (try clear hb2); (try clear hk); (try clear hi); obtain ⟨hcz15_0, hcz15_1, hcz15_2, hcz15_3, hcz15_4, hcz15_5, hcz15_6, hcz15_7, hfz15_0, hfz15_1, hfz15_2, hfz15_3, hfz15_4, hfz15_5, hfz15_6, hfz15_7⟩ := bc8 BK106.out))
 (try simp only [Act.put, List.setIfInBounds_toArray, List.set_cons_zero, List.set_cons_succ])
 go_cut [] (fun wc => ∃ (kq : Nat) (x103000_4 : ByteArray) (x103001_4 : Int), Aside0 (commit_ParseTag.j0 kq x103000_4 x103001_4 t103 t110 (⟨#[]⟩ : ByteArray) (⟨#[]⟩ : ByteArray) (⟨#[]⟩ : ByteArray) 0 0 (⟨#[]⟩ : ByteArray) = some (r1, r2, r3, r4, r5, r6, r7, r8, r9)) ∧ Aside0 (kq ≤ k) ∧ Aside0 (wc.heap[gb101]? = some (.cells #[.string (⟨#[]⟩ : ByteArray), .int .i64 0, .string (⟨#[]⟩ : ByteArray), .string (⟨#[]⟩ : ByteArray), .string (⟨#[]⟩ : ByteArray), .int .i64 0, .int .i64 0, .string (⟨#[]⟩ : ByteArray)] 37 (0, 0))) ∧ Aside0 (wc.heap[gb102]? = some (.cells #[.string x103000_4, .int .i64 x103001_4] 87 (0, 0))) ∧ Aside0 (wc.heap[gb106]? = some (.cells #[.string t103, .int .i64 t110, .string (⟨#[]⟩ : ByteArray), .string (⟨#[]⟩ : ByteArray), .string (⟨#[]⟩ : ByteArray), .int .i64 0, .int .i64 0, .string (⟨#[]⟩ : ByteArray)] 37 (0, 0))) ∧ Aside0 (Below w.heap.size w wc))
 case first =>
  have H := HC5.out
  clear HC5
  by_cases c16 : t110 = 0
  ·rw [if_pos c16] at H
   have c16b0 := beq_iff_eq.mpr c16
   have c16b1 := bne_eq_false_iff_eq.mpr c16
   clear c16
   (first | rw [c16b0] | (simp only [i64_w, i32_w]; rw [c16b0]) | skip)
   (try rw [c16b8])
   replace H := Option.bind_eq_some_iff.mp H
   obtain ⟨⟨t111, t112⟩, A170, H⟩ := H
   replace H : (commit_ParseTag.j0 k t111 t112 t103 t110 (⟨#[]⟩ : ByteArray) (⟨#[]⟩ : ByteArray) (⟨#[]⟩ : ByteArray) 0 0 (⟨#[]⟩ : ByteArray)) = some (r1, r2, r3, r4, r5, r6, r7, r8, r9) := H
   have A17 := Aside0.mk A170
   clear A170
   have H' := Aside0.mk H
   clear H
   go_wp2_with (first | ((with_reducible refine gate_callee (f := 74) rfl ?_); refine goesL_ (some 20) rfl rfl Tryz.func74 (by kernel_rfl) rfl #[.pointer (some ⟨gb102, 0, none⟩), .int .i64 2] rfl z2_ ?_; (with_reducible refine (commit_reader_fail.calls gb102 t108 t109 2 t111 t112 w _ ?side1 ?side2 A17.out).mono ?_); (case side1 => exact (show IsS87 w _ gb102 t108 t109 from ⟨(by have b_ := BK102; have f_ := NB102_106; exact zb_), GE102.out⟩)); (case side2 => repeat (first | (with_reducible first | exact HB.out | apply below_alloc | apply pw_below_drewN | apply below_drew1 | refine below_set ?_ (IsS87.ge HI102.out) | refine below_set ?_ GE101.out | refine below_set ?_ GE106.out) | exact HB.out)); rintro e w18 ⟨rfl, hi, hb, hk⟩; refine ⟨_, rfl, ?_⟩; replace BK101 := Aside0.mk (KeepBut.blk hk (g' := gb101) (o := .cells #[.string (⟨#[]⟩ : ByteArray), .int .i64 0, .string (⟨#[]⟩ : ByteArray), .string (⟨#[]⟩ : ByteArray), .string (⟨#[]⟩ : ByteArray), .int .i64 0, .int .i64 0, .string (⟨#[]⟩ : ByteArray)] 37 (0, 0)) (by have b_ := BK101; have f_ := NB101_106; exact zb_) NB101_102.out (by simp)); replace BK106 := Aside0.mk (KeepBut.blk hk (g' := gb106) (o := .cells #[.string t103, .int .i64 t110, .string (⟨#[]⟩ : ByteArray), .string (⟨#[]⟩ : ByteArray), .string (⟨#[]⟩ : ByteArray), .int .i64 0, .int .i64 0, .string (⟨#[]⟩ : ByteArray)] 37 (0, 0)) (by have b_ := BK106; exact zb_) NB106_102.out (by simp)); replace HB := Aside0.mk (hb); replace BK102 := Aside0.mk (hi.1); (try clear hb); (try clear hb2); (try clear hk); (try clear hi)))
   go_meet
   case rel => exact ⟨_, (t111), (t112), H', ⟨z5_⟩, ⟨bk_ BK101.out⟩, ⟨bk_ BK102.out⟩, ⟨bk_ BK106.out⟩, ⟨hs_⟩⟩
  ·rw [if_neg c16] at H
   have c16b0 := beq_eq_false_iff_ne.mpr c16
   have c16b1 := bne_iff_ne.mpr c16
   (first | rw [c16b0] | (simp only [i64_w, i32_w]; rw [c16b0]) | skip)
   (try rw [c16b8])
   have H' := Aside0.mk H
   clear H
   go_wp2
   go_meet
   case rel => exact ⟨_, (t108), (t109), H', ⟨z5_⟩, ⟨by have b_ := BK101; have f_ := NB101_106; exact zb_⟩, ⟨by have b_ := BK102; have f_ := NB102_106; exact zb_⟩, ⟨by have b_ := BK106; exact zb_⟩, ⟨hs_⟩⟩
 case rest =>
  clear HC5
  try clear c1
  try clear c2
  try clear p2
  try clear c7
  try clear c10
  try clear c11
  try clear c16
  try clear c16b0
  try clear c16b1
  try clear hcz12_0 hcz12_1 hcz12_2 hcz12_3 hcz12_4 hcz12_5 hcz12_6 hcz12_7
  try clear hcz15_0 hcz15_1 hcz15_2 hcz15_3 hcz15_4 hcz15_5 hcz15_6 hcz15_7
  try clear hfz12_0 hfz12_1 hfz12_2 hfz12_3 hfz12_4 hfz12_5 hfz12_6 hfz12_7
  try clear hfz15_0 hfz15_1 hfz15_2 hfz15_3 hfz15_4 hfz15_5 hfz15_6 hfz15_7
  obtain ⟨kq, x103000_4, x103001_4, HA, HJ4, BK101, BK102, BK106, HB⟩ := hcut
  cases kq with
  | zero => exact absurd HA.out (by simp [commit_ParseTag.j0])
  | succ kj4 =>
   have H := HA.out
   clear HA
   simp only [commit_ParseTag.j0] at H
   replace H := Option.bind_eq_some_iff.mp H
   obtain ⟨⟨t113, t114, t115⟩, A190, H⟩ := H
   replace H : ((commit_reader_who.f kj4 t114 t115 (⟨#[116, 97, 103, 103, 101, 114, 32]⟩ : ByteArray)).bind fun bt116 => ((commit_reader_line.f bt116.2.2.2.2.1 bt116.2.2.2.2.2 (⟨#[]⟩ : ByteArray)).bind fun bt122 => (if bt122.1.toList = ([] : List UInt8) then (commit_ParseTag.j1 kj4 bt122.2.1 bt122.2.2 t103 t110 t113 bt116.1 bt116.2.1 bt116.2.2.1 bt116.2.2.2.1 (⟨#[]⟩ : ByteArray)) else ((commit_reader_fail.f bt122.2.1 bt122.2.2 2).bind fun bt125 => (commit_ParseTag.j1 kj4 bt125.1 bt125.2 t103 t110 t113 bt116.1 bt116.2.1 bt116.2.2.1 bt116.2.2.2.1 (⟨#[]⟩ : ByteArray)))))) = some (r1, r2, r3, r4, r5, r6, r7, r8, r9) := H
   have A19 := Aside0.mk A190
   clear A190
   replace H := Option.bind_eq_some_iff.mp H
   obtain ⟨⟨t116, t117, t118, t119, t120, t121⟩, A200, H⟩ := H
   replace H : ((commit_reader_line.f t120 t121 (⟨#[]⟩ : ByteArray)).bind fun bt122 => (if bt122.1.toList = ([] : List UInt8) then (commit_ParseTag.j1 kj4 bt122.2.1 bt122.2.2 t103 t110 t113 t116 t117 t118 t119 (⟨#[]⟩ : ByteArray)) else ((commit_reader_fail.f bt122.2.1 bt122.2.2 2).bind fun bt125 => (commit_ParseTag.j1 kj4 bt125.1 bt125.2 t103 t110 t113 t116 t117 t118 t119 (⟨#[]⟩ : ByteArray))))) = some (r1, r2, r3, r4, r5, r6, r7, r8, r9) := H
   have A20 := Aside0.mk A200
   clear A200
   replace H := Option.bind_eq_some_iff.mp H
   obtain ⟨⟨t122, t123, t124⟩, A210, H⟩ := H
   replace H : (if t122.toList = ([] : List UInt8) then (commit_ParseTag.j1 kj4 t123 t124 t103 t110 t113 t116 t117 t118 t119 (⟨#[]⟩ : ByteArray)) else ((commit_reader_fail.f t123 t124 2).bind fun bt125 => (commit_ParseTag.j1 kj4 bt125.1 bt125.2 t103 t110 t113 t116 t117 t118 t119 (⟨#[]⟩ : ByteArray)))) = some (r1, r2, r3, r4, r5, r6, r7, r8, r9) := H
   have A21 := Aside0.mk A210
   clear A210
   have HC22 := Aside0.mk H
   clear H
   go_upto_if 29 with (first | ((with_reducible refine gate_callee (f := 73) rfl ?_); refine goesL_ (some 22) rfl rfl Tryz.func73 (by kernel_rfl) rfl #[.pointer (some ⟨gb102, 0, none⟩), .string (⟨#[116, 97, 103, 32]⟩ : ByteArray)] rfl z2_ ?_; (with_reducible refine (commit_reader_line.calls gb102 x103000_4 x103001_4 (⟨#[116, 97, 103, 32]⟩ : ByteArray) t113 t114 t115 w _ ?side1 ?side2 ?side3 A19.out).mono ?_); (case side1 => exact (show IsS87 w _ gb102 x103000_4 x103001_4 from ⟨(bk_ BK102.out), GE102.out⟩)); (case side2 => repeat (first | (with_reducible first | exact HB.out | apply below_alloc | apply pw_below_drewN | apply below_drew1 | refine below_set ?_ (IsS87.ge HI102.out) | refine below_set ?_ GE101.out | refine below_set ?_ GE106.out) | exact HB.out)); (case side3 => exact hgv); rintro e w23 ⟨rfl, hi, hb, hk⟩; refine ⟨_, rfl, ?_⟩; replace BK101 := Aside0.mk (KeepBut.blk hk (g' := gb101) (o := .cells #[.string (⟨#[]⟩ : ByteArray), .int .i64 0, .string (⟨#[]⟩ : ByteArray), .string (⟨#[]⟩ : ByteArray), .string (⟨#[]⟩ : ByteArray), .int .i64 0, .int .i64 0, .string (⟨#[]⟩ : ByteArray)] 37 (0, 0)) (bk_ BK101.out) NB101_102.out (by simp)); replace BK106 := Aside0.mk (KeepBut.blk hk (g' := gb106) (o := .cells #[.string t103, .int .i64 t110, .string (⟨#[]⟩ : ByteArray), .string (⟨#[]⟩ : ByteArray), .string (⟨#[]⟩ : ByteArray), .int .i64 0, .int .i64 0, .string (⟨#[]⟩ : ByteArray)] 37 (0, 0)) (bk_ BK106.out) NB106_102.out (by simp)); replace HB := Aside0.mk (hb); replace BK102 := Aside0.mk (hi.1); (try clear hb); (try clear hb2); (try clear hk); (try clear hi); have hnb24 := NB106_101.out; have hnc24 := NB101_106.out; have hnb25 := NB106_102.out; have hnc25 := NB102_106.out; obtain ⟨hcz26_0, hcz26_1, hcz26_2, hcz26_3, hcz26_4, hcz26_5, hcz26_6, hcz26_7, hfz26_0, hfz26_1, hfz26_2, hfz26_3, hfz26_4, hfz26_5, hfz26_6, hfz26_7⟩ := bc8 BK106.out) | ((with_reducible refine gate_callee (f := 72) rfl ?_); refine goesL_ (some 25) rfl rfl Tryz.func72 (by kernel_rfl) rfl #[.pointer (some ⟨gb102, 0, none⟩), .string (⟨#[116, 97, 103, 103, 101, 114, 32]⟩ : ByteArray)] rfl z2_ ?_; (with_reducible refine (commit_reader_who.calls kj4 gb102 t114 t115 (⟨#[116, 97, 103, 103, 101, 114, 32]⟩ : ByteArray) t116 t117 t118 t119 t120 t121 w _ ?side1 ?side2 ?side3 A20.out).mono ?_); (case side1 => exact (show IsS87 w _ gb102 t114 t115 from ⟨(by have b_ := BK102; have f_ := NB102_106; exact zb_), GE102.out⟩)); (case side2 => repeat (first | (with_reducible first | exact HB.out | apply below_alloc | apply pw_below_drewN | apply below_drew1 | refine below_set ?_ (IsS87.ge HI102.out) | refine below_set ?_ GE101.out | refine below_set ?_ GE106.out) | exact HB.out)); (case side3 => exact hgv); rintro e w27 ⟨rfl, hi, hb, hk⟩; refine ⟨_, rfl, ?_⟩; replace BK101 := Aside0.mk (KeepBut.blk hk (g' := gb101) (o := .cells #[.string (⟨#[]⟩ : ByteArray), .int .i64 0, .string (⟨#[]⟩ : ByteArray), .string (⟨#[]⟩ : ByteArray), .string (⟨#[]⟩ : ByteArray), .int .i64 0, .int .i64 0, .string (⟨#[]⟩ : ByteArray)] 37 (0, 0)) (by have b_ := BK101; have f_ := NB101_106; exact zb_) NB101_102.out (by simp)); replace BK106 := Aside0.mk (KeepBut.blk hk (g' := gb106) (o := .cells #[.string t103, .int .i64 t110, .string t113, .string (⟨#[]⟩ : ByteArray), .string (⟨#[]⟩ : ByteArray), .int .i64 0, .int .i64 0, .string (⟨#[]⟩ : ByteArray)] 37 (0, 0)) (by have b_ := BK106; exact zb_) NB106_102.out (by simp)); replace HB := Aside0.mk (hb); replace BK102 := Aside0.mk (hi.1); (try clear hb); (try clear hb2); (try clear hk); (try clear hi); obtain ⟨hcz28_0, hcz28_1, hcz28_2, hcz28_3, hcz28_4, hcz28_5, hcz28_6, hcz28_7, hfz28_0, hfz28_1, hfz28_2, hfz28_3, hfz28_4, hfz28_5, hfz28_6, hfz28_7⟩ := bc8 BK106.out) | ((with_reducible refine gate_callee (f := 73) rfl ?_); refine goesL_ (some 28) rfl rfl Tryz.func73 (by kernel_rfl) rfl #[.pointer (some ⟨gb102, 0, none⟩), .string (⟨#[]⟩ : ByteArray)] rfl z2_ ?_; (with_reducible refine (commit_reader_line.calls gb102 t120 t121 (⟨#[]⟩ : ByteArray) t122 t123 t124 w _ ?side1 ?side2 ?side3 A21.out).mono ?_); (case side1 => exact (show IsS87 w _ gb102 t120 t121 from ⟨(by have b_ := BK102; have f_ := NB102_106; exact zb_), GE102.out⟩)); (case side2 => repeat (first | (with_reducible first | exact HB.out | apply below_alloc | apply pw_below_drewN | apply below_drew1 | refine below_set ?_ (IsS87.ge HI102.out) | refine below_set ?_ GE101.out | refine below_set ?_ GE106.out) | exact HB.out)); (case side3 => exact hgv); rintro e w29 ⟨rfl, hi, hb, hk⟩; refine ⟨_, rfl, ?_⟩; replace BK101 := Aside0.mk (KeepBut.blk hk (g' := gb101) (o := .cells #[.string (⟨#[]⟩ : ByteArray), .int .i64 0, .string (⟨#[]⟩ : ByteArray), .string (⟨#[]⟩ : ByteArray), .string (⟨#[]⟩ : ByteArray), .int .i64 0, .int .i64 0, .string (⟨#[]⟩ : ByteArray)] 37 (0, 0)) (by have b_ := BK101; have f_ := NB101_106; exact zb_) NB101_102.out (by simp)); replace BK106 := Aside0.mk (KeepBut.blk hk (g' := gb106) (o := .cells #[.string t103, .int .i64 t110, .string t113, .string t116, .string t117, .int .i64 t118, .int .i64 t119, .string (⟨#[]⟩ : ByteArray)] 37 (0, 0)) (by have b_ := BK106; exact zb_) NB106_102.out (by simp)); replace HB := Aside0.mk (hb); replace BK102 := Aside0.mk (hi.1); (try clear hb); (try clear hb2); (try clear hk); (try clear hi)))
   (try simp only [Act.put, List.setIfInBounds_toArray, List.set_cons_zero, List.set_cons_succ])
   go_cut [] (fun wc => ∃ (kq : Nat) (x103000_21 : ByteArray) (x103001_21 : Int), Aside0 (commit_ParseTag.j1 kq x103000_21 x103001_21 t103 t110 t113 t116 t117 t118 t119 (⟨#[]⟩ : ByteArray) = some (r1, r2, r3, r4, r5, r6, r7, r8, r9)) ∧ Aside0 (kq ≤ kj4) ∧ Aside0 (wc.heap[gb101]? = some (.cells #[.string (⟨#[]⟩ : ByteArray), .int .i64 0, .string (⟨#[]⟩ : ByteArray), .string (⟨#[]⟩ : ByteArray), .string (⟨#[]⟩ : ByteArray), .int .i64 0, .int .i64 0, .string (⟨#[]⟩ : ByteArray)] 37 (0, 0))) ∧ Aside0 (wc.heap[gb102]? = some (.cells #[.string x103000_21, .int .i64 x103001_21] 87 (0, 0))) ∧ Aside0 (wc.heap[gb106]? = some (.cells #[.string t103, .int .i64 t110, .string t113, .string t116, .string t117, .int .i64 t118, .int .i64 t119, .string (⟨#[]⟩ : ByteArray)] 37 (0, 0))) ∧ Aside0 (Below w.heap.size w wc))
   case first =>
    have H := HC22.out
    clear HC22
    by_cases c30 : t122.toList = ([] : List UInt8)
    ·rw [if_pos c30] at H
     have c30b0 := beq_iff_eq.mpr c30
     have c30b1 := bne_eq_false_iff_eq.mpr c30
     (try (have c30b8 : (!t122.toList.isEmpty) = false := (by have h_ := c30b1; rw [ne_nil_bool] at h_; exact h_)))
     (try (have c30b9 : t122.toList.isEmpty = true := (by have h_ := c30b1; rw [ne_nil_bool] at h_; simpa using h_)))
     clear c30
     (first | rw [c30b0] | (simp only [i64_w, i32_w]; rw [c30b0]) | skip)
     (try rw [c30b8])
     have H' := Aside0.mk H
     clear H
     go_wp2
     go_meet
     case rel => exact ⟨_, (t123), (t124), H', ⟨by have := HJ4.out; first | omega | exact Nat.le_refl _⟩, ⟨bk_ BK101.out⟩, ⟨bk_ BK102.out⟩, ⟨bk_ BK106.out⟩, ⟨hs_⟩⟩
    ·rw [if_neg c30] at H
     have c30b0 := beq_eq_false_iff_ne.mpr c30
     have c30b1 := bne_iff_ne.mpr c30
     (try (have c30b8 : (!t122.toList.isEmpty) = true := (by have h_ := c30b1; rw [ne_nil_bool] at h_; exact h_)))
     (try (have c30b9 : t122.toList.isEmpty = false := (by have h_ := c30b1; rw [ne_nil_bool] at h_; simpa using h_)))
     (first | rw [c30b0] | (simp only [i64_w, i32_w]; rw [c30b0]) | skip)
     (try rw [c30b8])
     replace H := Option.bind_eq_some_iff.mp H
     obtain ⟨⟨t125, t126⟩, A310, H⟩ := H
     replace H : (commit_ParseTag.j1 kj4 t125 t126 t103 t110 t113 t116 t117 t118 t119 (⟨#[]⟩ : ByteArray)) = some (r1, r2, r3, r4, r5, r6, r7, r8, r9) := H
     have A31 := Aside0.mk A310
     clear A310
     have H' := Aside0.mk H
     clear H
     go_wp2_with (first | ((with_reducible refine gate_callee (f := 74) rfl ?_); refine goesL_ (some 31) rfl rfl Tryz.func74 (by kernel_rfl) rfl #[.pointer (some ⟨gb102, 0, none⟩), .int .i64 2] rfl z2_ ?_; (with_reducible refine (commit_reader_fail.calls gb102 t123 t124 2 t125 t126 w _ ?side1 ?side2 A31.out).mono ?_); (case side1 => exact (show IsS87 w _ gb102 t123 t124 from ⟨(bk_ BK102.out), GE102.out⟩)); (case side2 => repeat (first | (with_reducible first | exact HB.out | apply below_alloc | apply pw_below_drewN | apply below_drew1 | refine below_set ?_ (IsS87.ge HI102.out) | refine below_set ?_ GE101.out | refine below_set ?_ GE106.out) | exact HB.out)); rintro e w32 ⟨rfl, hi, hb, hk⟩; refine ⟨_, rfl, ?_⟩; replace BK101 := Aside0.mk (KeepBut.blk hk (g' := gb101) (o := .cells #[.string (⟨#[]⟩ : ByteArray), .int .i64 0, .string (⟨#[]⟩ : ByteArray), .string (⟨#[]⟩ : ByteArray), .string (⟨#[]⟩ : ByteArray), .int .i64 0, .int .i64 0, .string (⟨#[]⟩ : ByteArray)] 37 (0, 0)) (bk_ BK101.out) NB101_102.out (by simp)); replace BK106 := Aside0.mk (KeepBut.blk hk (g' := gb106) (o := .cells #[.string t103, .int .i64 t110, .string t113, .string t116, .string t117, .int .i64 t118, .int .i64 t119, .string (⟨#[]⟩ : ByteArray)] 37 (0, 0)) (bk_ BK106.out) NB106_102.out (by simp)); replace HB := Aside0.mk (hb); replace BK102 := Aside0.mk (hi.1); (try clear hb); (try clear hb2); (try clear hk); (try clear hi)))
     go_meet
     case rel => exact ⟨_, (t125), (t126), H', ⟨by have := HJ4.out; first | omega | exact Nat.le_refl _⟩, ⟨bk_ BK101.out⟩, ⟨bk_ BK102.out⟩, ⟨bk_ BK106.out⟩, ⟨hs_⟩⟩
   case rest =>
    clear HC22
    try clear c1
    try clear c2
    try clear p2
    try clear c3
    try clear c7
    try clear c10
    try clear c11
    try clear c16
    try clear c16b0
    try clear c16b1
    try clear c23
    try clear c24
    try clear c25
    try clear c30
    try clear c30b0
    try clear c30b1
    try clear hcz12_0 hcz12_1 hcz12_2 hcz12_3 hcz12_4 hcz12_5 hcz12_6 hcz12_7
    try clear hcz15_0 hcz15_1 hcz15_2 hcz15_3 hcz15_4 hcz15_5 hcz15_6 hcz15_7
    try clear hcz26_0 hcz26_1 hcz26_2 hcz26_3 hcz26_4 hcz26_5 hcz26_6 hcz26_7
    try clear hcz28_0 hcz28_1 hcz28_2 hcz28_3 hcz28_4 hcz28_5 hcz28_6 hcz28_7
    try clear hfz12_0 hfz12_1 hfz12_2 hfz12_3 hfz12_4 hfz12_5 hfz12_6 hfz12_7
    try clear hfz15_0 hfz15_1 hfz15_2 hfz15_3 hfz15_4 hfz15_5 hfz15_6 hfz15_7
    try clear hfz26_0 hfz26_1 hfz26_2 hfz26_3 hfz26_4 hfz26_5 hfz26_6 hfz26_7
    try clear hfz28_0 hfz28_1 hfz28_2 hfz28_3 hfz28_4 hfz28_5 hfz28_6 hfz28_7
    try clear p2
    obtain ⟨kq, x103000_21, x103001_21, HA, HJ21, BK101, BK102, BK106, HB⟩ := hcut
    cases kq with
    | zero => exact absurd HA.out (by simp [commit_ParseTag.j1])
    | succ kj21 =>
     have H := HA.out
     clear HA
     simp only [commit_ParseTag.j1] at H
     by_cases c33 : x103001_21 = 0
     ·rw [if_pos c33] at H
      have c33b0 := beq_iff_eq.mpr c33
      have c33b1 := bne_eq_false_iff_eq.mpr c33
      clear c33
      replace H := Option.bind_eq_some_iff.mp H
      obtain ⟨t127, A340, H⟩ := H
      have A34 := Aside0.mk A340
      clear A340
      by_cases c35 : t127 = 0
      ·rw [if_pos c35] at H
       have c35b0 := beq_iff_eq.mpr c35
       have c35b1 := bne_eq_false_iff_eq.mpr c35
       clear c35
       simp only [Option.some.injEq, Prod.mk.injEq] at H
       obtain ⟨rfl, rfl, rfl, rfl, rfl, rfl, rfl, rfl, rfl⟩ := H
       have hnb36 := NB102_101.out
       have hnc36 := NB101_102.out
       have hnb37 := NB102_106.out
       have hnc37 := NB106_102.out
       obtain ⟨hcz38_0, hcz38_1, hfz38_0, hfz38_1⟩ := bc2 BK102.out
       have hnb39 := NB106_101.out
       have hnc39 := NB101_106.out
       obtain ⟨hcz40_0, hcz40_1, hcz40_2, hcz40_3, hcz40_4, hcz40_5, hcz40_6, hcz40_7, hfz40_0, hfz40_1, hfz40_2, hfz40_3, hfz40_4, hfz40_5, hfz40_6, hfz40_7⟩ := bc8 BK106.out
       go_wp2_with (first | ((with_reducible refine gate_callee (f := 27) rfl ?_); refine goesL_ (some 44) rfl rfl Tryz.func27 (by kernel_rfl) rfl #[.agg #[.string t103, .int .i64 t110, .string t113, .string t116, .string t117, .int .i64 t118, .int .i64 t119, .string x103000_21]] rfl z2_ ?_; (with_reducible refine (commit_CheckTag.calls kj21 t103 t110 t113 t116 t117 t118 t119 x103000_21 t127 _ ?side1 A34.out).mono ?_); (case side1 => exact GV.below hgv (hs_)); rintro e w41 ⟨rfl, hb⟩; refine ⟨_, rfl, ?_⟩; replace BK101 := Aside0.mk (blk_below (g := gb101) (o := .cells #[.string (⟨#[]⟩ : ByteArray), .int .i64 0, .string (⟨#[]⟩ : ByteArray), .string (⟨#[]⟩ : ByteArray), .string (⟨#[]⟩ : ByteArray), .int .i64 0, .int .i64 0, .string (⟨#[]⟩ : ByteArray)] 37 (0, 0)) (by have b_ := BK101; have f_ := NB101_106; exact zb_) hb); replace BK102 := Aside0.mk (blk_below (g := gb102) (o := .cells #[.string x103000_21, .int .i64 x103001_21] 87 (0, 0)) (by have b_ := BK102; have f_ := NB102_106; exact zb_) hb); replace BK106 := Aside0.mk (blk_below (g := gb106) (o := .cells #[.string t103, .int .i64 t110, .string t113, .string t116, .string t117, .int .i64 t118, .int .i64 t119, .string x103000_21] 37 (0, 0)) (by have b_ := BK106; exact zb_) hb); replace HB := Aside0.mk (below_step (hs_) hb); (try clear hb); (try clear hb2); (try clear hk); (try clear hi); obtain ⟨hcz42_0, hcz42_1, hfz42_0, hfz42_1⟩ := bc2 BK102.out; obtain ⟨hcz43_0, hcz43_1, hcz43_2, hcz43_3, hcz43_4, hcz43_5, hcz43_6, hcz43_7, hfz43_0, hfz43_1, hfz43_2, hfz43_3, hfz43_4, hfz43_5, hfz43_6, hfz43_7⟩ := bc8 BK106.out; obtain ⟨hcz44_0, hcz44_1, hcz44_2, hcz44_3, hcz44_4, hcz44_5, hcz44_6, hcz44_7, hfz44_0, hfz44_1, hfz44_2, hfz44_3, hfz44_4, hfz44_5, hfz44_6, hfz44_7⟩ := bc8 BK101.out))
       refine bodyPost_ret (results_ct rfl _ _ gb101 37 #[.string t103, .int .i64 t110, .string t113, .string t116, .string t117, .int .i64 t118, .int .i64 t119, .string x103000_21] (0, 0) _ rfl (by have b_ := BK101; have f_ := NB101_102; exact zb_) Tryz.underlying37 rfl (by kernel_rfl)) rfl ?_
       exact ⟨z4_, hs_⟩
      ·rw [if_neg c35] at H
       have c35b0 := beq_eq_false_iff_ne.mpr c35
       have c35b1 := bne_iff_ne.mpr c35
       simp only [Option.some.injEq, Prod.mk.injEq] at H
       obtain ⟨rfl, rfl, rfl, rfl, rfl, rfl, rfl, rfl, rfl⟩ := H
       have hnb45 := NB102_101.out
       have hnc45 := NB101_102.out
       have hnb46 := NB102_106.out
       have hnc46 := NB106_102.out
       obtain ⟨hcz47_0, hcz47_1, hfz47_0, hfz47_1⟩ := bc2 BK102.out
       have hnb48 := NB106_101.out
       have hnc48 := NB101_106.out
       obtain ⟨hcz49_0, hcz49_1, hcz49_2, hcz49_3, hcz49_4, hcz49_5, hcz49_6, hcz49_7, hfz49_0, hfz49_1, hfz49_2, hfz49_3, hfz49_4, hfz49_5, hfz49_6, hfz49_7⟩ := bc8 BK106.out
       try go_wp2_with (first | ((with_reducible refine gate_callee (f := 27) rfl ?_); refine goesL_ (some 44) rfl rfl Tryz.func27 (by kernel_rfl) rfl #[.agg #[.string t103, .int .i64 t110, .string t113, .string t116, .string t117, .int .i64 t118, .int .i64 t119, .string x103000_21]] rfl z2_ ?_; (with_reducible refine (commit_CheckTag.calls kj21 t103 t110 t113 t116 t117 t118 t119 x103000_21 t127 _ ?side1 A34.out).mono ?_); (case side1 => exact GV.below hgv (hs_)); rintro e w50 ⟨rfl, hb⟩; refine ⟨_, rfl, ?_⟩; replace BK101 := Aside0.mk (blk_below (g := gb101) (o := .cells #[.string (⟨#[]⟩ : ByteArray), .int .i64 0, .string (⟨#[]⟩ : ByteArray), .string (⟨#[]⟩ : ByteArray), .string (⟨#[]⟩ : ByteArray), .int .i64 0, .int .i64 0, .string (⟨#[]⟩ : ByteArray)] 37 (0, 0)) (by have b_ := BK101; have f_ := NB101_106; exact zb_) hb); replace BK102 := Aside0.mk (blk_below (g := gb102) (o := .cells #[.string x103000_21, .int .i64 x103001_21] 87 (0, 0)) (by have b_ := BK102; have f_ := NB102_106; exact zb_) hb); replace BK106 := Aside0.mk (blk_below (g := gb106) (o := .cells #[.string t103, .int .i64 t110, .string t113, .string t116, .string t117, .int .i64 t118, .int .i64 t119, .string x103000_21] 37 (0, 0)) (by have b_ := BK106; exact zb_) hb); replace HB := Aside0.mk (below_step (hs_) hb); (try clear hb); (try clear hb2); (try clear hk); (try clear hi); obtain ⟨hcz51_0, hcz51_1, hfz51_0, hfz51_1⟩ := bc2 BK102.out))
       have n0_ : Aside0 ((w50.setCell ⟨gb102, 1, none⟩ (.int .i64 t127)).heap[gb101]? = some (.cells #[.string (⟨#[]⟩ : ByteArray), .int .i64 0, .string (⟨#[]⟩ : ByteArray), .string (⟨#[]⟩ : ByteArray), .string (⟨#[]⟩ : ByteArray), .int .i64 0, .int .i64 0, .string (⟨#[]⟩ : ByteArray)] 37 (0, 0))) := ⟨by have b_ := BK101; have f_ := NB101_102; exact zb_⟩
       have n1_ : Aside0 ((w50.setCell ⟨gb102, 1, none⟩ (.int .i64 t127)).heap[gb102]? = some (.cells #[.string x103000_21, .int .i64 t127] 87 (0, 0))) := ⟨by have b_ := BK102; exact zb_⟩
       have n2_ : Aside0 ((w50.setCell ⟨gb102, 1, none⟩ (.int .i64 t127)).heap[gb106]? = some (.cells #[.string t103, .int .i64 t110, .string t113, .string t116, .string t117, .int .i64 t118, .int .i64 t119, .string x103000_21] 37 (0, 0))) := ⟨by have b_ := BK106; have f_ := NB106_102; exact zb_⟩
       have n3_ : Aside0 (Below w.heap.size w (w50.setCell ⟨gb102, 1, none⟩ (.int .i64 t127))) := ⟨hs_⟩
       (try clear BK101)
       (try clear BK102)
       (try clear BK106)
       (try clear HB)
       generalize (w50.setCell ⟨gb102, 1, none⟩ (.int .i64 t127)) = w52 at n0_ n1_ n2_ n3_ ⊢
       have BK101 := n0_
       have BK102 := n1_
       have BK106 := n2_
       have HB := n3_
       clear n0_ n1_ n2_ n3_
       replace BK101 := Aside0.mk (blk_drew BK101.out)
       replace BK102 := Aside0.mk (blk_drew BK102.out)
       replace BK106 := Aside0.mk (blk_drew BK106.out)
       replace HB := Aside0.mk (below_drew1 HB.out)
       refine start_ (n := 7) (S := fun w' => w'.cell? ⟨gb102, 0, none⟩ = some (.string x103000_21) ∧ w'.cell? ⟨gb102, 1, none⟩ = some (.int .i64 t127)) (ds := []) (bs 7 0) (by kernel_rfl) rfl rfl ⟨(blk_cell BK102.out 0).trans rfl, (blk_cell BK102.out 1).trans rfl⟩ (fun hHeld => ?_)
       generalize w52.drew = w53 at BK101 BK102 BK106 HB hHeld ⊢
       refine pk_ (i := 0) (N := some 52) (bs 7 1) rfl rfl ?_
       refine pk_ (i := 1) (N := some 53) (bs 7 3) rfl rfl ?_
       refine pk_ (i := 2) (N := some 54) (bs 7 7) rfl rfl ?_
       refine pk_ (i := 3) (N := some 55) (bs 7 15) rfl rfl ?_
       refine tkK2_ (i := 4) (N := some 56) (bs 7 31) rfl rfl hHeld ?_
       refine one_ (i := 5) (N := none) (bs 7 63) rfl rfl (by kernel_rfl) (by decide) (fun K hK => ?_)
       have hs54 : w53.cell? ⟨gb101, 0, none⟩ = some (.string (⟨#[]⟩ : ByteArray)) := (blk_cell BK101.out 0).trans rfl
       have hfs54 := blk_frozen BK101.out 0
       have hns54_1 := NB102_101.out
       have hns54_2 := NB106_101.out
       have hms54_1 := NB101_102.out
       have hms54_2 := NB101_106.out
       have hs55 : w53.cell? ⟨gb101, 1, none⟩ = some (.int .i64 0) := (blk_cell BK101.out 1).trans rfl
       have hfs55 := blk_frozen BK101.out 1
       have hns55_1 := NB102_101.out
       have hns55_2 := NB106_101.out
       have hms55_1 := NB101_102.out
       have hms55_2 := NB101_106.out
       have hs56 : w53.cell? ⟨gb101, 2, none⟩ = some (.string (⟨#[]⟩ : ByteArray)) := (blk_cell BK101.out 2).trans rfl
       have hfs56 := blk_frozen BK101.out 2
       have hns56_1 := NB102_101.out
       have hns56_2 := NB106_101.out
       have hms56_1 := NB101_102.out
       have hms56_2 := NB101_106.out
       have hs57 : w53.cell? ⟨gb101, 3, none⟩ = some (.string (⟨#[]⟩ : ByteArray)) := (blk_cell BK101.out 3).trans rfl
       have hfs57 := blk_frozen BK101.out 3
       have hns57_1 := NB102_101.out
       have hns57_2 := NB106_101.out
       have hms57_1 := NB101_102.out
       have hms57_2 := NB101_106.out
       have hs58 : w53.cell? ⟨gb101, 4, none⟩ = some (.string (⟨#[]⟩ : ByteArray)) := (blk_cell BK101.out 4).trans rfl
       have hfs58 := blk_frozen BK101.out 4
       have hns58_1 := NB102_101.out
       have hns58_2 := NB106_101.out
       have hms58_1 := NB101_102.out
       have hms58_2 := NB101_106.out
       have hs59 : w53.cell? ⟨gb101, 5, none⟩ = some (.int .i64 0) := (blk_cell BK101.out 5).trans rfl
       have hfs59 := blk_frozen BK101.out 5
       have hns59_1 := NB102_101.out
       have hns59_2 := NB106_101.out
       have hms59_1 := NB101_102.out
       have hms59_2 := NB101_106.out
       have hs60 : w53.cell? ⟨gb101, 6, none⟩ = some (.int .i64 0) := (blk_cell BK101.out 6).trans rfl
       have hfs60 := blk_frozen BK101.out 6
       have hns60_1 := NB102_101.out
       have hns60_2 := NB106_101.out
       have hms60_1 := NB101_102.out
       have hms60_2 := NB101_106.out
       have hs61 : w53.cell? ⟨gb101, 7, none⟩ = some (.string (⟨#[]⟩ : ByteArray)) := (blk_cell BK101.out 7).trans rfl
       have hfs61 := blk_frozen BK101.out 7
       have hns61_1 := NB102_101.out
       have hns61_2 := NB106_101.out
       have hms61_1 := NB101_102.out
       have hms61_2 := NB101_106.out
       refine skip_ (w1 := ?_) (by rfl) rfl ?_ ?_
       rotate_left
       ·go_simp
        rfl
       refine hK.out _ _ ⟨((cell_far (p := ⟨gb101, _, none⟩) NB102_101.out _).trans (((cell_far (p := ⟨gb101, _, none⟩) NB102_101.out _).trans (((cell_far (p := ⟨gb101, _, none⟩) NB102_101.out _).trans (((cell_far (p := ⟨gb101, _, none⟩) NB102_101.out _).trans (((cell_far (p := ⟨gb101, _, none⟩) NB102_101.out _).trans (((cell_far (p := ⟨gb101, _, none⟩) NB102_101.out _).trans (((cell_far (p := ⟨gb101, _, none⟩) NB102_101.out _).trans (((cell_far (p := ⟨gb101, _, none⟩) NB102_101.out _).trans (hHeld.1)))))))))))))))), ((cell_far (p := ⟨gb101, _, none⟩) NB102_101.out _).trans (((cell_far (p := ⟨gb101, _, none⟩) NB102_101.out _).trans (((cell_far (p := ⟨gb101, _, none⟩) NB102_101.out _).trans (((cell_far (p := ⟨gb101, _, none⟩) NB102_101.out _).trans (((cell_far (p := ⟨gb101, _, none⟩) NB102_101.out _).trans (((cell_far (p := ⟨gb101, _, none⟩) NB102_101.out _).trans (((cell_far (p := ⟨gb101, _, none⟩) NB102_101.out _).trans (((cell_far (p := ⟨gb101, _, none⟩) NB102_101.out _).trans (hHeld.2))))))))))))))))⟩ (fun hHeld => ?_)
       clear hK K
       refine pk_ (i := 6) (N := some 3) (bs 7 127) rfl rfl ?_
       refine done_ (by kernel_rfl) ?_
       try go_wp2
       refine bodyPost_ret (results_ct rfl _ _ gb101 37 #[.string (⟨#[]⟩ : ByteArray), .int .i64 0, .string (⟨#[]⟩ : ByteArray), .string (⟨#[]⟩ : ByteArray), .string (⟨#[]⟩ : ByteArray), .int .i64 0, .int .i64 0, .string (⟨#[]⟩ : ByteArray)] (0, 0) _ rfl (by have b_ := BK101; exact zb_) Tryz.underlying37 rfl (by kernel_rfl)) rfl ?_
       exact ⟨z4_, hs_⟩
     ·rw [if_neg c33] at H
      have c33b0 := beq_eq_false_iff_ne.mpr c33
      have c33b1 := bne_iff_ne.mpr c33
      simp only [Option.some.injEq, Prod.mk.injEq] at H
      obtain ⟨rfl, rfl, rfl, rfl, rfl, rfl, rfl, rfl, rfl⟩ := H
      have hnb62 := NB102_101.out
      have hnc62 := NB101_102.out
      have hnb63 := NB102_106.out
      have hnc63 := NB106_102.out
      obtain ⟨hcz64_0, hcz64_1, hfz64_0, hfz64_1⟩ := bc2 BK102.out
      have hnb65 := NB106_101.out
      have hnc65 := NB101_106.out
      obtain ⟨hcz66_0, hcz66_1, hcz66_2, hcz66_3, hcz66_4, hcz66_5, hcz66_6, hcz66_7, hfz66_0, hfz66_1, hfz66_2, hfz66_3, hfz66_4, hfz66_5, hfz66_6, hfz66_7⟩ := bc8 BK106.out
      try go_wp2
      have n0_ : Aside0 ((wc.setCell ⟨gb106, 7, none⟩ (.string x103000_21)).heap[gb101]? = some (.cells #[.string (⟨#[]⟩ : ByteArray), .int .i64 0, .string (⟨#[]⟩ : ByteArray), .string (⟨#[]⟩ : ByteArray), .string (⟨#[]⟩ : ByteArray), .int .i64 0, .int .i64 0, .string (⟨#[]⟩ : ByteArray)] 37 (0, 0))) := ⟨by have b_ := BK101; have f_ := NB101_106; exact zb_⟩
      have n1_ : Aside0 ((wc.setCell ⟨gb106, 7, none⟩ (.string x103000_21)).heap[gb102]? = some (.cells #[.string x103000_21, .int .i64 x103001_21] 87 (0, 0))) := ⟨by have b_ := BK102; have f_ := NB102_106; exact zb_⟩
      have n2_ : Aside0 ((wc.setCell ⟨gb106, 7, none⟩ (.string x103000_21)).heap[gb106]? = some (.cells #[.string t103, .int .i64 t110, .string t113, .string t116, .string t117, .int .i64 t118, .int .i64 t119, .string x103000_21] 37 (0, 0))) := ⟨by have b_ := BK106; exact zb_⟩
      have n3_ : Aside0 (Below w.heap.size w (wc.setCell ⟨gb106, 7, none⟩ (.string x103000_21))) := ⟨hs_⟩
      (try clear BK101)
      (try clear BK102)
      (try clear BK106)
      (try clear HB)
      generalize (wc.setCell ⟨gb106, 7, none⟩ (.string x103000_21)) = w67 at n0_ n1_ n2_ n3_ ⊢
      have BK101 := n0_
      have BK102 := n1_
      have BK106 := n2_
      have HB := n3_
      clear n0_ n1_ n2_ n3_
      replace BK101 := Aside0.mk (blk_drew BK101.out)
      replace BK102 := Aside0.mk (blk_drew BK102.out)
      replace BK106 := Aside0.mk (blk_drew BK106.out)
      replace HB := Aside0.mk (below_drew1 HB.out)
      refine start_ (n := 7) (S := fun w' => w'.cell? ⟨gb102, 0, none⟩ = some (.string x103000_21) ∧ w'.cell? ⟨gb102, 1, none⟩ = some (.int .i64 x103001_21)) (ds := []) (bs 7 0) (by kernel_rfl) rfl rfl ⟨(blk_cell BK102.out 0).trans rfl, (blk_cell BK102.out 1).trans rfl⟩ (fun hHeld => ?_)
      generalize w67.drew = w68 at BK101 BK102 BK106 HB hHeld ⊢
      refine pk_ (i := 0) (N := some 52) (bs 7 1) rfl rfl ?_
      refine pk_ (i := 1) (N := some 53) (bs 7 3) rfl rfl ?_
      refine pk_ (i := 2) (N := some 54) (bs 7 7) rfl rfl ?_
      refine pk_ (i := 3) (N := some 55) (bs 7 15) rfl rfl ?_
      refine tkK2_ (i := 4) (N := some 56) (bs 7 31) rfl rfl hHeld ?_
      refine one_ (i := 5) (N := none) (bs 7 63) rfl rfl (by kernel_rfl) (by decide) (fun K hK => ?_)
      have hs69 : w68.cell? ⟨gb101, 0, none⟩ = some (.string (⟨#[]⟩ : ByteArray)) := (blk_cell BK101.out 0).trans rfl
      have hfs69 := blk_frozen BK101.out 0
      have hns69_1 := NB102_101.out
      have hns69_2 := NB106_101.out
      have hms69_1 := NB101_102.out
      have hms69_2 := NB101_106.out
      have hs70 : w68.cell? ⟨gb101, 1, none⟩ = some (.int .i64 0) := (blk_cell BK101.out 1).trans rfl
      have hfs70 := blk_frozen BK101.out 1
      have hns70_1 := NB102_101.out
      have hns70_2 := NB106_101.out
      have hms70_1 := NB101_102.out
      have hms70_2 := NB101_106.out
      have hs71 : w68.cell? ⟨gb101, 2, none⟩ = some (.string (⟨#[]⟩ : ByteArray)) := (blk_cell BK101.out 2).trans rfl
      have hfs71 := blk_frozen BK101.out 2
      have hns71_1 := NB102_101.out
      have hns71_2 := NB106_101.out
      have hms71_1 := NB101_102.out
      have hms71_2 := NB101_106.out
      have hs72 : w68.cell? ⟨gb101, 3, none⟩ = some (.string (⟨#[]⟩ : ByteArray)) := (blk_cell BK101.out 3).trans rfl
      have hfs72 := blk_frozen BK101.out 3
      have hns72_1 := NB102_101.out
      have hns72_2 := NB106_101.out
      have hms72_1 := NB101_102.out
      have hms72_2 := NB101_106.out
      have hs73 : w68.cell? ⟨gb101, 4, none⟩ = some (.string (⟨#[]⟩ : ByteArray)) := (blk_cell BK101.out 4).trans rfl
      have hfs73 := blk_frozen BK101.out 4
      have hns73_1 := NB102_101.out
      have hns73_2 := NB106_101.out
      have hms73_1 := NB101_102.out
      have hms73_2 := NB101_106.out
      have hs74 : w68.cell? ⟨gb101, 5, none⟩ = some (.int .i64 0) := (blk_cell BK101.out 5).trans rfl
      have hfs74 := blk_frozen BK101.out 5
      have hns74_1 := NB102_101.out
      have hns74_2 := NB106_101.out
      have hms74_1 := NB101_102.out
      have hms74_2 := NB101_106.out
      have hs75 : w68.cell? ⟨gb101, 6, none⟩ = some (.int .i64 0) := (blk_cell BK101.out 6).trans rfl
      have hfs75 := blk_frozen BK101.out 6
      have hns75_1 := NB102_101.out
      have hns75_2 := NB106_101.out
      have hms75_1 := NB101_102.out
      have hms75_2 := NB101_106.out
      have hs76 : w68.cell? ⟨gb101, 7, none⟩ = some (.string (⟨#[]⟩ : ByteArray)) := (blk_cell BK101.out 7).trans rfl
      have hfs76 := blk_frozen BK101.out 7
      have hns76_1 := NB102_101.out
      have hns76_2 := NB106_101.out
      have hms76_1 := NB101_102.out
      have hms76_2 := NB101_106.out
      refine skip_ (w1 := ?_) (by rfl) rfl ?_ ?_
      rotate_left
      ·go_simp
       rfl
      refine hK.out _ _ ⟨((cell_far (p := ⟨gb101, _, none⟩) NB102_101.out _).trans (((cell_far (p := ⟨gb101, _, none⟩) NB102_101.out _).trans (((cell_far (p := ⟨gb101, _, none⟩) NB102_101.out _).trans (((cell_far (p := ⟨gb101, _, none⟩) NB102_101.out _).trans (((cell_far (p := ⟨gb101, _, none⟩) NB102_101.out _).trans (((cell_far (p := ⟨gb101, _, none⟩) NB102_101.out _).trans (((cell_far (p := ⟨gb101, _, none⟩) NB102_101.out _).trans (((cell_far (p := ⟨gb101, _, none⟩) NB102_101.out _).trans (hHeld.1)))))))))))))))), ((cell_far (p := ⟨gb101, _, none⟩) NB102_101.out _).trans (((cell_far (p := ⟨gb101, _, none⟩) NB102_101.out _).trans (((cell_far (p := ⟨gb101, _, none⟩) NB102_101.out _).trans (((cell_far (p := ⟨gb101, _, none⟩) NB102_101.out _).trans (((cell_far (p := ⟨gb101, _, none⟩) NB102_101.out _).trans (((cell_far (p := ⟨gb101, _, none⟩) NB102_101.out _).trans (((cell_far (p := ⟨gb101, _, none⟩) NB102_101.out _).trans (((cell_far (p := ⟨gb101, _, none⟩) NB102_101.out _).trans (hHeld.2))))))))))))))))⟩ (fun hHeld => ?_)
      clear hK K
      refine pk_ (i := 6) (N := some 3) (bs 7 127) rfl rfl ?_
      refine done_ (by kernel_rfl) ?_
      try go_wp2
      refine bodyPost_ret (results_ct rfl _ _ gb101 37 #[.string (⟨#[]⟩ : ByteArray), .int .i64 0, .string (⟨#[]⟩ : ByteArray), .string (⟨#[]⟩ : ByteArray), .string (⟨#[]⟩ : ByteArray), .int .i64 0, .int .i64 0, .string (⟨#[]⟩ : ByteArray)] (0, 0) _ rfl (by have b_ := BK101; exact zb_) Tryz.underlying37 rfl (by kernel_rfl)) rfl ?_
      exact ⟨z4_, hs_⟩


def commit_Whole.f (k : Nat) (a0_0 : Int) (a0_1 : ByteArray) : Option (Int) := (object_Bytes.f a0_0 a0_1).bind fun bt102 => (if bt102.2 = 0 then (if a0_0 = 2 then ((tree_Parse.f k a0_1).bind fun bt104 => (some bt104.2)) else (if a0_0 = 3 then ((commit_Parse.f k a0_1).bind fun bt108 => (some bt108.2.2.2.2.2.2.2.2.2.2.2)) else (if a0_0 = 4 then ((commit_ParseTag.f k a0_1).bind fun bt122 => (some bt122.2.2.2.2.2.2.2.2)) else (some bt102.2)))) else (some bt102.2))
theorem commit_Whole.mono : ∀ a0 a1 k, LeO (commit_Whole.f k a0 a1) (commit_Whole.f (k + 1) a0 a1) := by
 intro a0 a1 k
 unfold commit_Whole.f
 have m0_ := @commit_Parse.mono
 have m1_ := @commit_ParseTag.mono
 have m2_ := @tree_Parse.mono
 exact mz_
set_option maxHeartbeats 8000000 in
set_option maxRecDepth 100000 in
theorem commit_Whole.calls (k : Nat) (a0_0 : Int) (a0_1 : ByteArray) (r : Int) (w : World) (hgv : GV w) (h : commit_Whole.f k a0_0 a0_1 = some r) :
  Calls Tryz.prog 36 #[.agg #[.int .i64 a0_0, .string a0_1]] w fun e w' => e = .returned (.int .i64 r) ∧ Below w.heap.size w w' := by
 have hu50 := Tryz.underlying50
 have HB := Aside0.mk (Below.refl w.heap.size w)
 have H : ((object_Bytes.f a0_0 a0_1).bind fun bt102 => (if bt102.2 = 0 then (if a0_0 = 2 then ((tree_Parse.f k a0_1).bind fun bt104 => (some bt104.2)) else (if a0_0 = 3 then ((commit_Parse.f k a0_1).bind fun bt108 => (some bt108.2.2.2.2.2.2.2.2.2.2.2)) else (if a0_0 = 4 then ((commit_ParseTag.f k a0_1).bind fun bt122 => (some bt122.2.2.2.2.2.2.2.2)) else (some bt102.2)))) else (some bt102.2))) = some r := h
 clear h
 replace H := Option.bind_eq_some_iff.mp H
 obtain ⟨⟨t102, t103⟩, A20, H⟩ := H
 replace H : (if t103 = 0 then (if a0_0 = 2 then ((tree_Parse.f k a0_1).bind fun bt104 => (some bt104.2)) else (if a0_0 = 3 then ((commit_Parse.f k a0_1).bind fun bt108 => (some bt108.2.2.2.2.2.2.2.2.2.2.2)) else (if a0_0 = 4 then ((commit_ParseTag.f k a0_1).bind fun bt122 => (some bt122.2.2.2.2.2.2.2.2)) else (some t103)))) else (some t103)) = some r := H
 have A2 := Aside0.mk A20
 clear A20
 by_cases c3 : t103 = 0
 ·rw [if_pos c3] at H
  have c3b0 := beq_iff_eq.mpr c3
  have c3b1 := bne_eq_false_iff_eq.mpr c3
  clear c3
  by_cases c4 : a0_0 = 2
  ·rw [if_pos c4] at H
   have c4b0 := beq_iff_eq.mpr c4
   have c4b1 := bne_eq_false_iff_eq.mpr c4
   clear c4
   replace H := Option.bind_eq_some_iff.mp H
   obtain ⟨⟨t104, t105⟩, A50, H⟩ := H
   replace H : (some t105) = some r := H
   have A5 := Aside0.mk A50
   clear A50
   obtain rfl := Option.some.inj H
   go_enter Tryz.func36, Tryz.ntmps36
   go_wp2_with (first | ((with_reducible refine gate_dst (N := 1) rfl ?_); refine be_ (cs := #[.int .i64 a0_0, .string a0_1]) (t := 50) ?_; intro gb101 hg w6 hbox hb; have BK101 := Aside0.mk (hbox); have GW101 := Aside0.mk (gw_ hg HB.out); have GE101 := Aside0.mk (gw_ hg HB.out); replace HB := Aside0.mk (below_step (hb_ HB.out) hb); clear hb hbox hg; obtain ⟨hcz7_0, hcz7_1, hfz7_0, hfz7_1⟩ := bc2 BK101.out) | ((with_reducible refine gate_callee (f := 97) rfl ?_); refine goesL_ (some 7) rfl rfl Tryz.func97 (by kernel_rfl) rfl #[.agg #[.int .i64 a0_0, .string a0_1]] rfl z2_ ?_; (with_reducible refine (object_Bytes.calls a0_0 a0_1 t102 t103 _ ?side1 A2.out).mono ?_); (case side1 => exact GV.below hgv (hs_)); rintro e w8 ⟨rfl, hb⟩; refine ⟨_, rfl, ?_⟩; replace BK101 := Aside0.mk (bb_ BK101.out hb); replace HB := Aside0.mk (below_step (hs_) hb); (try clear hb); (try clear hb2); (try clear hk); (try clear hi); obtain ⟨hcz9_0, hcz9_1, hfz9_0, hfz9_1⟩ := bc2 BK101.out) | ((with_reducible refine gate_callee (f := 94) rfl ?_); refine goesL_ (some 20) rfl rfl Tryz.func94 (by kernel_rfl) rfl #[.string a0_1] rfl z2_ ?_; (with_reducible refine (tree_Parse.calls k a0_1 t104 t105 _ ?side1 A5.out).mono ?_); (case side1 => exact GV.below hgv (hs_)); rintro e w10 ⟨v106, rfl, ho0, hb⟩; refine ⟨_, rfl, ?_⟩; have HO107 := Aside0.mk (Kd.R_lower ho0 (below_size (hs_))); replace BK101 := Aside0.mk (bb_ BK101.out hb); replace HB := Aside0.mk (below_step (hs_) hb); (try clear hb); (try clear hb2); (try clear hk); (try clear hi); (try clear ho0)))
   go_ret
   exact ⟨z4_, hs_⟩
  ·rw [if_neg c4] at H
   have c4b0 := beq_eq_false_iff_ne.mpr c4
   have c4b1 := bne_iff_ne.mpr c4
   by_cases c11 : a0_0 = 3
   ·rw [if_pos c11] at H
    have c11b0 := beq_iff_eq.mpr c11
    have c11b1 := bne_eq_false_iff_eq.mpr c11
    clear c11
    replace H := Option.bind_eq_some_iff.mp H
    obtain ⟨⟨t108, t109, t112, t113, t114, t115, t116, t117, t118, t119, t120, t121⟩, A120, H⟩ := H
    replace H : (some t121) = some r := H
    have A12 := Aside0.mk A120
    clear A120
    obtain rfl := Option.some.inj H
    go_enter Tryz.func36, Tryz.ntmps36
    go_wp2_with (first | ((with_reducible refine gate_dst (N := 1) rfl ?_); refine be_ (cs := #[.int .i64 a0_0, .string a0_1]) (t := 50) ?_; intro gb101 hg w13 hbox hb; have BK101 := Aside0.mk (hbox); have GW101 := Aside0.mk (gw_ hg HB.out); have GE101 := Aside0.mk (gw_ hg HB.out); replace HB := Aside0.mk (below_step (hb_ HB.out) hb); clear hb hbox hg; obtain ⟨hcz14_0, hcz14_1, hfz14_0, hfz14_1⟩ := bc2 BK101.out) | ((with_reducible refine gate_callee (f := 97) rfl ?_); refine goesL_ (some 7) rfl rfl Tryz.func97 (by kernel_rfl) rfl #[.agg #[.int .i64 a0_0, .string a0_1]] rfl z2_ ?_; (with_reducible refine (object_Bytes.calls a0_0 a0_1 t102 t103 _ ?side1 A2.out).mono ?_); (case side1 => exact GV.below hgv (hs_)); rintro e w15 ⟨rfl, hb⟩; refine ⟨_, rfl, ?_⟩; replace BK101 := Aside0.mk (bb_ BK101.out hb); replace HB := Aside0.mk (below_step (hs_) hb); (try clear hb); (try clear hb2); (try clear hk); (try clear hi); obtain ⟨hcz16_0, hcz16_1, hfz16_0, hfz16_1⟩ := bc2 BK101.out) | ((with_reducible refine gate_callee (f := 20) rfl ?_); refine goesL_ (some 28) rfl rfl Tryz.func20 (by kernel_rfl) rfl #[.string a0_1] rfl z2_ ?_; (with_reducible refine (commit_Parse.calls k a0_1 t108 t109 t112 t113 t114 t115 t116 t117 t118 t119 t120 t121 _ ?side1 A12.out).mono ?_); (case side1 => exact GV.below hgv (hs_)); rintro e w17 ⟨v110, rfl, ho0, hb⟩; refine ⟨_, rfl, ?_⟩; have HO111 := Aside0.mk (Kd.R_lower ho0 (below_size (hs_))); replace BK101 := Aside0.mk (bb_ BK101.out hb); replace HB := Aside0.mk (below_step (hs_) hb); (try clear hb); (try clear hb2); (try clear hk); (try clear hi); (try clear ho0)))
    go_ret
    exact ⟨z4_, hs_⟩
   ·rw [if_neg c11] at H
    have c11b0 := beq_eq_false_iff_ne.mpr c11
    have c11b1 := bne_iff_ne.mpr c11
    by_cases c18 : a0_0 = 4
    ·rw [if_pos c18] at H
     have c18b0 := beq_iff_eq.mpr c18
     have c18b1 := bne_eq_false_iff_eq.mpr c18
     clear c18
     replace H := Option.bind_eq_some_iff.mp H
     obtain ⟨⟨t122, t123, t124, t125, t126, t127, t128, t129, t130⟩, A190, H⟩ := H
     replace H : (some t130) = some r := H
     have A19 := Aside0.mk A190
     clear A190
     obtain rfl := Option.some.inj H
     go_enter Tryz.func36, Tryz.ntmps36
     go_wp2_with (first | ((with_reducible refine gate_dst (N := 1) rfl ?_); refine be_ (cs := #[.int .i64 a0_0, .string a0_1]) (t := 50) ?_; intro gb101 hg w20 hbox hb; have BK101 := Aside0.mk (hbox); have GW101 := Aside0.mk (gw_ hg HB.out); have GE101 := Aside0.mk (gw_ hg HB.out); replace HB := Aside0.mk (below_step (hb_ HB.out) hb); clear hb hbox hg; obtain ⟨hcz21_0, hcz21_1, hfz21_0, hfz21_1⟩ := bc2 BK101.out) | ((with_reducible refine gate_callee (f := 97) rfl ?_); refine goesL_ (some 7) rfl rfl Tryz.func97 (by kernel_rfl) rfl #[.agg #[.int .i64 a0_0, .string a0_1]] rfl z2_ ?_; (with_reducible refine (object_Bytes.calls a0_0 a0_1 t102 t103 _ ?side1 A2.out).mono ?_); (case side1 => exact GV.below hgv (hs_)); rintro e w22 ⟨rfl, hb⟩; refine ⟨_, rfl, ?_⟩; replace BK101 := Aside0.mk (bb_ BK101.out hb); replace HB := Aside0.mk (below_step (hs_) hb); (try clear hb); (try clear hb2); (try clear hk); (try clear hi); obtain ⟨hcz23_0, hcz23_1, hfz23_0, hfz23_1⟩ := bc2 BK101.out) | ((with_reducible refine gate_callee (f := 23) rfl ?_); refine goesL_ (some 36) rfl rfl Tryz.func23 (by kernel_rfl) rfl #[.string a0_1] rfl z2_ ?_; (with_reducible refine (commit_ParseTag.calls k a0_1 t122 t123 t124 t125 t126 t127 t128 t129 t130 _ ?side1 A19.out).mono ?_); (case side1 => exact GV.below hgv (hs_)); rintro e w24 ⟨rfl, hb⟩; refine ⟨_, rfl, ?_⟩; replace BK101 := Aside0.mk (bb_ BK101.out hb); replace HB := Aside0.mk (below_step (hs_) hb); (try clear hb); (try clear hb2); (try clear hk); (try clear hi)))
     go_ret
     exact ⟨z4_, hs_⟩
    ·rw [if_neg c18] at H
     have c18b0 := beq_eq_false_iff_ne.mpr c18
     have c18b1 := bne_iff_ne.mpr c18
     obtain rfl := Option.some.inj H
     go_enter Tryz.func36, Tryz.ntmps36
     go_wp2_with (first | ((with_reducible refine gate_dst (N := 1) rfl ?_); refine be_ (cs := #[.int .i64 a0_0, .string a0_1]) (t := 50) ?_; intro gb101 hg w25 hbox hb; have BK101 := Aside0.mk (hbox); have GW101 := Aside0.mk (gw_ hg HB.out); have GE101 := Aside0.mk (gw_ hg HB.out); replace HB := Aside0.mk (below_step (hb_ HB.out) hb); clear hb hbox hg; obtain ⟨hcz26_0, hcz26_1, hfz26_0, hfz26_1⟩ := bc2 BK101.out) | ((with_reducible refine gate_callee (f := 97) rfl ?_); refine goesL_ (some 7) rfl rfl Tryz.func97 (by kernel_rfl) rfl #[.agg #[.int .i64 a0_0, .string a0_1]] rfl z2_ ?_; (with_reducible refine (object_Bytes.calls a0_0 a0_1 t102 t103 _ ?side1 A2.out).mono ?_); (case side1 => exact GV.below hgv (hs_)); rintro e w27 ⟨rfl, hb⟩; refine ⟨_, rfl, ?_⟩; replace BK101 := Aside0.mk (bb_ BK101.out hb); replace HB := Aside0.mk (below_step (hs_) hb); (try clear hb); (try clear hb2); (try clear hk); (try clear hi); obtain ⟨hcz28_0, hcz28_1, hfz28_0, hfz28_1⟩ := bc2 BK101.out))
     go_ret
     exact ⟨z4_, hs_⟩
 ·rw [if_neg c3] at H
  have c3b0 := beq_eq_false_iff_ne.mpr c3
  have c3b1 := bne_iff_ne.mpr c3
  obtain rfl := Option.some.inj H
  go_enter Tryz.func36, Tryz.ntmps36
  go_wp2_with (first | ((with_reducible refine gate_dst (N := 1) rfl ?_); refine be_ (cs := #[.int .i64 a0_0, .string a0_1]) (t := 50) ?_; intro gb101 hg w29 hbox hb; have BK101 := Aside0.mk (hbox); have GW101 := Aside0.mk (gw_ hg HB.out); have GE101 := Aside0.mk (gw_ hg HB.out); replace HB := Aside0.mk (below_step (hb_ HB.out) hb); clear hb hbox hg; obtain ⟨hcz30_0, hcz30_1, hfz30_0, hfz30_1⟩ := bc2 BK101.out) | ((with_reducible refine gate_callee (f := 97) rfl ?_); refine goesL_ (some 7) rfl rfl Tryz.func97 (by kernel_rfl) rfl #[.agg #[.int .i64 a0_0, .string a0_1]] rfl z2_ ?_; (with_reducible refine (object_Bytes.calls a0_0 a0_1 t102 t103 _ ?side1 A2.out).mono ?_); (case side1 => exact GV.below hgv (hs_)); rintro e w31 ⟨rfl, hb⟩; refine ⟨_, rfl, ?_⟩; replace BK101 := Aside0.mk (bb_ BK101.out hb); replace HB := Aside0.mk (below_step (hs_) hb); (try clear hb); (try clear hb2); (try clear hk); (try clear hi)))
  go_ret
  exact ⟨z4_, hs_⟩


def slices_Index_string_string.l0 : Nat → List ByteArray → ByteArray → Int → Int → Option (Int)
 | 0, _, _, _, _ => none
 | k + 1, x0, x1, x7, x8 => if x8 < x7 then (if 0 ≤ x8 then (if x8 < (x0.length : Int) then (if x1.toList = (rdOf ByteArray.empty x0 x8).toList then (some x8) else (slices_Index_string_string.l0 k x0 x1 x7 (wrap64 (x8 + 1)))) else (none)) else (none)) else (some (-1))
def slices_Index_string_string.f (k : Nat) (l0 : List ByteArray) (a1 : ByteArray) : Option (Int) := slices_Index_string_string.l0 k l0 a1 (l0.length : Int) 0
theorem slices_Index_string_string.mono_l : ∀ k, (∀ y0 y1 y2 y3, LeO (slices_Index_string_string.l0 k y0 y1 y2 y3) (slices_Index_string_string.l0 (k + 1) y0 y1 y2 y3))
 | 0 => fun _ _ _ _ r h => by simp [slices_Index_string_string.l0] at h
 | k + 1 => by
  have ih0 := slices_Index_string_string.mono_l k
  ·intro y0 y1 y2 y3
   unfold slices_Index_string_string.l0
   have m0_ := @ih0
   exact mz_
theorem slices_Index_string_string.mono : ∀ a0 a1 k, LeO (slices_Index_string_string.f k a0 a1) (slices_Index_string_string.f (k + 1) a0 a1) := by
 intro a0 a1 k
 have ih0 := slices_Index_string_string.mono_l k
 unfold slices_Index_string_string.f
 have m0_ := @ih0
 exact mz_
set_option maxHeartbeats 8000000 in
set_option maxRecDepth 100000 in
theorem slices_Index_string_string.calls (k : Nat) (A0 : Option Addr) (c0 : Nat) (l0 : List ByteArray) (a1 : ByteArray) (r : Int) (w : World) (hr0 : Kd.C Kd.string w A0 l0.length l0) (hc0 : l0.length ≤ c0) (h : slices_Index_string_string.f k l0 a1 = some r) :
  Calls Tryz.prog 151 #[.slice A0 l0.length c0, .string a1] w fun e w' => e = .returned (.int .i64 r) ∧ Drawn0 w w' := by
 have HR0 := Aside0.mk hr0
 have HC0 := Aside0.mk hc0
 clear hr0 hc0
 have H : (slices_Index_string_string.l0 k l0 a1 (l0.length : Int) 0) = some r := h
 clear h
 have H' := Aside0.mk H
 clear H
 go_enter Tryz.func151, Tryz.ntmps151
 go_wp2
 go_loopg [8] k (fun kq v8 w' => ∃ (x8_1 : Int), v8 = .int .i64 x8_1 ∧ Aside0 (slices_Index_string_string.l0 kq l0 a1 (l0.length : Int) x8_1 = some r) ∧ Aside0 (kq ≤ k) ∧ Drawn0 w w')
 case atStart => exact ⟨(0), z1_, H', ⟨Nat.le_refl _⟩, z3_⟩
 case round =>
  clear H'
  try clear c1
  try clear p2
  obtain ⟨x8_1, rfl, HA, HK1, ⟨m1, rfl⟩⟩ := hrel
  cases gk with
  | zero => exact absurd HA.out (by simp [slices_Index_string_string.l0])
  | succ k1 =>
   have H := HA.out
   clear HA
   simp only [slices_Index_string_string.l0] at H
   by_cases c3 : x8_1 < (l0.length : Int)
   ·rw [if_pos c3] at H
    have c3b0 := decide_eq_true c3
    clear c3
    by_cases c4 : 0 ≤ x8_1
    ·rw [if_pos c4] at H
     have c4b0 := decide_eq_true c4
     clear c4
     by_cases c5 : x8_1 < (l0.length : Int)
     ·rw [if_pos c5] at H
      have c5b0 := decide_eq_true c5
      clear c5
      by_cases c6 : a1.toList = (rdOf ByteArray.empty l0 x8_1).toList
      ·rw [if_pos c6] at H
       have c6b0 := beq_iff_eq.mpr c6
       have c6b1 := bne_eq_false_iff_eq.mpr c6
       clear c6
       obtain rfl := Option.some.inj H
       have p190 : 0 ≤ (x8_1 : Int) := of_decide_eq_true z0_
       have q190 : x8_1 < (l0.length : Int) := of_decide_eq_true z0_
       obtain ⟨ad190, e190, hx190_0⟩ := Kd.at_string HR0.out x8_1 p190 q190
       cases e190
       replace p190 := eq_true p190
       replace q190 := eq_true q190
       go_wp2
       go_ret
       exact ⟨z1_, z3_⟩
      ·rw [if_neg c6] at H
       have c6b0 := beq_eq_false_iff_ne.mpr c6
       have c6b1 := bne_iff_ne.mpr c6
       have H' := Aside0.mk H
       clear H
       have p190 : 0 ≤ (x8_1 : Int) := of_decide_eq_true z0_
       have q190 : x8_1 < (l0.length : Int) := of_decide_eq_true z0_
       obtain ⟨ad190, e190, hx190_0⟩ := Kd.at_string HR0.out x8_1 p190 q190
       cases e190
       replace p190 := eq_true p190
       replace q190 := eq_true q190
       go_wp2
       go_roundg k1
       case measure => have := HK1.out; omega
       case rel => exact ⟨(wrap64 (x8_1 + 1)), z1_, H', ⟨by have := HK1.out; omega⟩, z3_⟩
     ·rw [if_neg c5] at H
      exact absurd H (by simp)
    ·rw [if_neg c4] at H
     exact absurd H (by simp)
   ·rw [if_neg c3] at H
    have c3b0 := decide_eq_false c3
    clear c3
    obtain rfl := Option.some.inj H
    go_wp2
    go_ret
    exact ⟨z1_, z3_⟩


def slices_Contains_string_string.f (k : Nat) (l0 : List ByteArray) (a1 : ByteArray) : Option (Bool) := (slices_Index_string_string.f k l0 a1).bind fun t191 => (some (decide (t191 ≥ 0)))
theorem slices_Contains_string_string.mono : ∀ a0 a1 k, LeO (slices_Contains_string_string.f k a0 a1) (slices_Contains_string_string.f (k + 1) a0 a1) := by
 intro a0 a1 k
 unfold slices_Contains_string_string.f
 have m0_ := @slices_Index_string_string.mono
 exact mz_
set_option maxHeartbeats 8000000 in
set_option maxRecDepth 100000 in
theorem slices_Contains_string_string.calls (k : Nat) (A0 : Option Addr) (c0 : Nat) (l0 : List ByteArray) (a1 : ByteArray) (r : Bool) (w : World) (hr0 : Kd.C Kd.string w A0 l0.length l0) (hc0 : l0.length ≤ c0) (h : slices_Contains_string_string.f k l0 a1 = some r) :
  Calls Tryz.prog 95 #[.slice A0 l0.length c0, .string a1] w fun e w' => e = .returned (.bool r) ∧ Drawn0 w w' := by
 have HR0 := Aside0.mk hr0
 have HC0 := Aside0.mk hc0
 clear hr0 hc0
 have H : ((slices_Index_string_string.f k l0 a1).bind fun t191 => (some (decide (t191 ≥ 0)))) = some r := h
 clear h
 replace H := Option.bind_eq_some_iff.mp H
 obtain ⟨t191, A30, H⟩ := H
 have A3 := Aside0.mk A30
 clear A30
 obtain rfl := Option.some.inj H
 go_enter Tryz.func95, Tryz.ntmps95
 go_wp2_with (first | ((with_reducible refine gate_callee (f := 151) rfl ?_); refine goesL_ (some 7) rfl rfl Tryz.func151 (by kernel_rfl) rfl #[.slice A0 l0.length c0, .string a1] rfl z2_ ?_; (with_reducible refine (slices_Index_string_string.calls k _ _ l0 a1 t191 _ ?side1 ?side2 A3.out).mono ?_); (case side1 => repeat (first | exact HR0.out | (with_reducible refine Kd.C_alloc ?_ _) | (with_reducible refine Kd.C_drewN ?_ _) | (with_reducible refine Kd.C_drew ?_))); (case side2 => exact HC0.out); rintro e w' ⟨rfl, ⟨nd, rfl⟩⟩; refine ⟨_, rfl, ?_⟩))
 go_ret
 exact ⟨z1_, z3_⟩


mutual
def commit_Links.j1 : Nat → List ByteArray → Option (List ByteArray × Int)
 | 0, _ => none
 | k + 1, x5 => commit_Links.l1 k ([] : List ByteArray) x5 (x5.length : Int) 0
def commit_Links.l1 : Nat → List ByteArray → List ByteArray → Int → Int → Option (List ByteArray × Int)
 | 0, _, _, _, _ => none
 | k + 1, x14, x69, x70, x71 => if x71 < x70 then (if 0 ≤ x71 then (if x71 < (x69.length : Int) then ((slices_Contains_string_string.f k x14 (rdOf ByteArray.empty x69 x71)).bind fun t147 => (if t147 = true then (commit_Links.l1 k x14 x69 x70 (wrap64 (x71 + 1))) else (if x14.length < 8796093022208 then (commit_Links.l1 k (x14 ++ [rdOf ByteArray.empty x69 x71]) x69 x70 (wrap64 (x71 + 1))) else (none)))) else (none)) else (none)) else (some (x14, 0))
def commit_Links.l0 : Nat → List ByteArray → List (S108) → Int → Int → Option (List ByteArray × Int)
 | 0, _, _, _, _ => none
 | k + 1, x5, x32, x33, x34 => if x34 < x33 then (if 0 ≤ x34 then (if x34 < (x32.length : Int) then (if x5.length < 8796093022208 then (commit_Links.l0 k (x5 ++ [(rd_T108 x32 x34).f2]) x32 x33 (wrap64 (x34 + 1))) else (none)) else (none)) else (none)) else (commit_Links.j1 k x5)
end
def commit_Links.f (k : Nat) (a0_0 : Int) (a0_1 : ByteArray) : Option (List ByteArray × Int) := (commit_Whole.f k a0_0 a0_1).bind fun t102 => (if t102 = 0 then (if a0_0 = 2 then ((tree_Parse.f k a0_1).bind fun bt103 => (commit_Links.l0 k ([] : List ByteArray) bt103.1 (bt103.1.length : Int) 0)) else (if a0_0 = 3 then ((commit_Parse.f k a0_1).bind fun bt112 => ((some (([bt112.1] : List ByteArray) : List ByteArray)).bind fun y127 => (if y127.length + bt112.2.1.length < 8796093022208 then (commit_Links.j1 k (y127 ++ bt112.2.1)) else (none)))) else (if a0_0 = 4 then ((commit_ParseTag.f k a0_1).bind fun bt133 => (commit_Links.j1 k (([bt133.1] : List ByteArray)))) else (commit_Links.j1 k ([] : List ByteArray))))) else (some (([] : List ByteArray), t102)))
theorem commit_Links.mono_l : ∀ k, (∀ y0, LeO (commit_Links.j1 k y0) (commit_Links.j1 (k + 1) y0)) ∧ (∀ y0 y1 y2 y3, LeO (commit_Links.l1 k y0 y1 y2 y3) (commit_Links.l1 (k + 1) y0 y1 y2 y3)) ∧ (∀ y0 y1 y2 y3, LeO (commit_Links.l0 k y0 y1 y2 y3) (commit_Links.l0 (k + 1) y0 y1 y2 y3))
 | 0 => ⟨fun _ r h => by simp [commit_Links.j1] at h, fun _ _ _ _ r h => by simp [commit_Links.l1] at h, fun _ _ _ _ r h => by simp [commit_Links.l0] at h⟩
 | k + 1 => by
  obtain ⟨ih0, ih1, ih2⟩ := commit_Links.mono_l k
  refine ⟨?_, ?_, ?_⟩
  ·intro y0
   unfold commit_Links.j1
   have m0_ := @ih0
   have m1_ := @ih1
   have m2_ := @ih2
   have m3_ := @commit_Parse.mono
   have m4_ := @commit_ParseTag.mono
   have m5_ := @commit_Whole.mono
   have m6_ := @slices_Contains_string_string.mono
   have m7_ := @tree_Parse.mono
   exact mz_
  ·intro y0 y1 y2 y3
   unfold commit_Links.l1
   have m0_ := @ih0
   have m1_ := @ih1
   have m2_ := @ih2
   have m3_ := @commit_Parse.mono
   have m4_ := @commit_ParseTag.mono
   have m5_ := @commit_Whole.mono
   have m6_ := @slices_Contains_string_string.mono
   have m7_ := @tree_Parse.mono
   exact mz_
  ·intro y0 y1 y2 y3
   unfold commit_Links.l0
   have m0_ := @ih0
   have m1_ := @ih1
   have m2_ := @ih2
   have m3_ := @commit_Parse.mono
   have m4_ := @commit_ParseTag.mono
   have m5_ := @commit_Whole.mono
   have m6_ := @slices_Contains_string_string.mono
   have m7_ := @tree_Parse.mono
   exact mz_
theorem commit_Links.mono : ∀ a0 a1 k, LeO (commit_Links.f k a0 a1) (commit_Links.f (k + 1) a0 a1) := by
 intro a0 a1 k
 obtain ⟨ih0, ih1, ih2⟩ := commit_Links.mono_l k
 unfold commit_Links.f
 have m0_ := @ih0
 have m1_ := @ih1
 have m2_ := @ih2
 have m3_ := @commit_Parse.mono
 have m4_ := @commit_ParseTag.mono
 have m5_ := @commit_Whole.mono
 have m6_ := @slices_Contains_string_string.mono
 have m7_ := @tree_Parse.mono
 exact mz_
set_option maxHeartbeats 8000000 in
set_option maxRecDepth 100000 in
theorem commit_Links.calls (k : Nat) (a0_0 : Int) (a0_1 : ByteArray) (r1 : List ByteArray) (r2 : Int) (w : World) (hgv : GV w) (h : commit_Links.f k a0_0 a0_1 = some (r1, r2)) :
  Calls Tryz.prog 34 #[.agg #[.int .i64 a0_0, .string a0_1]] w fun e w' => ∃ v0_ : Value, e = .returned (.tuple #[v0_, .int .i64 r2]) ∧ Kd.R Kd.string 9 w' w.heap.size (fun _ => True) v0_ r1 ∧ Below w.heap.size w w' := by
 have hu50 := Tryz.underlying50
 have hu108 := Tryz.underlying108
 have hu26 := Tryz.underlying26
 have hu37 := Tryz.underlying37
 have HB := Aside0.mk (Below.refl w.heap.size w)
 have H : ((commit_Whole.f k a0_0 a0_1).bind fun t102 => (if t102 = 0 then (if a0_0 = 2 then ((tree_Parse.f k a0_1).bind fun bt103 => (commit_Links.l0 k ([] : List ByteArray) bt103.1 (bt103.1.length : Int) 0)) else (if a0_0 = 3 then ((commit_Parse.f k a0_1).bind fun bt112 => ((some (([bt112.1] : List ByteArray) : List ByteArray)).bind fun y127 => (if y127.length + bt112.2.1.length < 8796093022208 then (commit_Links.j1 k (y127 ++ bt112.2.1)) else (none)))) else (if a0_0 = 4 then ((commit_ParseTag.f k a0_1).bind fun bt133 => (commit_Links.j1 k (([bt133.1] : List ByteArray)))) else (commit_Links.j1 k ([] : List ByteArray))))) else (some (([] : List ByteArray), t102)))) = some (r1, r2) := h
 clear h
 replace H := Option.bind_eq_some_iff.mp H
 obtain ⟨t102, A20, H⟩ := H
 have A2 := Aside0.mk A20
 clear A20
 by_cases c3 : t102 = 0
 ·rw [if_pos c3] at H
  have c3b0 := beq_iff_eq.mpr c3
  have c3b1 := bne_eq_false_iff_eq.mpr c3
  clear c3
  have HC4 := Aside0.mk H
  clear H
  go_enter Tryz.func34, Tryz.ntmps34
  go_upto_block 0 with (first | ((with_reducible refine gate_dst (N := 1) rfl ?_); refine be_ (cs := #[.int .i64 a0_0, .string a0_1]) (t := 50) ?_; intro gb101 hg w5 hbox hb; have BK101 := Aside0.mk (hbox); have GW101 := Aside0.mk (gw_ hg HB.out); have GE101 := Aside0.mk (gw_ hg HB.out); replace HB := Aside0.mk (below_step (hb_ HB.out) hb); clear hb hbox hg; obtain ⟨hcz6_0, hcz6_1, hfz6_0, hfz6_1⟩ := bc2 BK101.out) | ((with_reducible refine gate_callee (f := 36) rfl ?_); refine goesL_ (some 18) rfl rfl Tryz.func36 (by kernel_rfl) rfl #[.agg #[.int .i64 a0_0, .string a0_1]] rfl z2_ ?_; (with_reducible refine (commit_Whole.calls k a0_0 a0_1 t102 _ ?side1 A2.out).mono ?_); (case side1 => exact GV.below hgv (hs_)); rintro e w7 ⟨rfl, hb⟩; refine ⟨_, rfl, ?_⟩; replace BK101 := Aside0.mk (bb_ BK101.out hb); replace HB := Aside0.mk (below_step (hs_) hb); (try clear hb); (try clear hb2); (try clear hk); (try clear hi); obtain ⟨hcz8_0, hcz8_1, hfz8_0, hfz8_1⟩ := bc2 BK101.out))
  (try simp only [Act.put, List.setIfInBounds_toArray, List.set_cons_zero, List.set_cons_succ])
  go_cut [5] (fun v5 wc => ∃ (kq : Nat) (x5_3 : List ByteArray), Aside0 (commit_Links.j1 kq x5_3 = some (r1, r2)) ∧ Aside0 (kq ≤ k) ∧ Aside0 (Kd.R Kd.string 9 wc w.heap.size (fun _ => True) v5 x5_3) ∧ Aside0 (wc.heap[gb101]? = some (.cells #[.int .i64 a0_0, .string a0_1] 50 (0, 0))) ∧ Aside0 (Below w.heap.size w wc))
  case first =>
   have H := HC4.out
   clear HC4
   by_cases c9 : a0_0 = 2
   ·rw [if_pos c9] at H
    have c9b0 := beq_iff_eq.mpr c9
    have c9b1 := bne_eq_false_iff_eq.mpr c9
    clear c9
    (first | rw [c9b0] | (simp only [i64_w, i32_w]; rw [c9b0]) | skip)
    (try rw [c9b8])
    replace H := Option.bind_eq_some_iff.mp H
    obtain ⟨⟨t103, t104⟩, A100, H⟩ := H
    replace H : (commit_Links.l0 k ([] : List ByteArray) t103 (t103.length : Int) 0) = some (r1, r2) := H
    have A10 := Aside0.mk A100
    clear A100
    have H' := Aside0.mk H
    clear H
    obtain ⟨hcz11_0, hcz11_1, hfz11_0, hfz11_1⟩ := bc2 BK101.out
    go_wp2_with (first | ((with_reducible refine gate_callee (f := 94) rfl ?_); refine goesL_ (some 29) rfl rfl Tryz.func94 (by kernel_rfl) rfl #[.string a0_1] rfl z2_ ?_; (with_reducible refine (tree_Parse.calls k a0_1 t103 t104 _ ?side1 A10.out).mono ?_); (case side1 => exact GV.below hgv (hs_)); rintro e w12 ⟨v105, rfl, ho0, hb⟩; refine ⟨_, rfl, ?_⟩; have HO106 := Aside0.mk (Kd.R_lower ho0 (below_size (hs_))); replace BK101 := Aside0.mk (bb_ BK101.out hb); replace HB := Aside0.mk (below_step (hs_) hb); (try clear hb); (try clear hb2); (try clear hk); (try clear hi); (try clear ho0); obtain ⟨Ao13, co13, eo13⟩ := Kd.R_slice HO106.out; subst eo13))
    go_loopg [5, 34] k (fun kq v5 v34 w' => ∃ (x5_1 : List ByteArray) (x34_1 : Int), v34 = .int .i64 x34_1 ∧ Aside0 (commit_Links.l0 kq x5_1 t103 (t103.length : Int) x34_1 = some (r1, r2)) ∧ Aside0 (kq ≤ k) ∧ Aside0 (Kd.R Kd.string 9 w' w.heap.size (fun _ => True) v5 x5_1) ∧ Aside0 (Kd.R k108 108 w' w.heap.size (fun _ => True) (.slice Ao13 t103.length co13) t103) ∧ Aside0 (w'.heap[gb101]? = some (.cells #[.int .i64 a0_0, .string a0_1] 50 (0, 0))) ∧ Aside0 (Below w.heap.size w w'))
    case atStart => exact ⟨(([] : List ByteArray)), (0), z1_, H', ⟨Nat.le_refl _⟩, ⟨z6_⟩, ⟨by (with_reducible repeat (first | apply Kd.R_alloc | apply Kd.R_drewN | apply Kd.R_drew)); exact HO106.out⟩, ⟨bk_ BK101.out⟩, ⟨hs_⟩⟩
    case round =>
     clear H'
     try clear p2
     try clear c3
     try clear c3b0
     try clear c3b1
     try clear c9
     try clear c9b0
     try clear c9b1
     try clear hcz11_0 hcz11_1
     try clear hcz6_0 hcz6_1
     try clear hcz8_0 hcz8_1
     try clear hfz11_0 hfz11_1
     try clear hfz6_0 hfz6_1
     try clear hfz8_0 hfz8_1
     obtain ⟨x5_1, x34_1, rfl, HA, HK1, HO_5, HO_32, BK101, HB⟩ := hrel
     cases gk with
     | zero => exact absurd HA.out (by simp [commit_Links.l0])
     | succ k1 =>
      have H := HA.out
      clear HA
      simp only [commit_Links.l0] at H
      by_cases c14 : x34_1 < (t103.length : Int)
      ·rw [if_pos c14] at H
       have c14b0 := decide_eq_true c14
       clear c14
       by_cases c15 : 0 ≤ x34_1
       ·rw [if_pos c15] at H
        have c15b0 := decide_eq_true c15
        clear c15
        by_cases c16 : x34_1 < (t103.length : Int)
        ·rw [if_pos c16] at H
         have c16b0 := decide_eq_true c16
         clear c16
         by_cases c17 : x5_1.length < 8796093022208
         ·rw [if_pos c17] at H
          have LMc17 := Aside0.mk c17
          clear c17
          obtain ⟨y109, hy109⟩ : ∃ y_ : List ByteArray, y_ = (x5_1 ++ [(rd_T108 t103 x34_1).f2]) := ⟨_, rfl⟩
          replace H : (commit_Links.l0 k1 y109 t103 (t103.length : Int) (wrap64 (x34_1 + 1))) = some (r1, r2) := by first | (rw [hy109]; with_reducible exact H) | (have H2_ := (Option.bind_some _ _).symm.trans H; rw [hy109]; with_reducible exact H2_) | (have H2_ := (Option.bind_some _ _).symm.trans H; with_reducible exact H2_) | with_reducible exact H | (rw [hy109]; exact H) | exact H
          have Ny109 := Aside0.mk hy109
          clear hy109
          have H' := Aside0.mk H
          clear H
          have p107 : 0 ≤ (x34_1 : Int) := of_decide_eq_true z0_
          have q107 : x34_1 < (t103.length : Int) := of_decide_eq_true z0_
          obtain ⟨ad107, e107, hx107_0, hx107_1, hx107_2⟩ := at_T108 (Kd.R_reads' HO_32.out).2.2 x34_1 p107 q107
          cases e107
          replace p107 := eq_true p107
          replace q107 := eq_true q107
          go_wp2_with (first | ((with_reducible refine gate_dst (N := 9) rfl ?_); refine be_ (cs := #[.int .i64 0, .string (⟨#[]⟩ : ByteArray), .string (⟨#[]⟩ : ByteArray)]) (t := 108) ?_; intro gb108 hg w18 hbox hb; replace HO_5 := Aside0.mk (Kd.R_below (rk_ HO_5.out) hb); replace HO_32 := Aside0.mk (Kd.R_below (Kd.R_elderB (rk_ HO_32.out) gb108 (Nat.le_of_eq hg.symm)) hb); have BK108 := Aside0.mk (hbox); have GW108 := Aside0.mk ((by rw [hg]; exact (below_size (hs_)) : w.heap.size ≤ gb108)); have GE108 := Aside0.mk ((by rw [hg]; exact (below_size (hs_)) : w.heap.size ≤ gb108)); replace HB := Aside0.mk (below_step (hs_) hb); have NB101_108 := Aside0.mk (nl2_ hg BK101.out); have NB108_101 := Aside0.mk (ng2_ hg BK101.out); replace BK101 := Aside0.mk (bb_ BK101.out hb); clear hb hbox hg; have hnb19 := NB108_101.out; have hnc19 := NB101_108.out; obtain ⟨hcz20_0, hcz20_1, hcz20_2, hfz20_0, hfz20_1, hfz20_2⟩ := bc3 BK108.out) | ((with_reducible refine gate_builtin (b := .append) (xs := #[.tmp 38, .tmp 41]) rfl ?_); at_builtin; refine Kd.R_append Kd.string (w0 := w) w.heap.size rfl (.tmp 38) (.tmp 41) 22 9 (.string ⟨#[]⟩) 16 rfl Tryz.underlying22 info9 rfl (by decide) (by omega) u5 x5_1 ((rd_T108 t103 x34_1).f2) [.string ((rd_T108 t103 x34_1).f2)] (fun _ => True) (fun _ => False) rfl z31_ ?aP (fun _ hk => hk.elim) ?aF ?aO ?aB ?aS ?aL ?_; (case aP => exact rfl); (case aB => exact (hs_)); (case aF => exact (fun _ _ => trivial)); (case aO => exact (by (with_reducible repeat (first | apply Kd.R_alloc | apply Kd.R_drewN | apply Kd.R_drew)); exact Kd.R_mono (Kd.R_far (p := ⟨gb108, 2, none⟩) (Kd.R_far (p := ⟨gb108, 1, none⟩) (Kd.R_far (p := ⟨gb108, 0, none⟩) (Kd.R_types HO_5.out BK108.out (by decide)) (fun _ hk => hk.2) (.int .i64 ((rd_T108 t103 x34_1).f0))) (fun _ hk => hk.2) (.string ((rd_T108 t103 x34_1).f1))) (fun _ hk => hk.2) (.string ((rd_T108 t103 x34_1).f2))) (fun _ hk => trivial))); (case aS => exact (below_size (hs_))); (case aL => have := LMc17.out; omega); intro v110 w21 ho hb hg hat; rw [← Ny109.out] at ho; have n0_ := Aside0.mk (Kd.R_over' (by (with_reducible repeat (first | apply Kd.R_alloc | apply Kd.R_drewN | apply Kd.R_drew)); exact (Kd.R_mono (Kd.R_far (p := ⟨gb108, 2, none⟩) (Kd.R_far (p := ⟨gb108, 1, none⟩) (Kd.R_far (p := ⟨gb108, 0, none⟩) (Kd.R_mono HO_32.out (fun k_ hk => (⟨hk, hk.2⟩ : _ ∧ k_ ≠ gb108))) (fun _ hk => hk.2) (.int .i64 ((rd_T108 t103 x34_1).f0))) (fun _ hk => hk.2) (.string ((rd_T108 t103 x34_1).f1))) (fun _ hk => hk.2) (.string ((rd_T108 t103 x34_1).f2))) (fun _ h_ => h_.1))) (Kd.R_typed (by (with_reducible repeat (first | apply Kd.R_alloc | apply Kd.R_drewN | apply Kd.R_drew)); exact (Kd.R_mono (Kd.R_far (p := ⟨gb108, 2, none⟩) (Kd.R_far (p := ⟨gb108, 1, none⟩) (Kd.R_far (p := ⟨gb108, 0, none⟩) (Kd.R_types HO_5.out BK108.out (by decide)) (fun _ hk => hk.2) (.int .i64 ((rd_T108 t103 x34_1).f0))) (fun _ hk => hk.2) (.string ((rd_T108 t103 x34_1).f1))) (fun _ hk => hk.2) (.string ((rd_T108 t103 x34_1).f2))) (fun _ h_ => h_.1)))) (by decide) hg); have n1_ := Aside0.mk (blk_grown (g := gb101) (o := .cells #[.int .i64 a0_0, .string a0_1] 50 (0, 0)) (by have b_ := BK101; have f_ := NB101_108; exact zb_) hg (Kd.R_ne HO_5.out BK101.out (by decide))); have n2_ := Aside0.mk (blk_grown (g := gb108) (o := .cells #[.int .i64 ((rd_T108 t103 x34_1).f0), .string ((rd_T108 t103 x34_1).f1), .string ((rd_T108 t103 x34_1).f2)] 108 (0, 0)) (by have b_ := BK108; exact zb_) hg (Kd.R_ne HO_5.out BK108.out (by decide))); have n3_ := Aside0.mk (hb); have n4_ := Aside0.mk (ho); clear HO_32; clear BK101; clear BK108; clear HB; clear HO_5; have HO_32 := n0_; have BK101 := n1_; have BK108 := n2_; have HB := n3_; have HO111 := n4_; clear n0_ n1_ n2_ n3_ n4_; clear ho hb hg hat))
          go_roundg k1
          case measure => have := HK1.out; omega
          case rel => exact ⟨(y109), (wrap64 (x34_1 + 1)), z1_, H', ⟨by have := HK1.out; omega⟩, ⟨by (with_reducible repeat (first | apply Kd.R_alloc | apply Kd.R_drewN | apply Kd.R_drew)); exact HO111.out⟩, ⟨by (with_reducible repeat (first | apply Kd.R_alloc | apply Kd.R_drewN | apply Kd.R_drew)); exact Kd.R_mono HO_32.out (fun _ hk => trivial)⟩, ⟨bk_ BK101.out⟩, ⟨hs_⟩⟩
         ·rw [if_neg c17] at H
          exact absurd H (by simp)
        ·rw [if_neg c16] at H
         exact absurd H (by simp)
       ·rw [if_neg c15] at H
        exact absurd H (by simp)
      ·rw [if_neg c14] at H
       have c14b0 := decide_eq_false c14
       clear c14
       have H' := Aside0.mk H
       clear H
       go_wp2
       go_meet
       case rel => exact ⟨_, (x5_1), H', ⟨by have := HK1.out; first | omega | exact Nat.le_refl _⟩, ⟨z24_⟩, ⟨bk_ BK101.out⟩, ⟨hs_⟩⟩
   ·rw [if_neg c9] at H
    have c9b0 := beq_eq_false_iff_ne.mpr c9
    have c9b1 := bne_iff_ne.mpr c9
    (first | rw [c9b0] | (simp only [i64_w, i32_w]; rw [c9b0]) | skip)
    (try rw [c9b8])
    by_cases c22 : a0_0 = 3
    ·rw [if_pos c22] at H
     have c22b0 := beq_iff_eq.mpr c22
     have c22b1 := bne_eq_false_iff_eq.mpr c22
     clear c22
     replace H := Option.bind_eq_some_iff.mp H
     obtain ⟨⟨t112, t113, t116, t117, t118, t119, t120, t121, t122, t123, t124, t125⟩, A230, H⟩ := H
     replace H : ((some (([t112] : List ByteArray) : List ByteArray)).bind fun y127 => (if y127.length + t113.length < 8796093022208 then (commit_Links.j1 k (y127 ++ t113)) else (none))) = some (r1, r2) := H
     have A23 := Aside0.mk A230
     clear A230
     obtain ⟨y127, hy127⟩ : ∃ y_ : List ByteArray, y_ = (([t112] : List ByteArray)) := ⟨_, rfl⟩
     replace H : (if y127.length + t113.length < 8796093022208 then (commit_Links.j1 k (y127 ++ t113)) else (none)) = some (r1, r2) := by first | (rw [hy127]; with_reducible exact H) | (have H2_ := (Option.bind_some _ _).symm.trans H; rw [hy127]; with_reducible exact H2_) | (have H2_ := (Option.bind_some _ _).symm.trans H; with_reducible exact H2_) | with_reducible exact H | (rw [hy127]; exact H) | exact H
     have Ny127 := Aside0.mk hy127
     clear hy127
     by_cases c24 : y127.length + t113.length < 8796093022208
     ·rw [if_pos c24] at H
      have LMc24 := Aside0.mk c24
      clear c24
      obtain ⟨y130, hy130⟩ : ∃ y_ : List ByteArray, y_ = (y127 ++ t113) := ⟨_, rfl⟩
      replace H : (commit_Links.j1 k y130) = some (r1, r2) := by first | (rw [hy130]; with_reducible exact H) | (have H2_ := (Option.bind_some _ _).symm.trans H; rw [hy130]; with_reducible exact H2_) | (have H2_ := (Option.bind_some _ _).symm.trans H; with_reducible exact H2_) | with_reducible exact H | (rw [hy130]; exact H) | exact H
      have Ny130 := Aside0.mk hy130
      clear hy130
      have H' := Aside0.mk H
      clear H
      obtain ⟨hcz25_0, hcz25_1, hfz25_0, hfz25_1⟩ := bc2 BK101.out
      go_wp2_with (first | ((with_reducible refine gate_callee (f := 20) rfl ?_); refine goesL_ (some 49) rfl rfl Tryz.func20 (by kernel_rfl) rfl #[.string a0_1] rfl z2_ ?_; (with_reducible refine (commit_Parse.calls k a0_1 t112 t113 t116 t117 t118 t119 t120 t121 t122 t123 t124 t125 _ ?side1 A23.out).mono ?_); (case side1 => exact GV.below hgv (hs_)); rintro e w26 ⟨v114, rfl, ho0, hb⟩; refine ⟨_, rfl, ?_⟩; have HO115 := Aside0.mk (Kd.R_lower ho0 (below_size (hs_))); replace BK101 := Aside0.mk (bb_ BK101.out hb); replace HB := Aside0.mk (below_step (hs_) hb); (try clear hb); (try clear hb2); (try clear hk); (try clear hi); (try clear ho0)) | ((with_reducible refine gate_dst (N := 10) rfl ?_); refine be_ (cs := #[.string (⟨#[]⟩ : ByteArray), .slice none 0 0, .string (⟨#[]⟩ : ByteArray), .string (⟨#[]⟩ : ByteArray), .int .i64 0, .int .i64 0, .string (⟨#[]⟩ : ByteArray), .string (⟨#[]⟩ : ByteArray), .int .i64 0, .int .i64 0, .string (⟨#[]⟩ : ByteArray)]) (t := 26) ?_; intro gb126 hg w27 hbox hb; replace HO115 := Aside0.mk (Kd.R_below (rk_ HO115.out) hb); have BK126 := Aside0.mk (hbox); have GW126 := Aside0.mk ((by rw [hg]; exact (below_size (hs_)) : w.heap.size ≤ gb126)); have GE126 := Aside0.mk ((by rw [hg]; exact (below_size (hs_)) : w.heap.size ≤ gb126)); replace HB := Aside0.mk (below_step (hs_) hb); have NB101_126 := Aside0.mk (nl2_ hg BK101.out); have NB126_101 := Aside0.mk (ng2_ hg BK101.out); replace BK101 := Aside0.mk (bb_ BK101.out hb); clear hb hbox hg; have hnb28 := NB126_101.out; have hnc28 := NB101_126.out; obtain ⟨hcz29_0, hcz29_1, hcz29_2, hcz29_3, hcz29_4, hcz29_5, hcz29_6, hcz29_7, hcz29_8, hcz29_9, hcz29_10, hfz29_0, hfz29_1, hfz29_2, hfz29_3, hfz29_4, hfz29_5, hfz29_6, hfz29_7, hfz29_8, hfz29_9, hfz29_10⟩ := bc11 BK126.out; obtain ⟨Ao30, co30, eo30⟩ := Kd.R_slice HO115.out; subst eo30) | ((with_reducible refine gate_dst (N := 54) rfl ?_); refine Kd.R_lit Kd.string _ 9 ?hg (N := 54) ?hd (xs := ([t112] : List ByteArray)) (inner := [.string t112]) (ok := fun _ => True) (okp := fun _ => True) ?hr ?hp (fun _ hk => hk) trivial (Below.refl _ _) (Nat.le_refl _) (by simp) ?_; (case hd => rfl); (case hg => rfl); (case hr => first | (go_simp; done) | (go_simp; rfl)); (case hp => exact (Reps.one (show Kd.M Kd.string _ _ _ t112 [.string t112] from rfl) (Reps.none _ _))); intro v128 w31 ho32 hb hg_ hnew_; clear hg_ hnew_; (first | rw [← Ny127.out] at ho32 | (simp only [Int.reduceToNat] at ho32; rw [← Ny127.out] at ho32)); have HO129 := Aside0.mk (Kd.R_lower (Kd.R_new' ho32 (Kd.R_lt (by (with_reducible repeat (first | apply Kd.R_alloc | apply Kd.R_drewN | apply Kd.R_drew)); exact (Kd.R_mono (Kd.R_far (p := ⟨gb126, 10, none⟩) (Kd.R_far (p := ⟨gb126, 9, none⟩) (Kd.R_far (p := ⟨gb126, 8, none⟩) (Kd.R_far (p := ⟨gb126, 7, none⟩) (Kd.R_far (p := ⟨gb126, 6, none⟩) (Kd.R_far (p := ⟨gb126, 5, none⟩) (Kd.R_far (p := ⟨gb126, 4, none⟩) (Kd.R_far (p := ⟨gb126, 3, none⟩) (Kd.R_far (p := ⟨gb126, 2, none⟩) (Kd.R_far (p := ⟨gb126, 1, none⟩) (Kd.R_far (p := ⟨gb126, 0, none⟩) (Kd.R_types HO115.out BK126.out (by decide)) (fun _ hk => hk.2) (.string t112)) (fun _ hk => hk.2) (.slice Ao30 t113.length co30)) (fun _ hk => hk.2) (.string t116)) (fun _ hk => hk.2) (.string t117)) (fun _ hk => hk.2) (.int .i64 t118)) (fun _ hk => hk.2) (.int .i64 t119)) (fun _ hk => hk.2) (.string t120)) (fun _ hk => hk.2) (.string t121)) (fun _ hk => hk.2) (.int .i64 t122)) (fun _ hk => hk.2) (.int .i64 t123)) (fun _ hk => hk.2) (.string t124)) (fun _ h_ => h_.1))))) (below_size (hs_))); replace HO115 := Aside0.mk (Kd.R_elder' (by (with_reducible repeat (first | apply Kd.R_alloc | apply Kd.R_drewN | apply Kd.R_drew)); exact (Kd.R_mono (Kd.R_far (p := ⟨gb126, 10, none⟩) (Kd.R_far (p := ⟨gb126, 9, none⟩) (Kd.R_far (p := ⟨gb126, 8, none⟩) (Kd.R_far (p := ⟨gb126, 7, none⟩) (Kd.R_far (p := ⟨gb126, 6, none⟩) (Kd.R_far (p := ⟨gb126, 5, none⟩) (Kd.R_far (p := ⟨gb126, 4, none⟩) (Kd.R_far (p := ⟨gb126, 3, none⟩) (Kd.R_far (p := ⟨gb126, 2, none⟩) (Kd.R_far (p := ⟨gb126, 1, none⟩) (Kd.R_far (p := ⟨gb126, 0, none⟩) (Kd.R_types HO115.out BK126.out (by decide)) (fun _ hk => hk.2) (.string t112)) (fun _ hk => hk.2) (.slice Ao30 t113.length co30)) (fun _ hk => hk.2) (.string t116)) (fun _ hk => hk.2) (.string t117)) (fun _ hk => hk.2) (.int .i64 t118)) (fun _ hk => hk.2) (.int .i64 t119)) (fun _ hk => hk.2) (.string t120)) (fun _ hk => hk.2) (.string t121)) (fun _ hk => hk.2) (.int .i64 t122)) (fun _ hk => hk.2) (.int .i64 t123)) (fun _ hk => hk.2) (.string t124)) (fun _ h_ => h_.1))) (Kd.R_base ho32) hb); replace BK101 := Aside0.mk (blk_below (g := gb101) (o := .cells #[.int .i64 a0_0, .string a0_1] 50 (0, 0)) (by have b_ := BK101; have f_ := NB101_126; exact zb_) hb); replace BK126 := Aside0.mk (blk_below (g := gb126) (o := .cells #[.string t112, .slice Ao30 t113.length co30, .string t116, .string t117, .int .i64 t118, .int .i64 t119, .string t120, .string t121, .int .i64 t122, .int .i64 t123, .string t124] 26 (0, 0)) (by have b_ := BK126; exact zb_) hb); replace HB := Aside0.mk (below_step (hs_) hb); clear hb ho32; obtain ⟨hcz33_0, hcz33_1, hcz33_2, hcz33_3, hcz33_4, hcz33_5, hcz33_6, hcz33_7, hcz33_8, hcz33_9, hcz33_10, hfz33_0, hfz33_1, hfz33_2, hfz33_3, hfz33_4, hfz33_5, hfz33_6, hfz33_7, hfz33_8, hfz33_9, hfz33_10⟩ := bc11 BK126.out) | ((with_reducible refine gate_builtin (b := .append) (xs := #[.tmp 54, .tmp 56]) rfl ?_); at_builtin; refine Kd.R_append_rows Kd.string (w0 := w) w.heap.size rfl (.tmp 54) (.tmp 56) 22 9 (.string ⟨#[]⟩) 16 rfl Tryz.underlying22 info9 rfl (by decide) (by omega) v128 y127 t113 _ _ _ (fun k_ => some k_ ≠ (.slice Ao30 t113.length co30 : Value).ownBlock) (fun _ => False) rfl rfl ?aO ?aR (fun _ _ h => h) (fun _ h => h.elim) ?aF ?aB ?aS ?aL ?_; (case aR => repeat (first | exact (Kd.R_reads' HO115.out).2.2 | (with_reducible refine Kd.C_alloc ?_ _) | (with_reducible refine Kd.C_drewN ?_ _) | (with_reducible refine Kd.C_drew ?_))); (case aB => exact (hs_)); (case aF => exact (fun k_ hk => Kd.fresh' (Kd.R_lt (rk_ HO115.out)) k_ hk)); (case aO => exact (by (with_reducible repeat (first | apply Kd.R_alloc | apply Kd.R_drewN | apply Kd.R_drew)); exact Kd.R_mono HO129.out (fun _ hk => hk.2))); (case aS => exact (below_size (hs_))); (case aL => have := LMc24.out; omega); intro v131 w34 ho hb hg hat; rw [← Ny130.out] at ho; have n0_ := Aside0.mk (blk_grown (g := gb101) (o := .cells #[.int .i64 a0_0, .string a0_1] 50 (0, 0)) (bk_ BK101.out) hg (Kd.R_ne HO129.out BK101.out (by decide))); have n1_ := Aside0.mk (Kd.R_after (ok := (fun _ => True)) (rk_ HO115.out) hg hat); have n2_ := Aside0.mk (blk_grown (g := gb126) (o := .cells #[.string t112, .slice Ao30 t113.length co30, .string t116, .string t117, .int .i64 t118, .int .i64 t119, .string t120, .string t121, .int .i64 t122, .int .i64 t123, .string t124] 26 (0, 0)) (bk_ BK126.out) hg (Kd.R_ne HO129.out BK126.out (by decide))); have n3_ := Aside0.mk (hb); have n4_ := Aside0.mk (ho); clear BK101; clear HO115; clear BK126; clear HB; clear HO129; have BK101 := n0_; have HO115 := n1_; have BK126 := n2_; have HB := n3_; have HO132 := n4_; clear n0_ n1_ n2_ n3_ n4_; clear ho hb hg hat))
      go_meet
      case rel => exact ⟨_, (y130), H', ⟨z5_⟩, ⟨by (with_reducible repeat (first | apply Kd.R_alloc | apply Kd.R_drewN | apply Kd.R_drew)); exact Kd.R_mono HO132.out (fun _ hk => trivial)⟩, ⟨bk_ BK101.out⟩, ⟨hs_⟩⟩
     ·rw [if_neg c24] at H
      exact absurd H (by simp)
    ·rw [if_neg c22] at H
     have c22b0 := beq_eq_false_iff_ne.mpr c22
     have c22b1 := bne_iff_ne.mpr c22
     by_cases c35 : a0_0 = 4
     ·rw [if_pos c35] at H
      have c35b0 := beq_iff_eq.mpr c35
      have c35b1 := bne_eq_false_iff_eq.mpr c35
      clear c35
      replace H := Option.bind_eq_some_iff.mp H
      obtain ⟨⟨t133, t134, t135, t136, t137, t138, t139, t140, t141⟩, A360, H⟩ := H
      replace H : (commit_Links.j1 k (([t133] : List ByteArray))) = some (r1, r2) := H
      have A36 := Aside0.mk A360
      clear A360
      obtain ⟨y143, hy143⟩ : ∃ y_ : List ByteArray, y_ = (([t133] : List ByteArray)) := ⟨_, rfl⟩
      replace H : (commit_Links.j1 k y143) = some (r1, r2) := by first | (rw [hy143]; with_reducible exact H) | (have H2_ := (Option.bind_some _ _).symm.trans H; rw [hy143]; with_reducible exact H2_) | (have H2_ := (Option.bind_some _ _).symm.trans H; with_reducible exact H2_) | with_reducible exact H | (rw [hy143]; exact H) | exact H
      have Ny143 := Aside0.mk hy143
      clear hy143
      have H' := Aside0.mk H
      clear H
      obtain ⟨hcz37_0, hcz37_1, hfz37_0, hfz37_1⟩ := bc2 BK101.out
      go_wp2_with (first | ((with_reducible refine gate_callee (f := 23) rfl ?_); refine goesL_ (some 63) rfl rfl Tryz.func23 (by kernel_rfl) rfl #[.string a0_1] rfl z2_ ?_; (with_reducible refine (commit_ParseTag.calls k a0_1 t133 t134 t135 t136 t137 t138 t139 t140 t141 _ ?side1 A36.out).mono ?_); (case side1 => exact GV.below hgv (hs_)); rintro e w38 ⟨rfl, hb⟩; refine ⟨_, rfl, ?_⟩; replace BK101 := Aside0.mk (bb_ BK101.out hb); replace HB := Aside0.mk (below_step (hs_) hb); (try clear hb); (try clear hb2); (try clear hk); (try clear hi)) | ((with_reducible refine gate_dst (N := 12) rfl ?_); refine be_ (cs := #[.string (⟨#[]⟩ : ByteArray), .int .i64 0, .string (⟨#[]⟩ : ByteArray), .string (⟨#[]⟩ : ByteArray), .string (⟨#[]⟩ : ByteArray), .int .i64 0, .int .i64 0, .string (⟨#[]⟩ : ByteArray)]) (t := 37) ?_; intro gb142 hg w39 hbox hb; have BK142 := Aside0.mk (hbox); have GW142 := Aside0.mk ((by rw [hg]; exact (below_size (hs_)) : w.heap.size ≤ gb142)); have GE142 := Aside0.mk ((by rw [hg]; exact (below_size (hs_)) : w.heap.size ≤ gb142)); replace HB := Aside0.mk (below_step (hs_) hb); have NB101_142 := Aside0.mk (nl2_ hg BK101.out); have NB142_101 := Aside0.mk (ng2_ hg BK101.out); replace BK101 := Aside0.mk (bb_ BK101.out hb); clear hb hbox hg; have hnb40 := NB142_101.out; have hnc40 := NB101_142.out; obtain ⟨hcz41_0, hcz41_1, hcz41_2, hcz41_3, hcz41_4, hcz41_5, hcz41_6, hcz41_7, hfz41_0, hfz41_1, hfz41_2, hfz41_3, hfz41_4, hfz41_5, hfz41_6, hfz41_7⟩ := bc8 BK142.out) | ((with_reducible refine gate_dst (N := 68) rfl ?_); refine Kd.R_lit Kd.string _ 9 ?hg (N := 68) ?hd (xs := ([t133] : List ByteArray)) (inner := [.string t133]) (ok := fun _ => True) (okp := fun _ => True) ?hr ?hp (fun _ hk => hk) trivial (Below.refl _ _) (Nat.le_refl _) (by simp) ?_; (case hd => rfl); (case hg => rfl); (case hr => first | (go_simp; done) | (go_simp; rfl)); (case hp => exact (Reps.one (show Kd.M Kd.string _ _ _ t133 [.string t133] from rfl) (Reps.none _ _))); intro v144 w42 ho43 hb hg_ hnew_; clear hg_ hnew_; (first | rw [← Ny143.out] at ho43 | (simp only [Int.reduceToNat] at ho43; rw [← Ny143.out] at ho43)); have HO145 := Aside0.mk (Kd.R_lower ho43 (below_size (hs_))); replace BK101 := Aside0.mk (blk_below (g := gb101) (o := .cells #[.int .i64 a0_0, .string a0_1] 50 (0, 0)) (by have b_ := BK101; have f_ := NB101_142; exact zb_) hb); replace BK142 := Aside0.mk (blk_below (g := gb142) (o := .cells #[.string t133, .int .i64 t134, .string t135, .string t136, .string t137, .int .i64 t138, .int .i64 t139, .string t140] 37 (0, 0)) (by have b_ := BK142; exact zb_) hb); replace HB := Aside0.mk (below_step (hs_) hb); clear hb ho43))
      go_meet
      case rel => exact ⟨_, (y143), H', ⟨z5_⟩, ⟨by (with_reducible repeat (first | apply Kd.R_alloc | apply Kd.R_drewN | apply Kd.R_drew)); exact HO145.out⟩, ⟨bk_ BK101.out⟩, ⟨hs_⟩⟩
     ·rw [if_neg c35] at H
      have c35b0 := beq_eq_false_iff_ne.mpr c35
      have c35b1 := bne_iff_ne.mpr c35
      have H' := Aside0.mk H
      clear H
      go_wp2
      go_meet
      case rel => exact ⟨_, (([] : List ByteArray)), H', ⟨z5_⟩, ⟨z6_⟩, ⟨bk_ BK101.out⟩, ⟨hs_⟩⟩
  case rest =>
   clear HC4
   try clear c1
   try clear p1
   try clear q1
   try clear hx1
   try clear c2
   try clear p2
   try clear c3
   try clear c3b0
   try clear c3b1
   try clear c4
   try clear p6
   try clear c9
   try clear c9b0
   try clear c9b1
   try clear p10
   try clear q10
   try clear hx10
   try clear c14
   try clear c14b0
   try clear c15
   try clear c15b0
   try clear c16
   try clear c16b0
   try clear c17
   try clear c19
   try clear c20
   try clear c22
   try clear c22b0
   try clear c22b1
   try clear c23
   try clear c24
   try clear c28
   try clear c34
   try clear c35
   try clear c35b0
   try clear c35b1
   try clear c36
   try clear c40
   try clear hcz11_0 hcz11_1
   try clear hcz20_0 hcz20_1 hcz20_2
   try clear hcz25_0 hcz25_1
   try clear hcz29_0 hcz29_1 hcz29_10 hcz29_2 hcz29_3 hcz29_4 hcz29_5 hcz29_6 hcz29_7 hcz29_8 hcz29_9
   try clear hcz33_0 hcz33_1 hcz33_10 hcz33_2 hcz33_3 hcz33_4 hcz33_5 hcz33_6 hcz33_7 hcz33_8 hcz33_9
   try clear hcz37_0 hcz37_1
   try clear hcz41_0 hcz41_1 hcz41_2 hcz41_3 hcz41_4 hcz41_5 hcz41_6 hcz41_7
   try clear hcz6_0 hcz6_1
   try clear hcz8_0 hcz8_1
   try clear hfz11_0 hfz11_1
   try clear hfz20_0 hfz20_1 hfz20_2
   try clear hfz25_0 hfz25_1
   try clear hfz29_0 hfz29_1 hfz29_10 hfz29_2 hfz29_3 hfz29_4 hfz29_5 hfz29_6 hfz29_7 hfz29_8 hfz29_9
   try clear hfz33_0 hfz33_1 hfz33_10 hfz33_2 hfz33_3 hfz33_4 hfz33_5 hfz33_6 hfz33_7 hfz33_8 hfz33_9
   try clear hfz37_0 hfz37_1
   try clear hfz41_0 hfz41_1 hfz41_2 hfz41_3 hfz41_4 hfz41_5 hfz41_6 hfz41_7
   try clear hfz6_0 hfz6_1
   try clear hfz8_0 hfz8_1
   try clear hx107_0
   try clear hx107_1
   try clear hx107_2
   try clear p107
   try clear p2
   try clear q107
   obtain ⟨kq, x5_3, HA, HJ3, HO_5, BK101, HB⟩ := hcut
   cases kq with
   | zero => exact absurd HA.out (by simp [commit_Links.j1])
   | succ kj3 =>
    have H := HA.out
    clear HA
    simp only [commit_Links.j1] at H
    have H' := Aside0.mk H
    clear H
    obtain ⟨Ao44, co44, eo44⟩ := Kd.R_slice HO_5.out
    subst eo44
    go_wp2
    go_loopg [14, 71] kj3 (fun kq v14 v71 w' => ∃ (x14_2 : List ByteArray) (x71_2 : Int), v71 = .int .i64 x71_2 ∧ Aside0 (commit_Links.l1 kq x14_2 x5_3 (x5_3.length : Int) x71_2 = some (r1, r2)) ∧ Aside0 (kq ≤ kj3) ∧ Aside0 (Kd.R Kd.string 9 w' w.heap.size (fun k_ => some k_ ≠ ((.slice Ao44 x5_3.length co44) : Value).ownBlock) v14 x14_2) ∧ Aside0 (Kd.R Kd.string 9 w' w.heap.size (fun k_ => some k_ ≠ (v14 : Value).ownBlock) (.slice Ao44 x5_3.length co44) x5_3) ∧ Aside0 (w'.heap[gb101]? = some (.cells #[.int .i64 a0_0, .string a0_1] 50 (0, 0))) ∧ Aside0 (Below w.heap.size w w'))
    case atStart => exact ⟨(([] : List ByteArray)), (0), z1_, H', ⟨Nat.le_refl _⟩, ⟨z6_⟩, ⟨by (with_reducible repeat (first | apply Kd.R_alloc | apply Kd.R_drewN | apply Kd.R_drew)); exact Kd.R_mono HO_5.out (fun _ hk => (by simp [Value.ownBlock]))⟩, ⟨bk_ BK101.out⟩, ⟨hs_⟩⟩
    case round =>
     clear H'
     try clear c1
     try clear p1
     try clear q1
     try clear hx1
     try clear c2
     try clear p2
     try clear c3
     try clear c3b0
     try clear c3b1
     try clear c4
     try clear p6
     try clear c9
     try clear c9b0
     try clear c9b1
     try clear p10
     try clear q10
     try clear hx10
     try clear c14
     try clear c14b0
     try clear c15
     try clear c15b0
     try clear c16
     try clear c16b0
     try clear c17
     try clear c19
     try clear c20
     try clear c22
     try clear c22b0
     try clear c22b1
     try clear c23
     try clear c24
     try clear c28
     try clear c34
     try clear c35
     try clear c35b0
     try clear c35b1
     try clear c36
     try clear c40
     try clear hcz11_0 hcz11_1
     try clear hcz20_0 hcz20_1 hcz20_2
     try clear hcz25_0 hcz25_1
     try clear hcz29_0 hcz29_1 hcz29_10 hcz29_2 hcz29_3 hcz29_4 hcz29_5 hcz29_6 hcz29_7 hcz29_8 hcz29_9
     try clear hcz33_0 hcz33_1 hcz33_10 hcz33_2 hcz33_3 hcz33_4 hcz33_5 hcz33_6 hcz33_7 hcz33_8 hcz33_9
     try clear hcz37_0 hcz37_1
     try clear hcz41_0 hcz41_1 hcz41_2 hcz41_3 hcz41_4 hcz41_5 hcz41_6 hcz41_7
     try clear hcz6_0 hcz6_1
     try clear hcz8_0 hcz8_1
     try clear hfz11_0 hfz11_1
     try clear hfz20_0 hfz20_1 hfz20_2
     try clear hfz25_0 hfz25_1
     try clear hfz29_0 hfz29_1 hfz29_10 hfz29_2 hfz29_3 hfz29_4 hfz29_5 hfz29_6 hfz29_7 hfz29_8 hfz29_9
     try clear hfz33_0 hfz33_1 hfz33_10 hfz33_2 hfz33_3 hfz33_4 hfz33_5 hfz33_6 hfz33_7 hfz33_8 hfz33_9
     try clear hfz37_0 hfz37_1
     try clear hfz41_0 hfz41_1 hfz41_2 hfz41_3 hfz41_4 hfz41_5 hfz41_6 hfz41_7
     try clear hfz6_0 hfz6_1
     try clear hfz8_0 hfz8_1
     try clear hx107_0
     try clear hx107_1
     try clear hx107_2
     try clear p1
     try clear p10
     try clear p107
     try clear p2
     try clear p6
     try clear q1
     try clear q10
     try clear q107
     obtain ⟨x14_2, x71_2, rfl, HA, HK2, HO_14, HO_69, BK101, HB⟩ := hrel
     cases gk with
     | zero => exact absurd HA.out (by simp [commit_Links.l1])
     | succ k2 =>
      have H := HA.out
      clear HA
      simp only [commit_Links.l1] at H
      by_cases c45 : x71_2 < (x5_3.length : Int)
      ·rw [if_pos c45] at H
       have c45b0 := decide_eq_true c45
       clear c45
       by_cases c46 : 0 ≤ x71_2
       ·rw [if_pos c46] at H
        have c46b0 := decide_eq_true c46
        clear c46
        by_cases c47 : x71_2 < (x5_3.length : Int)
        ·rw [if_pos c47] at H
         have c47b0 := decide_eq_true c47
         clear c47
         replace H := Option.bind_eq_some_iff.mp H
         obtain ⟨t147, A480, H⟩ := H
         have A48 := Aside0.mk A480
         clear A480
         by_cases c49 : t147 = true
         ·subst c49
          have H1 : (commit_Links.l1 k2 x14_2 x5_3 (x5_3.length : Int) (wrap64 (x71_2 + 1))) = some (r1, r2) := by rw [if_pos rfl] at H; exact H
          clear H
          have H := H1
          clear H1
          have H' := Aside0.mk H
          clear H
          have p146 : 0 ≤ (x71_2 : Int) := of_decide_eq_true z0_
          have q146 : x71_2 < (x5_3.length : Int) := of_decide_eq_true z0_
          obtain ⟨ad146, e146, hx146_0⟩ := Kd.at_string (Kd.R_reads' HO_69.out).2.2 x71_2 p146 q146
          cases e146
          replace p146 := eq_true p146
          replace q146 := eq_true q146
          obtain ⟨Ao50, co50, eo50⟩ := Kd.R_slice HO_14.out
          subst eo50
          go_wp2_with (first | ((with_reducible refine gate_callee (f := 95) rfl ?_); refine goesL_ (some 77) rfl rfl Tryz.func95 (by kernel_rfl) rfl #[.slice Ao50 x14_2.length co50, .string (rdOf ByteArray.empty x5_3 x71_2)] rfl z2_ ?_; (with_reducible refine (slices_Contains_string_string.calls k2 _ _ x14_2 (rdOf ByteArray.empty x5_3 x71_2) true _ ?side1 ?side2 A48.out).mono ?_); (case side1 => repeat (first | exact (Kd.R_reads' HO_14.out).2.2 | (with_reducible refine Kd.C_alloc ?_ _) | (with_reducible refine Kd.C_drewN ?_ _) | (with_reducible refine Kd.C_drew ?_))); (case side2 => exact (Kd.R_reads' HO_14.out).2.1); rintro e w' ⟨rfl, ⟨nd, rfl⟩⟩; refine ⟨_, rfl, ?_⟩))
          go_roundg k2
          case measure => have := HJ3.out; have := HK2.out; omega
          case rel => exact ⟨(x14_2), (wrap64 (x71_2 + 1)), z1_, H', ⟨by have := HJ3.out; have := HK2.out; omega⟩, ⟨by (with_reducible repeat (first | apply Kd.R_alloc | apply Kd.R_drewN | apply Kd.R_drew)); exact HO_14.out⟩, ⟨by (with_reducible repeat (first | apply Kd.R_alloc | apply Kd.R_drewN | apply Kd.R_drew)); exact HO_69.out⟩, ⟨bk_ BK101.out⟩, ⟨hs_⟩⟩
         ·replace c49 := Bool.eq_false_iff.mpr c49
          subst c49
          have H1 : (if x14_2.length < 8796093022208 then (commit_Links.l1 k2 (x14_2 ++ [rdOf ByteArray.empty x5_3 x71_2]) x5_3 (x5_3.length : Int) (wrap64 (x71_2 + 1))) else (none)) = some (r1, r2) := by rw [if_neg (show ¬ (false = true) by decide)] at H; exact H
          clear H
          have H := H1
          clear H1
          by_cases c51 : x14_2.length < 8796093022208
          ·rw [if_pos c51] at H
           have LMc51 := Aside0.mk c51
           clear c51
           obtain ⟨y148, hy148⟩ : ∃ y_ : List ByteArray, y_ = (x14_2 ++ [rdOf ByteArray.empty x5_3 x71_2]) := ⟨_, rfl⟩
           replace H : (commit_Links.l1 k2 y148 x5_3 (x5_3.length : Int) (wrap64 (x71_2 + 1))) = some (r1, r2) := by first | (rw [hy148]; with_reducible exact H) | (have H2_ := (Option.bind_some _ _).symm.trans H; rw [hy148]; with_reducible exact H2_) | (have H2_ := (Option.bind_some _ _).symm.trans H; with_reducible exact H2_) | with_reducible exact H | (rw [hy148]; exact H) | exact H
           have Ny148 := Aside0.mk hy148
           clear hy148
           have H' := Aside0.mk H
           clear H
           have p146 : 0 ≤ (x71_2 : Int) := of_decide_eq_true z0_
           have q146 : x71_2 < (x5_3.length : Int) := of_decide_eq_true z0_
           obtain ⟨ad146, e146, hx146_0⟩ := Kd.at_string (Kd.R_reads' HO_69.out).2.2 x71_2 p146 q146
           cases e146
           replace p146 := eq_true p146
           replace q146 := eq_true q146
           obtain ⟨Ao52, co52, eo52⟩ := Kd.R_slice HO_14.out
           subst eo52
           go_wp2_with (first | ((with_reducible refine gate_callee (f := 95) rfl ?_); refine goesL_ (some 77) rfl rfl Tryz.func95 (by kernel_rfl) rfl #[.slice Ao52 x14_2.length co52, .string (rdOf ByteArray.empty x5_3 x71_2)] rfl z2_ ?_; (with_reducible refine (slices_Contains_string_string.calls k2 _ _ x14_2 (rdOf ByteArray.empty x5_3 x71_2) false _ ?side1 ?side2 A48.out).mono ?_); (case side1 => repeat (first | exact (Kd.R_reads' HO_14.out).2.2 | (with_reducible refine Kd.C_alloc ?_ _) | (with_reducible refine Kd.C_drewN ?_ _) | (with_reducible refine Kd.C_drew ?_))); (case side2 => exact (Kd.R_reads' HO_14.out).2.1); rintro e w' ⟨rfl, ⟨nd, rfl⟩⟩; refine ⟨_, rfl, ?_⟩) | ((with_reducible refine gate_builtin (b := .append) (xs := #[.tmp 79, .tmp 81]) rfl ?_); at_builtin; refine Kd.R_append Kd.string (w0 := w) w.heap.size rfl (.tmp 79) (.tmp 81) 22 9 (.string ⟨#[]⟩) 16 rfl Tryz.underlying22 info9 rfl (by decide) (by omega) (.slice Ao52 x14_2.length co52) x14_2 (rdOf ByteArray.empty x5_3 x71_2) [.string (rdOf ByteArray.empty x5_3 x71_2)] (fun k_ => some k_ ≠ (.slice (some ad146) x5_3.length co44 : Value).ownBlock) (fun _ => False) rfl rfl ?aP (fun _ hk => hk.elim) ?aF ?aO ?aB ?aS ?aL ?_; (case aP => exact rfl); (case aB => exact (hs_)); (case aF => exact (fun k_ hk => Kd.fresh' (Kd.R_lt (rk_ HO_69.out)) k_ hk)); (case aO => exact (rk_ HO_14.out)); (case aS => exact (below_size (hs_))); (case aL => have := LMc51.out; omega); intro v149 w53 ho hb hg hat; rw [← Ny148.out] at ho; have n0_ := Aside0.mk (Kd.R_after (ok := (fun _ => True)) (by (with_reducible repeat (first | apply Kd.R_alloc | apply Kd.R_drewN | apply Kd.R_drew)); exact Kd.R_mono HO_69.out (fun _ hk => ⟨trivial, hk⟩)) hg hat); have n1_ := Aside0.mk (blk_grown (g := gb101) (o := .cells #[.int .i64 a0_0, .string a0_1] 50 (0, 0)) (bk_ BK101.out) hg (Kd.R_ne HO_14.out BK101.out (by decide))); have n2_ := Aside0.mk (hb); have n3_ := Aside0.mk (ho); clear HO_69; clear BK101; clear HB; clear HO_14; have HO_69 := n0_; have BK101 := n1_; have HB := n2_; have HO150 := n3_; clear n0_ n1_ n2_ n3_; clear ho hb hg hat))
           go_roundg k2
           case measure => have := HJ3.out; have := HK2.out; omega
           case rel => exact ⟨(y148), (wrap64 (x71_2 + 1)), z1_, H', ⟨by have := HJ3.out; have := HK2.out; omega⟩, ⟨by (with_reducible repeat (first | apply Kd.R_alloc | apply Kd.R_drewN | apply Kd.R_drew)); exact HO150.out⟩, ⟨by (with_reducible repeat (first | apply Kd.R_alloc | apply Kd.R_drewN | apply Kd.R_drew)); exact Kd.R_mono HO_69.out (fun _ hk => hk.2)⟩, ⟨bk_ BK101.out⟩, ⟨hs_⟩⟩
          ·rw [if_neg c51] at H
           exact absurd H (by simp)
        ·rw [if_neg c47] at H
         exact absurd H (by simp)
       ·rw [if_neg c46] at H
        exact absurd H (by simp)
      ·rw [if_neg c45] at H
       have c45b0 := decide_eq_false c45
       clear c45
       simp only [Option.some.injEq, Prod.mk.injEq] at H
       obtain ⟨rfl, rfl⟩ := H
       go_wp2
       go_ret2
       exact ⟨_, z4_, by (with_reducible repeat (first | apply Kd.R_alloc | apply Kd.R_drewN | apply Kd.R_drew)); exact Kd.R_mono HO_14.out (fun _ hk => trivial), hs_⟩
 ·rw [if_neg c3] at H
  have c3b0 := beq_eq_false_iff_ne.mpr c3
  have c3b1 := bne_iff_ne.mpr c3
  simp only [Option.some.injEq, Prod.mk.injEq] at H
  obtain ⟨rfl, rfl⟩ := H
  go_enter Tryz.func34, Tryz.ntmps34
  go_wp2_with (first | ((with_reducible refine gate_dst (N := 1) rfl ?_); refine be_ (cs := #[.int .i64 a0_0, .string a0_1]) (t := 50) ?_; intro gb101 hg w54 hbox hb; have BK101 := Aside0.mk (hbox); have GW101 := Aside0.mk (gw_ hg HB.out); have GE101 := Aside0.mk (gw_ hg HB.out); replace HB := Aside0.mk (below_step (hb_ HB.out) hb); clear hb hbox hg; obtain ⟨hcz55_0, hcz55_1, hfz55_0, hfz55_1⟩ := bc2 BK101.out) | ((with_reducible refine gate_callee (f := 36) rfl ?_); refine goesL_ (some 18) rfl rfl Tryz.func36 (by kernel_rfl) rfl #[.agg #[.int .i64 a0_0, .string a0_1]] rfl z2_ ?_; (with_reducible refine (commit_Whole.calls k a0_0 a0_1 t102 _ ?side1 A2.out).mono ?_); (case side1 => exact GV.below hgv (hs_)); rintro e w56 ⟨rfl, hb⟩; refine ⟨_, rfl, ?_⟩; replace BK101 := Aside0.mk (bb_ BK101.out hb); replace HB := Aside0.mk (below_step (hs_) hb); (try clear hb); (try clear hb2); (try clear hk); (try clear hi)))
  go_ret2
  exact ⟨_, z4_, z6_, hs_⟩


def graftagelaw16_lives.f (k : Nat)  : Option (Bool) := (commit_ParseWho.f k (⟨#[97, 32, 60, 97, 64, 98, 62, 32, 53, 32, 45, 48, 49, 51, 48]⟩ : ByteArray)).bind fun bt101 => ((commit_ParseWho.f k (⟨#[97, 32, 60, 98, 62, 32, 48, 53, 32, 43, 48, 48, 48, 48]⟩ : ByteArray)).bind fun bt107 => ((graftagelaw16_who.f).bind fun bt113 => ((graftagelaw16_who.f).bind fun bt117 => ((commit_Body.f k (⟨#[48, 49, 50, 51, 52, 53, 54, 55, 56, 57, 97, 98, 99, 100, 101, 102, 48, 49, 50, 51, 52, 53, 54, 55, 56, 57, 97, 98, 99, 100, 101, 102, 48, 49, 50, 51, 52, 53, 54, 55]⟩ : ByteArray) ([] : List ByteArray) bt113.1 bt113.2.1 bt113.2.2.1 bt113.2.2.2 bt117.1 bt117.2.1 bt117.2.2.1 bt117.2.2.2 (⟨#[120, 10]⟩ : ByteArray)).bind fun bt121 => ((commit_Links.f k 3 bt121.1).bind fun bt123 => ((graftagelaw16_who.f).bind fun bt127 => ((commit_TagBody.f k (⟨#[48, 49, 50, 51, 52, 53, 54, 55, 56, 57, 97, 98, 99, 100, 101, 102, 48, 49, 50, 51, 52, 53, 54, 55, 56, 57, 97, 98, 99, 100, 101, 102, 48, 49, 50, 51, 52, 53, 54, 55]⟩ : ByteArray) 5 (⟨#[118]⟩ : ByteArray) bt127.1 bt127.2.1 bt127.2.2.1 bt127.2.2.2 (⟨#[]⟩ : ByteArray)).bind fun bt131 => ((graftagelaw16_who.f).bind fun bt133 => ((commit_Who.f bt133.1 bt133.2.1 bt133.2.2.1 bt133.2.2.2).bind fun t137 => (if t137.toList = ([97, 32, 60, 97, 64, 98, 62, 32, 53, 32, 43, 48, 49, 48, 48] : List UInt8) then (if bt101.2.2.2.1 = (-90) then (if bt101.2.2.2.2 = 0 then (if bt107.2.2.2.2 = 2 then (if bt121.1.toList = ([116, 114, 101, 101, 32, 48, 49, 50, 51, 52, 53, 54, 55, 56, 57, 97, 98, 99, 100, 101, 102, 48, 49, 50, 51, 52, 53, 54, 55, 56, 57, 97, 98, 99, 100, 101, 102, 48, 49, 50, 51, 52, 53, 54, 55, 10, 97, 117, 116, 104, 111, 114, 32, 97, 32, 60, 97, 64, 98, 62, 32, 53, 32, 43, 48, 49, 48, 48, 10, 99, 111, 109, 109, 105, 116, 116, 101, 114, 32, 97, 32, 60, 97, 64, 98, 62, 32, 53, 32, 43, 48, 49, 48, 48, 10, 10, 120, 10] : List UInt8) then (if bt121.2 = 0 then (if (bt123.1.length : Int) = 1 then (if 0 < (bt123.1.length : Int) then (if (rdOf ByteArray.empty bt123.1 0).toList = ([48, 49, 50, 51, 52, 53, 54, 55, 56, 57, 97, 98, 99, 100, 101, 102, 48, 49, 50, 51, 52, 53, 54, 55, 56, 57, 97, 98, 99, 100, 101, 102, 48, 49, 50, 51, 52, 53, 54, 55] : List UInt8) then (if bt123.2 = 0 then (if bt131.2 = 1 then ((commit_Whole.f k 3 (⟨#[120]⟩ : ByteArray)).bind fun t139 => (some (t139 == 2))) else (some false)) else (some false)) else (some false)) else (none)) else (some false)) else (some false)) else (some false)) else (some false)) else (some false)) else (some false)) else (some false)))))))))))
theorem graftagelaw16_lives.mono : ∀ k, LeO (graftagelaw16_lives.f k ) (graftagelaw16_lives.f (k + 1) ) := by
 intro  k
 unfold graftagelaw16_lives.f
 have m0_ := @commit_Body.mono
 have m1_ := @commit_Links.mono
 have m2_ := @commit_ParseWho.mono
 have m3_ := @commit_TagBody.mono
 have m4_ := @commit_Whole.mono
 exact mz_
set_option maxHeartbeats 8000000 in
set_option maxRecDepth 100000 in
theorem graftagelaw16_lives.callsT (k : Nat)  (r : Bool) (w : World) (hgv : GV w) (hr_ : r = true) (h : graftagelaw16_lives.f k  = some r) :
  Calls Tryz.prog 15 #[] w fun e w' => e = .returned (.bool r) ∧ Below w.heap.size w w' := by
 have hu24 := Tryz.underlying24
 have hu26 := Tryz.underlying26
 have hu50 := Tryz.underlying50
 have hu37 := Tryz.underlying37
 have HB := Aside0.mk (Below.refl w.heap.size w)
 have H : ((commit_ParseWho.f k (⟨#[97, 32, 60, 97, 64, 98, 62, 32, 53, 32, 45, 48, 49, 51, 48]⟩ : ByteArray)).bind fun bt101 => ((commit_ParseWho.f k (⟨#[97, 32, 60, 98, 62, 32, 48, 53, 32, 43, 48, 48, 48, 48]⟩ : ByteArray)).bind fun bt107 => ((graftagelaw16_who.f).bind fun bt113 => ((graftagelaw16_who.f).bind fun bt117 => ((commit_Body.f k (⟨#[48, 49, 50, 51, 52, 53, 54, 55, 56, 57, 97, 98, 99, 100, 101, 102, 48, 49, 50, 51, 52, 53, 54, 55, 56, 57, 97, 98, 99, 100, 101, 102, 48, 49, 50, 51, 52, 53, 54, 55]⟩ : ByteArray) ([] : List ByteArray) bt113.1 bt113.2.1 bt113.2.2.1 bt113.2.2.2 bt117.1 bt117.2.1 bt117.2.2.1 bt117.2.2.2 (⟨#[120, 10]⟩ : ByteArray)).bind fun bt121 => ((commit_Links.f k 3 bt121.1).bind fun bt123 => ((graftagelaw16_who.f).bind fun bt127 => ((commit_TagBody.f k (⟨#[48, 49, 50, 51, 52, 53, 54, 55, 56, 57, 97, 98, 99, 100, 101, 102, 48, 49, 50, 51, 52, 53, 54, 55, 56, 57, 97, 98, 99, 100, 101, 102, 48, 49, 50, 51, 52, 53, 54, 55]⟩ : ByteArray) 5 (⟨#[118]⟩ : ByteArray) bt127.1 bt127.2.1 bt127.2.2.1 bt127.2.2.2 (⟨#[]⟩ : ByteArray)).bind fun bt131 => ((graftagelaw16_who.f).bind fun bt133 => ((commit_Who.f bt133.1 bt133.2.1 bt133.2.2.1 bt133.2.2.2).bind fun t137 => (if t137.toList = ([97, 32, 60, 97, 64, 98, 62, 32, 53, 32, 43, 48, 49, 48, 48] : List UInt8) then (if bt101.2.2.2.1 = (-90) then (if bt101.2.2.2.2 = 0 then (if bt107.2.2.2.2 = 2 then (if bt121.1.toList = ([116, 114, 101, 101, 32, 48, 49, 50, 51, 52, 53, 54, 55, 56, 57, 97, 98, 99, 100, 101, 102, 48, 49, 50, 51, 52, 53, 54, 55, 56, 57, 97, 98, 99, 100, 101, 102, 48, 49, 50, 51, 52, 53, 54, 55, 10, 97, 117, 116, 104, 111, 114, 32, 97, 32, 60, 97, 64, 98, 62, 32, 53, 32, 43, 48, 49, 48, 48, 10, 99, 111, 109, 109, 105, 116, 116, 101, 114, 32, 97, 32, 60, 97, 64, 98, 62, 32, 53, 32, 43, 48, 49, 48, 48, 10, 10, 120, 10] : List UInt8) then (if bt121.2 = 0 then (if (bt123.1.length : Int) = 1 then (if 0 < (bt123.1.length : Int) then (if (rdOf ByteArray.empty bt123.1 0).toList = ([48, 49, 50, 51, 52, 53, 54, 55, 56, 57, 97, 98, 99, 100, 101, 102, 48, 49, 50, 51, 52, 53, 54, 55, 56, 57, 97, 98, 99, 100, 101, 102, 48, 49, 50, 51, 52, 53, 54, 55] : List UInt8) then (if bt123.2 = 0 then (if bt131.2 = 1 then ((commit_Whole.f k 3 (⟨#[120]⟩ : ByteArray)).bind fun t139 => (some (t139 == 2))) else (some false)) else (some false)) else (some false)) else (none)) else (some false)) else (some false)) else (some false)) else (some false)) else (some false)) else (some false)) else (some false)))))))))))) = some r := h
 clear h
 replace H := Option.bind_eq_some_iff.mp H
 obtain ⟨⟨t101, t102, t103, t104, t105⟩, A10, H⟩ := H
 replace H : ((commit_ParseWho.f k (⟨#[97, 32, 60, 98, 62, 32, 48, 53, 32, 43, 48, 48, 48, 48]⟩ : ByteArray)).bind fun bt107 => ((graftagelaw16_who.f).bind fun bt113 => ((graftagelaw16_who.f).bind fun bt117 => ((commit_Body.f k (⟨#[48, 49, 50, 51, 52, 53, 54, 55, 56, 57, 97, 98, 99, 100, 101, 102, 48, 49, 50, 51, 52, 53, 54, 55, 56, 57, 97, 98, 99, 100, 101, 102, 48, 49, 50, 51, 52, 53, 54, 55]⟩ : ByteArray) ([] : List ByteArray) bt113.1 bt113.2.1 bt113.2.2.1 bt113.2.2.2 bt117.1 bt117.2.1 bt117.2.2.1 bt117.2.2.2 (⟨#[120, 10]⟩ : ByteArray)).bind fun bt121 => ((commit_Links.f k 3 bt121.1).bind fun bt123 => ((graftagelaw16_who.f).bind fun bt127 => ((commit_TagBody.f k (⟨#[48, 49, 50, 51, 52, 53, 54, 55, 56, 57, 97, 98, 99, 100, 101, 102, 48, 49, 50, 51, 52, 53, 54, 55, 56, 57, 97, 98, 99, 100, 101, 102, 48, 49, 50, 51, 52, 53, 54, 55]⟩ : ByteArray) 5 (⟨#[118]⟩ : ByteArray) bt127.1 bt127.2.1 bt127.2.2.1 bt127.2.2.2 (⟨#[]⟩ : ByteArray)).bind fun bt131 => ((graftagelaw16_who.f).bind fun bt133 => ((commit_Who.f bt133.1 bt133.2.1 bt133.2.2.1 bt133.2.2.2).bind fun t137 => (if t137.toList = ([97, 32, 60, 97, 64, 98, 62, 32, 53, 32, 43, 48, 49, 48, 48] : List UInt8) then (if t104 = (-90) then (if t105 = 0 then (if bt107.2.2.2.2 = 2 then (if bt121.1.toList = ([116, 114, 101, 101, 32, 48, 49, 50, 51, 52, 53, 54, 55, 56, 57, 97, 98, 99, 100, 101, 102, 48, 49, 50, 51, 52, 53, 54, 55, 56, 57, 97, 98, 99, 100, 101, 102, 48, 49, 50, 51, 52, 53, 54, 55, 10, 97, 117, 116, 104, 111, 114, 32, 97, 32, 60, 97, 64, 98, 62, 32, 53, 32, 43, 48, 49, 48, 48, 10, 99, 111, 109, 109, 105, 116, 116, 101, 114, 32, 97, 32, 60, 97, 64, 98, 62, 32, 53, 32, 43, 48, 49, 48, 48, 10, 10, 120, 10] : List UInt8) then (if bt121.2 = 0 then (if (bt123.1.length : Int) = 1 then (if 0 < (bt123.1.length : Int) then (if (rdOf ByteArray.empty bt123.1 0).toList = ([48, 49, 50, 51, 52, 53, 54, 55, 56, 57, 97, 98, 99, 100, 101, 102, 48, 49, 50, 51, 52, 53, 54, 55, 56, 57, 97, 98, 99, 100, 101, 102, 48, 49, 50, 51, 52, 53, 54, 55] : List UInt8) then (if bt123.2 = 0 then (if bt131.2 = 1 then ((commit_Whole.f k 3 (⟨#[120]⟩ : ByteArray)).bind fun t139 => (some (t139 == 2))) else (some false)) else (some false)) else (some false)) else (none)) else (some false)) else (some false)) else (some false)) else (some false)) else (some false)) else (some false)) else (some false))))))))))) = some r := H
 have A1 := Aside0.mk A10
 clear A10
 replace H := Option.bind_eq_some_iff.mp H
 obtain ⟨⟨t107, t108, t109, t110, t111⟩, A20, H⟩ := H
 replace H : ((graftagelaw16_who.f).bind fun bt113 => ((graftagelaw16_who.f).bind fun bt117 => ((commit_Body.f k (⟨#[48, 49, 50, 51, 52, 53, 54, 55, 56, 57, 97, 98, 99, 100, 101, 102, 48, 49, 50, 51, 52, 53, 54, 55, 56, 57, 97, 98, 99, 100, 101, 102, 48, 49, 50, 51, 52, 53, 54, 55]⟩ : ByteArray) ([] : List ByteArray) bt113.1 bt113.2.1 bt113.2.2.1 bt113.2.2.2 bt117.1 bt117.2.1 bt117.2.2.1 bt117.2.2.2 (⟨#[120, 10]⟩ : ByteArray)).bind fun bt121 => ((commit_Links.f k 3 bt121.1).bind fun bt123 => ((graftagelaw16_who.f).bind fun bt127 => ((commit_TagBody.f k (⟨#[48, 49, 50, 51, 52, 53, 54, 55, 56, 57, 97, 98, 99, 100, 101, 102, 48, 49, 50, 51, 52, 53, 54, 55, 56, 57, 97, 98, 99, 100, 101, 102, 48, 49, 50, 51, 52, 53, 54, 55]⟩ : ByteArray) 5 (⟨#[118]⟩ : ByteArray) bt127.1 bt127.2.1 bt127.2.2.1 bt127.2.2.2 (⟨#[]⟩ : ByteArray)).bind fun bt131 => ((graftagelaw16_who.f).bind fun bt133 => ((commit_Who.f bt133.1 bt133.2.1 bt133.2.2.1 bt133.2.2.2).bind fun t137 => (if t137.toList = ([97, 32, 60, 97, 64, 98, 62, 32, 53, 32, 43, 48, 49, 48, 48] : List UInt8) then (if t104 = (-90) then (if t105 = 0 then (if t111 = 2 then (if bt121.1.toList = ([116, 114, 101, 101, 32, 48, 49, 50, 51, 52, 53, 54, 55, 56, 57, 97, 98, 99, 100, 101, 102, 48, 49, 50, 51, 52, 53, 54, 55, 56, 57, 97, 98, 99, 100, 101, 102, 48, 49, 50, 51, 52, 53, 54, 55, 10, 97, 117, 116, 104, 111, 114, 32, 97, 32, 60, 97, 64, 98, 62, 32, 53, 32, 43, 48, 49, 48, 48, 10, 99, 111, 109, 109, 105, 116, 116, 101, 114, 32, 97, 32, 60, 97, 64, 98, 62, 32, 53, 32, 43, 48, 49, 48, 48, 10, 10, 120, 10] : List UInt8) then (if bt121.2 = 0 then (if (bt123.1.length : Int) = 1 then (if 0 < (bt123.1.length : Int) then (if (rdOf ByteArray.empty bt123.1 0).toList = ([48, 49, 50, 51, 52, 53, 54, 55, 56, 57, 97, 98, 99, 100, 101, 102, 48, 49, 50, 51, 52, 53, 54, 55, 56, 57, 97, 98, 99, 100, 101, 102, 48, 49, 50, 51, 52, 53, 54, 55] : List UInt8) then (if bt123.2 = 0 then (if bt131.2 = 1 then ((commit_Whole.f k 3 (⟨#[120]⟩ : ByteArray)).bind fun t139 => (some (t139 == 2))) else (some false)) else (some false)) else (some false)) else (none)) else (some false)) else (some false)) else (some false)) else (some false)) else (some false)) else (some false)) else (some false)))))))))) = some r := H
 have A2 := Aside0.mk A20
 clear A20
 replace H := Option.bind_eq_some_iff.mp H
 obtain ⟨⟨t113, t114, t115, t116⟩, A30, H⟩ := H
 replace H : ((graftagelaw16_who.f).bind fun bt117 => ((commit_Body.f k (⟨#[48, 49, 50, 51, 52, 53, 54, 55, 56, 57, 97, 98, 99, 100, 101, 102, 48, 49, 50, 51, 52, 53, 54, 55, 56, 57, 97, 98, 99, 100, 101, 102, 48, 49, 50, 51, 52, 53, 54, 55]⟩ : ByteArray) ([] : List ByteArray) t113 t114 t115 t116 bt117.1 bt117.2.1 bt117.2.2.1 bt117.2.2.2 (⟨#[120, 10]⟩ : ByteArray)).bind fun bt121 => ((commit_Links.f k 3 bt121.1).bind fun bt123 => ((graftagelaw16_who.f).bind fun bt127 => ((commit_TagBody.f k (⟨#[48, 49, 50, 51, 52, 53, 54, 55, 56, 57, 97, 98, 99, 100, 101, 102, 48, 49, 50, 51, 52, 53, 54, 55, 56, 57, 97, 98, 99, 100, 101, 102, 48, 49, 50, 51, 52, 53, 54, 55]⟩ : ByteArray) 5 (⟨#[118]⟩ : ByteArray) bt127.1 bt127.2.1 bt127.2.2.1 bt127.2.2.2 (⟨#[]⟩ : ByteArray)).bind fun bt131 => ((graftagelaw16_who.f).bind fun bt133 => ((commit_Who.f bt133.1 bt133.2.1 bt133.2.2.1 bt133.2.2.2).bind fun t137 => (if t137.toList = ([97, 32, 60, 97, 64, 98, 62, 32, 53, 32, 43, 48, 49, 48, 48] : List UInt8) then (if t104 = (-90) then (if t105 = 0 then (if t111 = 2 then (if bt121.1.toList = ([116, 114, 101, 101, 32, 48, 49, 50, 51, 52, 53, 54, 55, 56, 57, 97, 98, 99, 100, 101, 102, 48, 49, 50, 51, 52, 53, 54, 55, 56, 57, 97, 98, 99, 100, 101, 102, 48, 49, 50, 51, 52, 53, 54, 55, 10, 97, 117, 116, 104, 111, 114, 32, 97, 32, 60, 97, 64, 98, 62, 32, 53, 32, 43, 48, 49, 48, 48, 10, 99, 111, 109, 109, 105, 116, 116, 101, 114, 32, 97, 32, 60, 97, 64, 98, 62, 32, 53, 32, 43, 48, 49, 48, 48, 10, 10, 120, 10] : List UInt8) then (if bt121.2 = 0 then (if (bt123.1.length : Int) = 1 then (if 0 < (bt123.1.length : Int) then (if (rdOf ByteArray.empty bt123.1 0).toList = ([48, 49, 50, 51, 52, 53, 54, 55, 56, 57, 97, 98, 99, 100, 101, 102, 48, 49, 50, 51, 52, 53, 54, 55, 56, 57, 97, 98, 99, 100, 101, 102, 48, 49, 50, 51, 52, 53, 54, 55] : List UInt8) then (if bt123.2 = 0 then (if bt131.2 = 1 then ((commit_Whole.f k 3 (⟨#[120]⟩ : ByteArray)).bind fun t139 => (some (t139 == 2))) else (some false)) else (some false)) else (some false)) else (none)) else (some false)) else (some false)) else (some false)) else (some false)) else (some false)) else (some false)) else (some false))))))))) = some r := H
 have A3 := Aside0.mk A30
 clear A30
 replace H := Option.bind_eq_some_iff.mp H
 obtain ⟨⟨t117, t118, t119, t120⟩, A40, H⟩ := H
 replace H : ((commit_Body.f k (⟨#[48, 49, 50, 51, 52, 53, 54, 55, 56, 57, 97, 98, 99, 100, 101, 102, 48, 49, 50, 51, 52, 53, 54, 55, 56, 57, 97, 98, 99, 100, 101, 102, 48, 49, 50, 51, 52, 53, 54, 55]⟩ : ByteArray) ([] : List ByteArray) t113 t114 t115 t116 t117 t118 t119 t120 (⟨#[120, 10]⟩ : ByteArray)).bind fun bt121 => ((commit_Links.f k 3 bt121.1).bind fun bt123 => ((graftagelaw16_who.f).bind fun bt127 => ((commit_TagBody.f k (⟨#[48, 49, 50, 51, 52, 53, 54, 55, 56, 57, 97, 98, 99, 100, 101, 102, 48, 49, 50, 51, 52, 53, 54, 55, 56, 57, 97, 98, 99, 100, 101, 102, 48, 49, 50, 51, 52, 53, 54, 55]⟩ : ByteArray) 5 (⟨#[118]⟩ : ByteArray) bt127.1 bt127.2.1 bt127.2.2.1 bt127.2.2.2 (⟨#[]⟩ : ByteArray)).bind fun bt131 => ((graftagelaw16_who.f).bind fun bt133 => ((commit_Who.f bt133.1 bt133.2.1 bt133.2.2.1 bt133.2.2.2).bind fun t137 => (if t137.toList = ([97, 32, 60, 97, 64, 98, 62, 32, 53, 32, 43, 48, 49, 48, 48] : List UInt8) then (if t104 = (-90) then (if t105 = 0 then (if t111 = 2 then (if bt121.1.toList = ([116, 114, 101, 101, 32, 48, 49, 50, 51, 52, 53, 54, 55, 56, 57, 97, 98, 99, 100, 101, 102, 48, 49, 50, 51, 52, 53, 54, 55, 56, 57, 97, 98, 99, 100, 101, 102, 48, 49, 50, 51, 52, 53, 54, 55, 10, 97, 117, 116, 104, 111, 114, 32, 97, 32, 60, 97, 64, 98, 62, 32, 53, 32, 43, 48, 49, 48, 48, 10, 99, 111, 109, 109, 105, 116, 116, 101, 114, 32, 97, 32, 60, 97, 64, 98, 62, 32, 53, 32, 43, 48, 49, 48, 48, 10, 10, 120, 10] : List UInt8) then (if bt121.2 = 0 then (if (bt123.1.length : Int) = 1 then (if 0 < (bt123.1.length : Int) then (if (rdOf ByteArray.empty bt123.1 0).toList = ([48, 49, 50, 51, 52, 53, 54, 55, 56, 57, 97, 98, 99, 100, 101, 102, 48, 49, 50, 51, 52, 53, 54, 55, 56, 57, 97, 98, 99, 100, 101, 102, 48, 49, 50, 51, 52, 53, 54, 55] : List UInt8) then (if bt123.2 = 0 then (if bt131.2 = 1 then ((commit_Whole.f k 3 (⟨#[120]⟩ : ByteArray)).bind fun t139 => (some (t139 == 2))) else (some false)) else (some false)) else (some false)) else (none)) else (some false)) else (some false)) else (some false)) else (some false)) else (some false)) else (some false)) else (some false)))))))) = some r := H
 have A4 := Aside0.mk A40
 clear A40
 replace H := Option.bind_eq_some_iff.mp H
 obtain ⟨⟨t121, t122⟩, A50, H⟩ := H
 replace H : ((commit_Links.f k 3 t121).bind fun bt123 => ((graftagelaw16_who.f).bind fun bt127 => ((commit_TagBody.f k (⟨#[48, 49, 50, 51, 52, 53, 54, 55, 56, 57, 97, 98, 99, 100, 101, 102, 48, 49, 50, 51, 52, 53, 54, 55, 56, 57, 97, 98, 99, 100, 101, 102, 48, 49, 50, 51, 52, 53, 54, 55]⟩ : ByteArray) 5 (⟨#[118]⟩ : ByteArray) bt127.1 bt127.2.1 bt127.2.2.1 bt127.2.2.2 (⟨#[]⟩ : ByteArray)).bind fun bt131 => ((graftagelaw16_who.f).bind fun bt133 => ((commit_Who.f bt133.1 bt133.2.1 bt133.2.2.1 bt133.2.2.2).bind fun t137 => (if t137.toList = ([97, 32, 60, 97, 64, 98, 62, 32, 53, 32, 43, 48, 49, 48, 48] : List UInt8) then (if t104 = (-90) then (if t105 = 0 then (if t111 = 2 then (if t121.toList = ([116, 114, 101, 101, 32, 48, 49, 50, 51, 52, 53, 54, 55, 56, 57, 97, 98, 99, 100, 101, 102, 48, 49, 50, 51, 52, 53, 54, 55, 56, 57, 97, 98, 99, 100, 101, 102, 48, 49, 50, 51, 52, 53, 54, 55, 10, 97, 117, 116, 104, 111, 114, 32, 97, 32, 60, 97, 64, 98, 62, 32, 53, 32, 43, 48, 49, 48, 48, 10, 99, 111, 109, 109, 105, 116, 116, 101, 114, 32, 97, 32, 60, 97, 64, 98, 62, 32, 53, 32, 43, 48, 49, 48, 48, 10, 10, 120, 10] : List UInt8) then (if t122 = 0 then (if (bt123.1.length : Int) = 1 then (if 0 < (bt123.1.length : Int) then (if (rdOf ByteArray.empty bt123.1 0).toList = ([48, 49, 50, 51, 52, 53, 54, 55, 56, 57, 97, 98, 99, 100, 101, 102, 48, 49, 50, 51, 52, 53, 54, 55, 56, 57, 97, 98, 99, 100, 101, 102, 48, 49, 50, 51, 52, 53, 54, 55] : List UInt8) then (if bt123.2 = 0 then (if bt131.2 = 1 then ((commit_Whole.f k 3 (⟨#[120]⟩ : ByteArray)).bind fun t139 => (some (t139 == 2))) else (some false)) else (some false)) else (some false)) else (none)) else (some false)) else (some false)) else (some false)) else (some false)) else (some false)) else (some false)) else (some false))))))) = some r := H
 have A5 := Aside0.mk A50
 clear A50
 replace H := Option.bind_eq_some_iff.mp H
 obtain ⟨⟨t123, t126⟩, A60, H⟩ := H
 replace H : ((graftagelaw16_who.f).bind fun bt127 => ((commit_TagBody.f k (⟨#[48, 49, 50, 51, 52, 53, 54, 55, 56, 57, 97, 98, 99, 100, 101, 102, 48, 49, 50, 51, 52, 53, 54, 55, 56, 57, 97, 98, 99, 100, 101, 102, 48, 49, 50, 51, 52, 53, 54, 55]⟩ : ByteArray) 5 (⟨#[118]⟩ : ByteArray) bt127.1 bt127.2.1 bt127.2.2.1 bt127.2.2.2 (⟨#[]⟩ : ByteArray)).bind fun bt131 => ((graftagelaw16_who.f).bind fun bt133 => ((commit_Who.f bt133.1 bt133.2.1 bt133.2.2.1 bt133.2.2.2).bind fun t137 => (if t137.toList = ([97, 32, 60, 97, 64, 98, 62, 32, 53, 32, 43, 48, 49, 48, 48] : List UInt8) then (if t104 = (-90) then (if t105 = 0 then (if t111 = 2 then (if t121.toList = ([116, 114, 101, 101, 32, 48, 49, 50, 51, 52, 53, 54, 55, 56, 57, 97, 98, 99, 100, 101, 102, 48, 49, 50, 51, 52, 53, 54, 55, 56, 57, 97, 98, 99, 100, 101, 102, 48, 49, 50, 51, 52, 53, 54, 55, 10, 97, 117, 116, 104, 111, 114, 32, 97, 32, 60, 97, 64, 98, 62, 32, 53, 32, 43, 48, 49, 48, 48, 10, 99, 111, 109, 109, 105, 116, 116, 101, 114, 32, 97, 32, 60, 97, 64, 98, 62, 32, 53, 32, 43, 48, 49, 48, 48, 10, 10, 120, 10] : List UInt8) then (if t122 = 0 then (if (t123.length : Int) = 1 then (if 0 < (t123.length : Int) then (if (rdOf ByteArray.empty t123 0).toList = ([48, 49, 50, 51, 52, 53, 54, 55, 56, 57, 97, 98, 99, 100, 101, 102, 48, 49, 50, 51, 52, 53, 54, 55, 56, 57, 97, 98, 99, 100, 101, 102, 48, 49, 50, 51, 52, 53, 54, 55] : List UInt8) then (if t126 = 0 then (if bt131.2 = 1 then ((commit_Whole.f k 3 (⟨#[120]⟩ : ByteArray)).bind fun t139 => (some (t139 == 2))) else (some false)) else (some false)) else (some false)) else (none)) else (some false)) else (some false)) else (some false)) else (some false)) else (some false)) else (some false)) else (some false)))))) = some r := H
 have A6 := Aside0.mk A60
 clear A60
 replace H := Option.bind_eq_some_iff.mp H
 obtain ⟨⟨t127, t128, t129, t130⟩, A70, H⟩ := H
 replace H : ((commit_TagBody.f k (⟨#[48, 49, 50, 51, 52, 53, 54, 55, 56, 57, 97, 98, 99, 100, 101, 102, 48, 49, 50, 51, 52, 53, 54, 55, 56, 57, 97, 98, 99, 100, 101, 102, 48, 49, 50, 51, 52, 53, 54, 55]⟩ : ByteArray) 5 (⟨#[118]⟩ : ByteArray) t127 t128 t129 t130 (⟨#[]⟩ : ByteArray)).bind fun bt131 => ((graftagelaw16_who.f).bind fun bt133 => ((commit_Who.f bt133.1 bt133.2.1 bt133.2.2.1 bt133.2.2.2).bind fun t137 => (if t137.toList = ([97, 32, 60, 97, 64, 98, 62, 32, 53, 32, 43, 48, 49, 48, 48] : List UInt8) then (if t104 = (-90) then (if t105 = 0 then (if t111 = 2 then (if t121.toList = ([116, 114, 101, 101, 32, 48, 49, 50, 51, 52, 53, 54, 55, 56, 57, 97, 98, 99, 100, 101, 102, 48, 49, 50, 51, 52, 53, 54, 55, 56, 57, 97, 98, 99, 100, 101, 102, 48, 49, 50, 51, 52, 53, 54, 55, 10, 97, 117, 116, 104, 111, 114, 32, 97, 32, 60, 97, 64, 98, 62, 32, 53, 32, 43, 48, 49, 48, 48, 10, 99, 111, 109, 109, 105, 116, 116, 101, 114, 32, 97, 32, 60, 97, 64, 98, 62, 32, 53, 32, 43, 48, 49, 48, 48, 10, 10, 120, 10] : List UInt8) then (if t122 = 0 then (if (t123.length : Int) = 1 then (if 0 < (t123.length : Int) then (if (rdOf ByteArray.empty t123 0).toList = ([48, 49, 50, 51, 52, 53, 54, 55, 56, 57, 97, 98, 99, 100, 101, 102, 48, 49, 50, 51, 52, 53, 54, 55, 56, 57, 97, 98, 99, 100, 101, 102, 48, 49, 50, 51, 52, 53, 54, 55] : List UInt8) then (if t126 = 0 then (if bt131.2 = 1 then ((commit_Whole.f k 3 (⟨#[120]⟩ : ByteArray)).bind fun t139 => (some (t139 == 2))) else (some false)) else (some false)) else (some false)) else (none)) else (some false)) else (some false)) else (some false)) else (some false)) else (some false)) else (some false)) else (some false))))) = some r := H
 have A7 := Aside0.mk A70
 clear A70
 replace H := Option.bind_eq_some_iff.mp H
 obtain ⟨⟨t131, t132⟩, A80, H⟩ := H
 replace H : ((graftagelaw16_who.f).bind fun bt133 => ((commit_Who.f bt133.1 bt133.2.1 bt133.2.2.1 bt133.2.2.2).bind fun t137 => (if t137.toList = ([97, 32, 60, 97, 64, 98, 62, 32, 53, 32, 43, 48, 49, 48, 48] : List UInt8) then (if t104 = (-90) then (if t105 = 0 then (if t111 = 2 then (if t121.toList = ([116, 114, 101, 101, 32, 48, 49, 50, 51, 52, 53, 54, 55, 56, 57, 97, 98, 99, 100, 101, 102, 48, 49, 50, 51, 52, 53, 54, 55, 56, 57, 97, 98, 99, 100, 101, 102, 48, 49, 50, 51, 52, 53, 54, 55, 10, 97, 117, 116, 104, 111, 114, 32, 97, 32, 60, 97, 64, 98, 62, 32, 53, 32, 43, 48, 49, 48, 48, 10, 99, 111, 109, 109, 105, 116, 116, 101, 114, 32, 97, 32, 60, 97, 64, 98, 62, 32, 53, 32, 43, 48, 49, 48, 48, 10, 10, 120, 10] : List UInt8) then (if t122 = 0 then (if (t123.length : Int) = 1 then (if 0 < (t123.length : Int) then (if (rdOf ByteArray.empty t123 0).toList = ([48, 49, 50, 51, 52, 53, 54, 55, 56, 57, 97, 98, 99, 100, 101, 102, 48, 49, 50, 51, 52, 53, 54, 55, 56, 57, 97, 98, 99, 100, 101, 102, 48, 49, 50, 51, 52, 53, 54, 55] : List UInt8) then (if t126 = 0 then (if t132 = 1 then ((commit_Whole.f k 3 (⟨#[120]⟩ : ByteArray)).bind fun t139 => (some (t139 == 2))) else (some false)) else (some false)) else (some false)) else (none)) else (some false)) else (some false)) else (some false)) else (some false)) else (some false)) else (some false)) else (some false)))) = some r := H
 have A8 := Aside0.mk A80
 clear A80
 replace H := Option.bind_eq_some_iff.mp H
 obtain ⟨⟨t133, t134, t135, t136⟩, A90, H⟩ := H
 replace H : ((commit_Who.f t133 t134 t135 t136).bind fun t137 => (if t137.toList = ([97, 32, 60, 97, 64, 98, 62, 32, 53, 32, 43, 48, 49, 48, 48] : List UInt8) then (if t104 = (-90) then (if t105 = 0 then (if t111 = 2 then (if t121.toList = ([116, 114, 101, 101, 32, 48, 49, 50, 51, 52, 53, 54, 55, 56, 57, 97, 98, 99, 100, 101, 102, 48, 49, 50, 51, 52, 53, 54, 55, 56, 57, 97, 98, 99, 100, 101, 102, 48, 49, 50, 51, 52, 53, 54, 55, 10, 97, 117, 116, 104, 111, 114, 32, 97, 32, 60, 97, 64, 98, 62, 32, 53, 32, 43, 48, 49, 48, 48, 10, 99, 111, 109, 109, 105, 116, 116, 101, 114, 32, 97, 32, 60, 97, 64, 98, 62, 32, 53, 32, 43, 48, 49, 48, 48, 10, 10, 120, 10] : List UInt8) then (if t122 = 0 then (if (t123.length : Int) = 1 then (if 0 < (t123.length : Int) then (if (rdOf ByteArray.empty t123 0).toList = ([48, 49, 50, 51, 52, 53, 54, 55, 56, 57, 97, 98, 99, 100, 101, 102, 48, 49, 50, 51, 52, 53, 54, 55, 56, 57, 97, 98, 99, 100, 101, 102, 48, 49, 50, 51, 52, 53, 54, 55] : List UInt8) then (if t126 = 0 then (if t132 = 1 then ((commit_Whole.f k 3 (⟨#[120]⟩ : ByteArray)).bind fun t139 => (some (t139 == 2))) else (some false)) else (some false)) else (some false)) else (none)) else (some false)) else (some false)) else (some false)) else (some false)) else (some false)) else (some false)) else (some false))) = some r := H
 have A9 := Aside0.mk A90
 clear A90
 replace H := Option.bind_eq_some_iff.mp H
 obtain ⟨t137, A100, H⟩ := H
 have A10 := Aside0.mk A100
 clear A100
 by_cases c11 : t137.toList = ([97, 32, 60, 97, 64, 98, 62, 32, 53, 32, 43, 48, 49, 48, 48] : List UInt8)
 ·rw [if_pos c11] at H
  have c11b0 := beq_iff_eq.mpr c11
  have c11b1 := bne_eq_false_iff_eq.mpr c11
  clear c11
  by_cases c12 : t104 = (-90)
  ·rw [if_pos c12] at H
   have c12b0 := beq_iff_eq.mpr c12
   have c12b1 := bne_eq_false_iff_eq.mpr c12
   clear c12
   by_cases c13 : t105 = 0
   ·rw [if_pos c13] at H
    have c13b0 := beq_iff_eq.mpr c13
    have c13b1 := bne_eq_false_iff_eq.mpr c13
    clear c13
    by_cases c14 : t111 = 2
    ·rw [if_pos c14] at H
     have c14b0 := beq_iff_eq.mpr c14
     have c14b1 := bne_eq_false_iff_eq.mpr c14
     clear c14
     by_cases c15 : t121.toList = ([116, 114, 101, 101, 32, 48, 49, 50, 51, 52, 53, 54, 55, 56, 57, 97, 98, 99, 100, 101, 102, 48, 49, 50, 51, 52, 53, 54, 55, 56, 57, 97, 98, 99, 100, 101, 102, 48, 49, 50, 51, 52, 53, 54, 55, 10, 97, 117, 116, 104, 111, 114, 32, 97, 32, 60, 97, 64, 98, 62, 32, 53, 32, 43, 48, 49, 48, 48, 10, 99, 111, 109, 109, 105, 116, 116, 101, 114, 32, 97, 32, 60, 97, 64, 98, 62, 32, 53, 32, 43, 48, 49, 48, 48, 10, 10, 120, 10] : List UInt8)
     ·rw [if_pos c15] at H
      have c15b0 := beq_iff_eq.mpr c15
      have c15b1 := bne_eq_false_iff_eq.mpr c15
      clear c15
      by_cases c16 : t122 = 0
      ·rw [if_pos c16] at H
       have c16b0 := beq_iff_eq.mpr c16
       have c16b1 := bne_eq_false_iff_eq.mpr c16
       clear c16
       by_cases c17 : (t123.length : Int) = 1
       ·rw [if_pos c17] at H
        have c17b0 := beq_iff_eq.mpr c17
        have c17b1 := bne_eq_false_iff_eq.mpr c17
        clear c17
        by_cases c18 : 0 < (t123.length : Int)
        ·rw [if_pos c18] at H
         have c18b0 := decide_eq_true c18
         have c18b1 : decide (0 < t123.length) = true := decide_eq_true (by omega)
         clear c18
         by_cases c19 : (rdOf ByteArray.empty t123 0).toList = ([48, 49, 50, 51, 52, 53, 54, 55, 56, 57, 97, 98, 99, 100, 101, 102, 48, 49, 50, 51, 52, 53, 54, 55, 56, 57, 97, 98, 99, 100, 101, 102, 48, 49, 50, 51, 52, 53, 54, 55] : List UInt8)
         ·rw [if_pos c19] at H
          have c19b0 := beq_iff_eq.mpr c19
          have c19b1 := bne_eq_false_iff_eq.mpr c19
          clear c19
          by_cases c20 : t126 = 0
          ·rw [if_pos c20] at H
           have c20b0 := beq_iff_eq.mpr c20
           have c20b1 := bne_eq_false_iff_eq.mpr c20
           clear c20
           by_cases c21 : t132 = 1
           ·rw [if_pos c21] at H
            have c21b0 := beq_iff_eq.mpr c21
            have c21b1 := bne_eq_false_iff_eq.mpr c21
            clear c21
            replace H := Option.bind_eq_some_iff.mp H
            obtain ⟨t139, A220, H⟩ := H
            have A22 := Aside0.mk A220
            clear A220
            obtain rfl := Option.some.inj H
            go_enter Tryz.func15, Tryz.ntmps15
            have tk1_ : True := trivial
            have tk2_ : True := trivial
            have tk3_ : True := trivial
            have tk4_ : True := trivial
            have tk5_ : True := trivial
            have tk6_ : True := trivial
            go_wp2_with (first | (have _t := tk1_; (with_reducible refine gate_callee (f := 29) rfl ?_); refine goesL_ (some 12) rfl rfl Tryz.func29 (by kernel_rfl) rfl #[.string (⟨#[97, 32, 60, 97, 64, 98, 62, 32, 53, 32, 45, 48, 49, 51, 48]⟩ : ByteArray)] rfl z2_ ?_; (with_reducible refine (commit_ParseWho.calls k (⟨#[97, 32, 60, 97, 64, 98, 62, 32, 53, 32, 45, 48, 49, 51, 48]⟩ : ByteArray) t101 t102 t103 t104 t105 _ ?side1 A1.out).mono ?_); (case side1 => exact GV.below hgv (hb_ HB.out)); rintro e w23 ⟨rfl, hb⟩; refine ⟨_, rfl, ?_⟩; replace HB := Aside0.mk (below_step (hb_ HB.out) hb); (try clear hb); (try clear hb2); (try clear hk); (try clear hi); clear tk1_) | ((with_reducible refine gate_dst (N := 1) rfl ?_); (try (refine gate_guard (by rfl) ?_; dsimp only)); refine be_ (cs := #[.string (⟨#[]⟩ : ByteArray), .string (⟨#[]⟩ : ByteArray), .int .i64 0, .int .i64 0]) (t := 24) ?_; intro gb106 hg w24 hbox hb; have BK106 := Aside0.mk (hbox); have GW106 := Aside0.mk (gw_ hg HB.out); have GE106 := Aside0.mk (gw_ hg HB.out); replace HB := Aside0.mk (below_step (hb_ HB.out) hb); clear hb hbox hg; obtain ⟨hcz25_0, hcz25_1, hcz25_2, hcz25_3, hfz25_0, hfz25_1, hfz25_2, hfz25_3⟩ := bc4 BK106.out) | (have _t := tk2_; (with_reducible refine gate_callee (f := 29) rfl ?_); refine goesL_ (some 16) rfl rfl Tryz.func29 (by kernel_rfl) rfl #[.string (⟨#[97, 32, 60, 98, 62, 32, 48, 53, 32, 43, 48, 48, 48, 48]⟩ : ByteArray)] rfl z2_ ?_; (with_reducible refine (commit_ParseWho.calls k (⟨#[97, 32, 60, 98, 62, 32, 48, 53, 32, 43, 48, 48, 48, 48]⟩ : ByteArray) t107 t108 t109 t110 t111 _ ?side1 A2.out).mono ?_); (case side1 => exact GV.below hgv (hs_)); rintro e w26 ⟨rfl, hb⟩; refine ⟨_, rfl, ?_⟩; replace BK106 := Aside0.mk (blk_below (g := gb106) (o := .cells #[.string t101, .string t102, .int .i64 t103, .int .i64 t104] 24 (0, 0)) (by have b_ := BK106; exact zb_) hb); replace HB := Aside0.mk (below_step (hs_) hb); (try clear hb); (try clear hb2); (try clear hk); (try clear hi); clear tk2_) | ((with_reducible refine gate_dst (N := 3) rfl ?_); (try (refine gate_guard (by rfl) ?_; dsimp only)); refine be_ (cs := #[.string (⟨#[]⟩ : ByteArray), .string (⟨#[]⟩ : ByteArray), .int .i64 0, .int .i64 0]) (t := 24) ?_; intro gb112 hg w27 hbox hb; have BK112 := Aside0.mk (hbox); have GW112 := Aside0.mk ((by rw [hg]; exact (below_size (hs_)) : w.heap.size ≤ gb112)); have GE112 := Aside0.mk ((by rw [hg]; exact (below_size (hs_)) : w.heap.size ≤ gb112)); replace HB := Aside0.mk (below_step (hs_) hb); have NB106_112 := Aside0.mk (nl2_ hg BK106.out); have NB112_106 := Aside0.mk (ng2_ hg BK106.out); replace BK106 := Aside0.mk (bb_ BK106.out hb); clear hb hbox hg; have hnb28 := NB112_106.out; have hnc28 := NB106_112.out; obtain ⟨hcz29_0, hcz29_1, hcz29_2, hcz29_3, hfz29_0, hfz29_1, hfz29_2, hfz29_3⟩ := bc4 BK112.out) | (have _t := tk3_; (with_reducible refine gate_callee (f := 63) rfl ?_); refine goesL_ (some 20) rfl rfl Tryz.func63 (by kernel_rfl) rfl #[] rfl z2_ ?_; (with_reducible refine (graftagelaw16_who.calls  t113 t114 t115 t116 _ A3.out).mono ?_); rintro e w30 ⟨rfl, hb⟩; refine ⟨_, rfl, ?_⟩; replace BK106 := Aside0.mk (blk_below (g := gb106) (o := .cells #[.string t101, .string t102, .int .i64 t103, .int .i64 t104] 24 (0, 0)) (by have b_ := BK106; have f_ := NB106_112; exact zb_) hb); replace BK112 := Aside0.mk (blk_below (g := gb112) (o := .cells #[.string t107, .string t108, .int .i64 t109, .int .i64 t110] 24 (0, 0)) (by have b_ := BK112; exact zb_) hb); replace HB := Aside0.mk (below_step (hs_) hb); (try clear hb); (try clear hb2); (try clear hk); (try clear hi); clear tk3_) | (have _t := tk4_; (with_reducible refine gate_callee (f := 63) rfl ?_); refine goesL_ (some 21) rfl rfl Tryz.func63 (by kernel_rfl) rfl #[] rfl z2_ ?_; (with_reducible refine (graftagelaw16_who.calls  t117 t118 t119 t120 _ A4.out).mono ?_); rintro e w31 ⟨rfl, hb⟩; refine ⟨_, rfl, ?_⟩; replace BK106 := Aside0.mk (bb_ BK106.out hb); replace BK112 := Aside0.mk (bb_ BK112.out hb); replace HB := Aside0.mk (below_step (hs_) hb); (try clear hb); (try clear hb2); (try clear hk); (try clear hi); clear tk4_) | ((with_reducible refine gate_callee (f := 16) rfl ?_); refine goesL_ (some 23) rfl rfl Tryz.func16 (by kernel_rfl) rfl #[.agg #[.string (⟨#[48, 49, 50, 51, 52, 53, 54, 55, 56, 57, 97, 98, 99, 100, 101, 102, 48, 49, 50, 51, 52, 53, 54, 55, 56, 57, 97, 98, 99, 100, 101, 102, 48, 49, 50, 51, 52, 53, 54, 55]⟩ : ByteArray), .slice none 0 0, .string t113, .string t114, .int .i64 t115, .int .i64 t116, .string t117, .string t118, .int .i64 t119, .int .i64 t120, .string (⟨#[120, 10]⟩ : ByteArray)]] rfl z2_ ?_; (refine (commit_Body.calls k (⟨#[48, 49, 50, 51, 52, 53, 54, 55, 56, 57, 97, 98, 99, 100, 101, 102, 48, 49, 50, 51, 52, 53, 54, 55, 56, 57, 97, 98, 99, 100, 101, 102, 48, 49, 50, 51, 52, 53, 54, 55]⟩ : ByteArray) _ _ ([] : List ByteArray) t113 t114 t115 t116 t117 t118 t119 t120 (⟨#[120, 10]⟩ : ByteArray) t121 t122 _ ?side1 ?side2 ?side3 A5.out).mono ?_); (case side1 => exact Kd.C_nil _ _); (case side2 => exact Nat.le_refl _); (case side3 => exact GV.below hgv (hs_)); rintro e w32 ⟨rfl, hb⟩; refine ⟨_, rfl, ?_⟩; replace BK106 := Aside0.mk (bb_ BK106.out hb); replace BK112 := Aside0.mk (bb_ BK112.out hb); replace HB := Aside0.mk (below_step (hs_) hb); (try clear hb); (try clear hb2); (try clear hk); (try clear hi)) | ((with_reducible refine gate_callee (f := 34) rfl ?_); refine goesL_ (some 29) rfl rfl Tryz.func34 (by kernel_rfl) rfl #[.agg #[.int .i64 3, .string t121]] rfl z2_ ?_; (with_reducible refine (commit_Links.calls k 3 t121 t123 t126 _ ?side1 A6.out).mono ?_); (case side1 => exact GV.below hgv (hs_)); rintro e w33 ⟨v124, rfl, ho0, hb⟩; refine ⟨_, rfl, ?_⟩; have HO125 := Aside0.mk (Kd.R_lower ho0 (below_size (hs_))); replace BK106 := Aside0.mk (bb_ BK106.out hb); replace BK112 := Aside0.mk (bb_ BK112.out hb); replace HB := Aside0.mk (below_step (hs_) hb); (try clear hb); (try clear hb2); (try clear hk); (try clear hi); (try clear ho0)) | (have _t := tk5_; (with_reducible refine gate_callee (f := 63) rfl ?_); refine goesL_ (some 33) rfl rfl Tryz.func63 (by kernel_rfl) rfl #[] rfl z2_ ?_; (with_reducible refine (graftagelaw16_who.calls  t127 t128 t129 t130 _ A7.out).mono ?_); rintro e w34 ⟨rfl, hb⟩; refine ⟨_, rfl, ?_⟩; replace HO125 := Aside0.mk (Kd.R_below (rk_ HO125.out) hb); replace BK106 := Aside0.mk (bb_ BK106.out hb); replace BK112 := Aside0.mk (bb_ BK112.out hb); replace HB := Aside0.mk (below_step (hs_) hb); (try clear hb); (try clear hb2); (try clear hk); (try clear hi); clear tk5_) | ((with_reducible refine gate_callee (f := 25) rfl ?_); refine goesL_ (some 35) rfl rfl Tryz.func25 (by kernel_rfl) rfl #[.agg #[.string (⟨#[48, 49, 50, 51, 52, 53, 54, 55, 56, 57, 97, 98, 99, 100, 101, 102, 48, 49, 50, 51, 52, 53, 54, 55, 56, 57, 97, 98, 99, 100, 101, 102, 48, 49, 50, 51, 52, 53, 54, 55]⟩ : ByteArray), .int .i64 5, .string (⟨#[118]⟩ : ByteArray), .string t127, .string t128, .int .i64 t129, .int .i64 t130, .string (⟨#[]⟩ : ByteArray)]] rfl z2_ ?_; (with_reducible refine (commit_TagBody.calls k (⟨#[48, 49, 50, 51, 52, 53, 54, 55, 56, 57, 97, 98, 99, 100, 101, 102, 48, 49, 50, 51, 52, 53, 54, 55, 56, 57, 97, 98, 99, 100, 101, 102, 48, 49, 50, 51, 52, 53, 54, 55]⟩ : ByteArray) 5 (⟨#[118]⟩ : ByteArray) t127 t128 t129 t130 (⟨#[]⟩ : ByteArray) t131 t132 _ ?side1 A8.out).mono ?_); (case side1 => exact GV.below hgv (hs_)); rintro e w35 ⟨rfl, hb⟩; refine ⟨_, rfl, ?_⟩; replace HO125 := Aside0.mk (Kd.R_below (rk_ HO125.out) hb); replace BK106 := Aside0.mk (bb_ BK106.out hb); replace BK112 := Aside0.mk (bb_ BK112.out hb); replace HB := Aside0.mk (below_step (hs_) hb); (try clear hb); (try clear hb2); (try clear hk); (try clear hi)) | (have _t := tk6_; (with_reducible refine gate_callee (f := 63) rfl ?_); refine goesL_ (some 38) rfl rfl Tryz.func63 (by kernel_rfl) rfl #[] rfl z2_ ?_; (with_reducible refine (graftagelaw16_who.calls  t133 t134 t135 t136 _ A9.out).mono ?_); rintro e w36 ⟨rfl, hb⟩; refine ⟨_, rfl, ?_⟩; replace HO125 := Aside0.mk (Kd.R_below (rk_ HO125.out) hb); replace BK106 := Aside0.mk (bb_ BK106.out hb); replace BK112 := Aside0.mk (bb_ BK112.out hb); replace HB := Aside0.mk (below_step (hs_) hb); (try clear hb); (try clear hb2); (try clear hk); (try clear hi); clear tk6_) | ((with_reducible refine gate_callee (f := 31) rfl ?_); refine goesL_ (some 39) rfl rfl Tryz.func31 (by kernel_rfl) rfl #[.agg #[.string t133, .string t134, .int .i64 t135, .int .i64 t136]] rfl z2_ ?_; (with_reducible refine (commit_Who.calls t133 t134 t135 t136 t137 _ ?side1 A10.out).mono ?_); (case side1 => exact GV.below hgv (hs_)); rintro e w37 ⟨rfl, hb⟩; refine ⟨_, rfl, ?_⟩; replace HO125 := Aside0.mk (Kd.R_below (rk_ HO125.out) hb); replace BK106 := Aside0.mk (bb_ BK106.out hb); replace BK112 := Aside0.mk (bb_ BK112.out hb); replace HB := Aside0.mk (below_step (hs_) hb); (try clear hb); (try clear hb2); (try clear hk); (try clear hi); obtain ⟨hcz38_0, hcz38_1, hcz38_2, hcz38_3, hfz38_0, hfz38_1, hfz38_2, hfz38_3⟩ := bc4 BK106.out; obtain ⟨Ao39, co39, eo39⟩ := Kd.R_slice HO125.out; subst eo39; have p138 : 0 ≤ (0 : Int) := (by omega); have q138 : 0 < (t123.length : Int) := of_decide_eq_true z0_; obtain ⟨ad138, e138, hx138_0⟩ := Kd.at_string (Kd.R_reads' HO125.out).2.2 0 p138 q138; cases e138; have qi138 : (0 < t123.length) = True := eq_true (by omega); (try rw [show ((0 : Int)).toNat = 0 from rfl] at hx138_0); (try rw [Addr.add_zero'] at hx138_0); replace p138 := eq_true p138; replace q138 := eq_true q138) | (go_at_call 36; (with_reducible refine (commit_Whole.calls k 3 (⟨#[120]⟩ : ByteArray) t139 _ ?side1 A22.out).mono ?_); (case side1 => exact GV.below hgv (hs_)); rintro e w40 ⟨rfl, hb⟩; replace HO125 := Aside0.mk (Kd.R_below (rk_ HO125.out) hb); replace BK106 := Aside0.mk (bb_ BK106.out hb); replace BK112 := Aside0.mk (bb_ BK112.out hb); replace HB := Aside0.mk (below_step (hs_) hb); (try clear hb); (try clear hb2); (try clear hk); (try clear hi)))
            go_ret
            exact ⟨z4_, hs_⟩
           ·rw [if_neg c21] at H
            have c21b0 := beq_eq_false_iff_ne.mpr c21
            have c21b1 := bne_iff_ne.mpr c21
            exact absurd ((Option.some.inj H).trans hr_) (by simp)
          ·rw [if_neg c20] at H
           have c20b0 := beq_eq_false_iff_ne.mpr c20
           have c20b1 := bne_iff_ne.mpr c20
           exact absurd ((Option.some.inj H).trans hr_) (by simp)
         ·rw [if_neg c19] at H
          have c19b0 := beq_eq_false_iff_ne.mpr c19
          have c19b1 := bne_iff_ne.mpr c19
          exact absurd ((Option.some.inj H).trans hr_) (by simp)
        ·rw [if_neg c18] at H
         exact absurd H (by simp)
       ·rw [if_neg c17] at H
        have c17b0 := beq_eq_false_iff_ne.mpr c17
        have c17b1 := bne_iff_ne.mpr c17
        exact absurd ((Option.some.inj H).trans hr_) (by simp)
      ·rw [if_neg c16] at H
       have c16b0 := beq_eq_false_iff_ne.mpr c16
       have c16b1 := bne_iff_ne.mpr c16
       exact absurd ((Option.some.inj H).trans hr_) (by simp)
     ·rw [if_neg c15] at H
      have c15b0 := beq_eq_false_iff_ne.mpr c15
      have c15b1 := bne_iff_ne.mpr c15
      exact absurd ((Option.some.inj H).trans hr_) (by simp)
    ·rw [if_neg c14] at H
     have c14b0 := beq_eq_false_iff_ne.mpr c14
     have c14b1 := bne_iff_ne.mpr c14
     exact absurd ((Option.some.inj H).trans hr_) (by simp)
   ·rw [if_neg c13] at H
    have c13b0 := beq_eq_false_iff_ne.mpr c13
    have c13b1 := bne_iff_ne.mpr c13
    exact absurd ((Option.some.inj H).trans hr_) (by simp)
  ·rw [if_neg c12] at H
   have c12b0 := beq_eq_false_iff_ne.mpr c12
   have c12b1 := bne_iff_ne.mpr c12
   exact absurd ((Option.some.inj H).trans hr_) (by simp)
 ·rw [if_neg c11] at H
  have c11b0 := beq_eq_false_iff_ne.mpr c11
  have c11b1 := bne_iff_ne.mpr c11
  exact absurd ((Option.some.inj H).trans hr_) (by simp)

end Go.Proofs.YtbhfbbfjdklfgaaGreatDoor.Q


/- The chapter's examples hold: commit. -/
namespace Go.Proofs.YtbhfbbfjdklfgaaGreatDoor.Q
open Go.RowKit Go.Proofs.YtbhfbbfjdklfgaaGreatDoorW.PrintWords Go.Proofs.YtbhfbbfjdklfgaaGreatDoorW.PrintLast Go.Proofs.YtbhfbbfjdklfgaaGreatDoorW.PrintMore
theorem lives16 : Ev (fun k => graftagelaw16_lives.f k) true := Ev.of (fun k => graftagelaw16_lives.mono k) (k := 400) (by decide +kernel)
theorem ev_is {α : Type} {g : Nat → Option α} {r t : α} (hg : ∀ k, LeO (g k) (g (k + 1))) (h : Ev g r) {k : Nat} (ht : g k = some t) : t = r := by
  obtain ⟨K, hK⟩ := h
  have h1 := hK (max K k) (Nat.le_max_left _ _)
  have h2 := at_rounds hg (Nat.le_max_right K k) ht
  rw [h1] at h2
  exact (Option.some.inj h2).symm
theorem graftagelaw16_lives.calls (k : Nat) (r : Bool) (w : World) (hgv : GV w) (h : graftagelaw16_lives.f k = some r) : Calls Tryz.prog 15 #[] w fun e w' => e = .returned (.bool r) ∧ Below w.heap.size w w' :=
  graftagelaw16_lives.callsT k r w hgv (ev_is (fun k => graftagelaw16_lives.mono k) lives16 h) h
theorem liveOr16 : Ev (fun k => (graftagelaw16_lives.f k).bind fun t => some t) true := Ev.bind lives16 (Ev.now _)
end Go.Proofs.YtbhfbbfjdklfgaaGreatDoor.Q


namespace Go.Proofs.YtbhfbbfjdklfgaaGreatDoor.Q
open Go.RowKit Go.Proofs.YtbhfbbfjdklfgaaGreatDoorW.PrintWords Go.Proofs.YtbhfbbfjdklfgaaGreatDoorW.PrintLast Go.Proofs.YtbhfbbfjdklfgaaGreatDoorW.PrintMore
attribute [local go_sem] max2_int min2_int max_two min_two max_three min_three max_four min_four   -- for this text's walks alone

attribute [local go_sem high] eqA24
mutual
def graftagelaw16_CommitPersons.j0 : Nat → ByteArray → Bool → ByteArray → ByteArray → Int → Int → Option (Bool)
 | 0, _, _, _, _, _, _ => none
 | k + 1, x1, x24, x206000, x206001, x206002, x206003 => if x24 = true then ((graftagelaw16_lives.f k).bind fun t206 => (some t206)) else ((commit_ParseWho.f k x1).bind fun bt207 => ((graftageref16_ParseWho.f k x1).bind fun bt213 => (if (!(bt207.1.toList == bt213.1.toList) || (!(bt207.2.1.toList == bt213.2.1.toList) || (!(bt207.2.2.1 == bt213.2.2.1) || (!(bt207.2.2.2.1 == bt213.2.2.2.1))))) = true then (graftagelaw16_CommitPersons.j1 k true x206000 x206001 x206002 x206003) else (if bt207.2.2.2.2 = bt213.2.2.2.2 then (if bt207.2.2.2.2 = 0 then ((commit_Who.f bt207.1 bt207.2.1 bt207.2.2.1 bt207.2.2.2.1).bind fun t219 => (graftagelaw16_CommitPersons.j1 k (t219.toList != x1.toList) x206000 x206001 x206002 x206003)) else (graftagelaw16_CommitPersons.j1 k false x206000 x206001 x206002 x206003)) else (graftagelaw16_CommitPersons.j1 k true x206000 x206001 x206002 x206003)))))
def graftagelaw16_CommitPersons.j1 : Nat → Bool → ByteArray → ByteArray → Int → Int → Option (Bool)
 | 0, _, _, _, _, _ => none
 | k + 1, x53, x206000, x206001, x206002, x206003 => if x53 = true then (some false) else ((graftageref16_Person.f k x206000 x206001 x206002 x206003).bind fun t220 => (if t220 = true then ((commit_Who.f x206000 x206001 x206002 x206003).bind fun t222 => ((commit_ParseWho.f k t222).bind fun bt223 => ((graftagelaw16_lives.f k).bind fun t229 => (if t229 = true then ((graftageref16_Who.f k x206000 x206001 x206002 x206003).bind fun t230 => (if t222.toList = t230.toList then (if bt223.2.2.2.2 = 0 then (some (bt223.1.toList == x206000.toList && (bt223.2.1.toList == x206001.toList && (bt223.2.2.1 == x206002 && (bt223.2.2.2.1 == x206003))))) else (some false)) else (some false))) else (some false))))) else ((graftagelaw16_lives.f k).bind fun t221 => (some t221))))
end
def graftagelaw16_CommitPersons.f (k : Nat) (a0_0 : ByteArray) (a0_1 : ByteArray) (a0_2 : Int) (a0_3 : Int) (a1 : ByteArray) : Option (Bool) := if (a1.size : Int) > 1000 then (graftagelaw16_CommitPersons.j0 k a1 true a0_0 a0_1 a0_2 a0_3) else (graftagelaw16_CommitPersons.j0 k a1 (decide ((wrap64 ((a0_0.size : Int) + (a0_1.size : Int))) > 1000)) a0_0 a0_1 a0_2 a0_3)
set_option maxHeartbeats 8000000 in
set_option maxRecDepth 100000 in
theorem graftagelaw16_CommitPersons.calls (k : Nat) (a0_0 : ByteArray) (a0_1 : ByteArray) (a0_2 : Int) (a0_3 : Int) (a1 : ByteArray) (r : Bool) (w : World) (hgv : GV w) (h : graftagelaw16_CommitPersons.f k a0_0 a0_1 a0_2 a0_3 a1 = some r) :
  Calls Tryz.prog 6 #[.agg #[.string a0_0, .string a0_1, .int .i64 a0_2, .int .i64 a0_3], .string a1] w fun e w' => e = .returned (.bool r) ∧ Below w.heap.size w w' := by
 have hu24 := Tryz.underlying24
 have HB := Aside0.mk (Below.refl w.heap.size w)
 have H : (if (a1.size : Int) > 1000 then (graftagelaw16_CommitPersons.j0 k a1 true a0_0 a0_1 a0_2 a0_3) else (graftagelaw16_CommitPersons.j0 k a1 (decide ((wrap64 ((a0_0.size : Int) + (a0_1.size : Int))) > 1000)) a0_0 a0_1 a0_2 a0_3)) = some r := h
 clear h
 have HC3 := Aside0.mk H
 clear H
 go_enter Tryz.func6, Tryz.ntmps6
 go_upto_region 1 with (first | ((with_reducible refine gate_dst (N := 2) rfl ?_); (try (refine gate_guard (by rfl) ?_; dsimp only)); refine be_ (cs := #[.string a0_0, .string a0_1, .int .i64 a0_2, .int .i64 a0_3]) (t := 24) ?_; intro gb205 hg w4 hbox hb; have BK205 := Aside0.mk (hbox); have GW205 := Aside0.mk (gw_ hg HB.out); have GE205 := Aside0.mk (gw_ hg HB.out); replace HB := Aside0.mk (below_step (hb_ HB.out) hb); clear hb hbox hg))
 (try simp only [Act.put, List.setIfInBounds_toArray, List.set_cons_zero, List.set_cons_succ])
 go_cut [24] (fun v24 wc => ∃ (kq : Nat) (x24_2 : Bool), v24 = .bool x24_2 ∧ Aside0 (graftagelaw16_CommitPersons.j0 kq a1 x24_2 a0_0 a0_1 a0_2 a0_3 = some r) ∧ Aside0 (kq ≤ k) ∧ Aside0 (wc.heap[gb205]? = some (.cells #[.string a0_0, .string a0_1, .int .i64 a0_2, .int .i64 a0_3] 24 (0, 0))) ∧ Aside0 (Below w.heap.size w wc))
 case first =>
  have H := HC3.out
  clear HC3
  by_cases c5 : (a1.size : Int) > 1000
  ·rw [if_pos c5] at H
   have c5b0 := decide_eq_true c5
   have c5b1 : decide (1000 < a1.size) = true := decide_eq_true (by omega)
   clear c5
   (first | rw [c5b0] | (simp only [i64_w, i32_w]; rw [c5b0]) | skip)
   (try rw [c5b8])
   have H' := Aside0.mk H
   clear H
   go_wp2
   go_meet
   case rel => exact ⟨_, (true), z1_, H', ⟨z5_⟩, ⟨bk_ BK205.out⟩, ⟨hs_⟩⟩
  ·rw [if_neg c5] at H
   have c5b0 := decide_eq_false c5
   have c5b1 : decide (1000 < a1.size) = false := decide_eq_false (by omega)
   clear c5
   (first | rw [c5b0] | (simp only [i64_w, i32_w]; rw [c5b0]) | skip)
   (try rw [c5b8])
   have H' := Aside0.mk H
   clear H
   obtain ⟨hcz6_0, hcz6_1, hcz6_2, hcz6_3, hfz6_0, hfz6_1, hfz6_2, hfz6_3⟩ := bc4 BK205.out
   go_wp2
   go_meet
   case rel => exact ⟨_, (decide ((wrap64 ((a0_0.size : Int) + (a0_1.size : Int))) > 1000)), z1_, H', ⟨z5_⟩, ⟨bk_ BK205.out⟩, ⟨hs_⟩⟩
 case rest =>
  clear HC3
  try clear p2
  try clear c5
  try clear c5b0
  try clear c5b1
  try clear c6
  try clear p6
  try clear hcz6_0 hcz6_1 hcz6_2 hcz6_3 hfz6_0 hfz6_1 hfz6_2 hfz6_3
  obtain ⟨kq, x24_2, rfl, HA, HJ2, BK205, HB⟩ := hcut
  cases kq with
  | zero => exact absurd HA.out (by simp [graftagelaw16_CommitPersons.j0])
  | succ kj2 =>
   have H := HA.out
   clear HA
   simp only [graftagelaw16_CommitPersons.j0] at H
   by_cases c7 : x24_2 = true
   ·subst c7
    have H1 : ((graftagelaw16_lives.f kj2).bind fun t206 => (some t206)) = some r := by rw [if_pos rfl] at H; exact H
    clear H
    have H := H1
    clear H1
    replace H := Option.bind_eq_some_iff.mp H
    obtain ⟨t206, A80, H⟩ := H
    have A8 := Aside0.mk A80
    clear A80
    obtain rfl := Option.some.inj H
    go_wp2_with (first | ((with_reducible refine gate_callee (f := 15) rfl ?_); refine goesL_ (some 25) rfl rfl Tryz.func15 (by kernel_rfl) rfl #[] rfl z2_ ?_; (with_reducible refine (graftagelaw16_lives.calls kj2  t206 _ ?side1 A8.out).mono ?_); (case side1 => exact GV.below hgv (hs_)); rintro e w9 ⟨rfl, hb⟩; refine ⟨_, rfl, ?_⟩; replace BK205 := Aside0.mk (bb_ BK205.out hb); replace HB := Aside0.mk (below_step (hs_) hb); (try clear hb); (try clear hb2); (try clear hk); (try clear hi)))
    go_ret
    exact ⟨z4_, hs_⟩
   ·replace c7 := Bool.eq_false_iff.mpr c7
    subst c7
    have H1 : ((commit_ParseWho.f kj2 a1).bind fun bt207 => ((graftageref16_ParseWho.f kj2 a1).bind fun bt213 => (if (!(bt207.1.toList == bt213.1.toList) || (!(bt207.2.1.toList == bt213.2.1.toList) || (!(bt207.2.2.1 == bt213.2.2.1) || (!(bt207.2.2.2.1 == bt213.2.2.2.1))))) = true then (graftagelaw16_CommitPersons.j1 kj2 true a0_0 a0_1 a0_2 a0_3) else (if bt207.2.2.2.2 = bt213.2.2.2.2 then (if bt207.2.2.2.2 = 0 then ((commit_Who.f bt207.1 bt207.2.1 bt207.2.2.1 bt207.2.2.2.1).bind fun t219 => (graftagelaw16_CommitPersons.j1 kj2 (t219.toList != a1.toList) a0_0 a0_1 a0_2 a0_3)) else (graftagelaw16_CommitPersons.j1 kj2 false a0_0 a0_1 a0_2 a0_3)) else (graftagelaw16_CommitPersons.j1 kj2 true a0_0 a0_1 a0_2 a0_3))))) = some r := by rw [if_neg (show ¬ (false = true) by decide)] at H; exact H
    clear H
    have H := H1
    clear H1
    replace H := Option.bind_eq_some_iff.mp H
    obtain ⟨⟨t207, t208, t209, t210, t211⟩, A100, H⟩ := H
    replace H : ((graftageref16_ParseWho.f kj2 a1).bind fun bt213 => (if (!(t207.toList == bt213.1.toList) || (!(t208.toList == bt213.2.1.toList) || (!(t209 == bt213.2.2.1) || (!(t210 == bt213.2.2.2.1))))) = true then (graftagelaw16_CommitPersons.j1 kj2 true a0_0 a0_1 a0_2 a0_3) else (if t211 = bt213.2.2.2.2 then (if t211 = 0 then ((commit_Who.f t207 t208 t209 t210).bind fun t219 => (graftagelaw16_CommitPersons.j1 kj2 (t219.toList != a1.toList) a0_0 a0_1 a0_2 a0_3)) else (graftagelaw16_CommitPersons.j1 kj2 false a0_0 a0_1 a0_2 a0_3)) else (graftagelaw16_CommitPersons.j1 kj2 true a0_0 a0_1 a0_2 a0_3)))) = some r := H
    have A10 := Aside0.mk A100
    clear A100
    replace H := Option.bind_eq_some_iff.mp H
    obtain ⟨⟨t213, t214, t215, t216, t217⟩, A110, H⟩ := H
    replace H : (if (!(t207.toList == t213.toList) || (!(t208.toList == t214.toList) || (!(t209 == t215) || (!(t210 == t216))))) = true then (graftagelaw16_CommitPersons.j1 kj2 true a0_0 a0_1 a0_2 a0_3) else (if t211 = t217 then (if t211 = 0 then ((commit_Who.f t207 t208 t209 t210).bind fun t219 => (graftagelaw16_CommitPersons.j1 kj2 (t219.toList != a1.toList) a0_0 a0_1 a0_2 a0_3)) else (graftagelaw16_CommitPersons.j1 kj2 false a0_0 a0_1 a0_2 a0_3)) else (graftagelaw16_CommitPersons.j1 kj2 true a0_0 a0_1 a0_2 a0_3))) = some r := H
    have A11 := Aside0.mk A110
    clear A110
    have HC12 := Aside0.mk H
    clear H
    go_upto_region 5 with (first | ((with_reducible refine gate_callee (f := 29) rfl ?_); refine goesL_ (some 28) rfl rfl Tryz.func29 (by kernel_rfl) rfl #[.string a1] rfl z2_ ?_; (with_reducible refine (commit_ParseWho.calls kj2 a1 t207 t208 t209 t210 t211 _ ?side1 A10.out).mono ?_); (case side1 => exact GV.below hgv (hs_)); rintro e w13 ⟨rfl, hb⟩; refine ⟨_, rfl, ?_⟩; replace BK205 := Aside0.mk (bb_ BK205.out hb); replace HB := Aside0.mk (below_step (hs_) hb); (try clear hb); (try clear hb2); (try clear hk); (try clear hi)) | ((with_reducible refine gate_dst (N := 5) rfl ?_); (try (refine gate_guard (by rfl) ?_; dsimp only)); refine be_ (cs := #[.string (⟨#[]⟩ : ByteArray), .string (⟨#[]⟩ : ByteArray), .int .i64 0, .int .i64 0]) (t := 24) ?_; intro gb212 hg w14 hbox hb; have BK212 := Aside0.mk (hbox); have GW212 := Aside0.mk ((by rw [hg]; exact (below_size (hs_)) : w.heap.size ≤ gb212)); have GE212 := Aside0.mk ((by rw [hg]; exact (below_size (hs_)) : w.heap.size ≤ gb212)); replace HB := Aside0.mk (below_step (hs_) hb); have NB205_212 := Aside0.mk (nl2_ hg BK205.out); have NB212_205 := Aside0.mk (ng2_ hg BK205.out); replace BK205 := Aside0.mk (bb_ BK205.out hb); clear hb hbox hg; have hnb15 := NB212_205.out; have hnc15 := NB205_212.out; obtain ⟨hcz16_0, hcz16_1, hcz16_2, hcz16_3, hfz16_0, hfz16_1, hfz16_2, hfz16_3⟩ := bc4 BK212.out) | ((with_reducible refine gate_callee (f := 30) rfl ?_); refine goesL_ (some 33) rfl rfl Tryz.func30 (by kernel_rfl) rfl #[.string a1] rfl z2_ ?_; (with_reducible refine (graftageref16_ParseWho.calls kj2 a1 t213 t214 t215 t216 t217 _ A11.out).mono ?_); rintro e w17 ⟨rfl, hb⟩; refine ⟨_, rfl, ?_⟩; replace BK205 := Aside0.mk (blk_below (g := gb205) (o := .cells #[.string a0_0, .string a0_1, .int .i64 a0_2, .int .i64 a0_3] 24 (0, 0)) (by have b_ := BK205; have f_ := NB205_212; exact zb_) hb); replace BK212 := Aside0.mk (blk_below (g := gb212) (o := .cells #[.string t207, .string t208, .int .i64 t209, .int .i64 t210] 24 (0, 0)) (by have b_ := BK212; exact zb_) hb); replace HB := Aside0.mk (below_step (hs_) hb); (try clear hb); (try clear hb2); (try clear hk); (try clear hi)) | ((with_reducible refine gate_dst (N := 7) rfl ?_); (try (refine gate_guard (by rfl) ?_; dsimp only)); refine be_ (cs := #[.string (⟨#[]⟩ : ByteArray), .string (⟨#[]⟩ : ByteArray), .int .i64 0, .int .i64 0]) (t := 24) ?_; intro gb218 hg w18 hbox hb; have BK218 := Aside0.mk (hbox); have GW218 := Aside0.mk ((by rw [hg]; exact (below_size (hs_)) : w.heap.size ≤ gb218)); have GE218 := Aside0.mk ((by rw [hg]; exact (below_size (hs_)) : w.heap.size ≤ gb218)); replace HB := Aside0.mk (below_step (hs_) hb); have NB205_218 := Aside0.mk (nl2_ hg BK205.out); have NB218_205 := Aside0.mk (ng2_ hg BK205.out); replace BK205 := Aside0.mk (bb_ BK205.out hb); have NB212_218 := Aside0.mk (nl2_ hg BK212.out); have NB218_212 := Aside0.mk (ng2_ hg BK212.out); replace BK212 := Aside0.mk (bb_ BK212.out hb); clear hb hbox hg; have hnb19 := NB218_205.out; have hnc19 := NB205_218.out; have hnb20 := NB218_212.out; have hnc20 := NB212_218.out; obtain ⟨hcz21_0, hcz21_1, hcz21_2, hcz21_3, hfz21_0, hfz21_1, hfz21_2, hfz21_3⟩ := bc4 BK218.out))
    (try simp only [Act.put, List.setIfInBounds_toArray, List.set_cons_zero, List.set_cons_succ])
    go_cut [53] (fun v53 wc => ∃ (kq : Nat) (x53_11 : Bool), v53 = .bool x53_11 ∧ Aside0 (graftagelaw16_CommitPersons.j1 kq x53_11 a0_0 a0_1 a0_2 a0_3 = some r) ∧ Aside0 (kq ≤ kj2) ∧ Aside0 (wc.heap[gb205]? = some (.cells #[.string a0_0, .string a0_1, .int .i64 a0_2, .int .i64 a0_3] 24 (0, 0))) ∧ Aside0 (wc.heap[gb212]? = some (.cells #[.string t207, .string t208, .int .i64 t209, .int .i64 t210] 24 (0, 0))) ∧ Aside0 (wc.heap[gb218]? = some (.cells #[.string t213, .string t214, .int .i64 t215, .int .i64 t216] 24 (0, 0))) ∧ Aside0 (Below w.heap.size w wc))
    case first =>
     have H := HC12.out
     clear HC12
     by_cases c22 : (!(t207.toList == t213.toList) || (!(t208.toList == t214.toList) || (!(t209 == t215) || (!(t210 == t216))))) = true
     ·rw [if_pos c22] at H
      have c22b0 : (!(t207.toList == t213.toList) || (!(t208.toList == t214.toList) || (!(t209 == t215) || (!(t210 == t216))))) = true := c22
      clear c22
      (first | rw [c22b0] | (simp only [i64_w, i32_w]; rw [c22b0]) | skip)
      (try rw [c22b8])
      have H' := Aside0.mk H
      clear H
      have hnb23 := NB212_205.out
      have hnc23 := NB205_212.out
      have hnb24 := NB212_218.out
      have hnc24 := NB218_212.out
      obtain ⟨hcz25_0, hcz25_1, hcz25_2, hcz25_3, hfz25_0, hfz25_1, hfz25_2, hfz25_3⟩ := bc4 BK212.out
      have hnb26 := NB218_205.out
      have hnc26 := NB205_218.out
      obtain ⟨hcz27_0, hcz27_1, hcz27_2, hcz27_3, hfz27_0, hfz27_1, hfz27_2, hfz27_3⟩ := bc4 BK218.out
      go_wp2
      go_meet
      case rel => exact ⟨_, (true), z1_, H', ⟨by have := HJ2.out; first | omega | exact Nat.le_refl _⟩, ⟨by have b_ := BK205; have f_ := NB205_218; exact zb_⟩, ⟨by have b_ := BK212; have f_ := NB212_218; exact zb_⟩, ⟨by have b_ := BK218; exact zb_⟩, ⟨hs_⟩⟩
     ·rw [if_neg c22] at H
      have c22b0 : (!(t207.toList == t213.toList) || (!(t208.toList == t214.toList) || (!(t209 == t215) || (!(t210 == t216))))) = false := by simpa using c22
      clear c22
      (first | rw [c22b0] | (simp only [i64_w, i32_w]; rw [c22b0]) | skip)
      (try rw [c22b8])
      by_cases c28 : t211 = t217
      ·rw [if_pos c28] at H
       have c28b0 := beq_iff_eq.mpr c28
       have c28b1 := bne_eq_false_iff_eq.mpr c28
       clear c28
       by_cases c29 : t211 = 0
       ·rw [if_pos c29] at H
        have c29b0 := beq_iff_eq.mpr c29
        have c29b1 := bne_eq_false_iff_eq.mpr c29
        clear c29
        replace H := Option.bind_eq_some_iff.mp H
        obtain ⟨t219, A300, H⟩ := H
        have A30 := Aside0.mk A300
        clear A300
        have H' := Aside0.mk H
        clear H
        have hnb31 := NB212_205.out
        have hnc31 := NB205_212.out
        have hnb32 := NB212_218.out
        have hnc32 := NB218_212.out
        obtain ⟨hcz33_0, hcz33_1, hcz33_2, hcz33_3, hfz33_0, hfz33_1, hfz33_2, hfz33_3⟩ := bc4 BK212.out
        have hnb34 := NB218_205.out
        have hnc34 := NB205_218.out
        obtain ⟨hcz35_0, hcz35_1, hcz35_2, hcz35_3, hfz35_0, hfz35_1, hfz35_2, hfz35_3⟩ := bc4 BK218.out
        go_wp2_with (first | (go_at_call 31; (with_reducible refine (commit_Who.calls t207 t208 t209 t210 t219 _ ?side1 A30.out).mono ?_); (case side1 => exact GV.below hgv (hs_)); rintro e w36 ⟨rfl, hb⟩; replace BK205 := Aside0.mk (blk_below (g := gb205) (o := .cells #[.string a0_0, .string a0_1, .int .i64 a0_2, .int .i64 a0_3] 24 (0, 0)) (by have b_ := BK205; have f_ := NB205_218; exact zb_) hb); replace BK212 := Aside0.mk (blk_below (g := gb212) (o := .cells #[.string t207, .string t208, .int .i64 t209, .int .i64 t210] 24 (0, 0)) (by have b_ := BK212; have f_ := NB212_218; exact zb_) hb); replace BK218 := Aside0.mk (blk_below (g := gb218) (o := .cells #[.string t213, .string t214, .int .i64 t215, .int .i64 t216] 24 (0, 0)) (by have b_ := BK218; exact zb_) hb); replace HB := Aside0.mk (below_step (hs_) hb); (try clear hb); (try clear hb2); (try clear hk); (try clear hi)))
        go_meet
        case rel => exact ⟨_, ((t219.toList != a1.toList)), z1_, H', ⟨by have := HJ2.out; first | omega | exact Nat.le_refl _⟩, ⟨bk_ BK205.out⟩, ⟨bk_ BK212.out⟩, ⟨bk_ BK218.out⟩, ⟨hs_⟩⟩
       ·rw [if_neg c29] at H
        have c29b0 := beq_eq_false_iff_ne.mpr c29
        have c29b1 := bne_iff_ne.mpr c29
        have H' := Aside0.mk H
        clear H
        have hnb37 := NB212_205.out
        have hnc37 := NB205_212.out
        have hnb38 := NB212_218.out
        have hnc38 := NB218_212.out
        obtain ⟨hcz39_0, hcz39_1, hcz39_2, hcz39_3, hfz39_0, hfz39_1, hfz39_2, hfz39_3⟩ := bc4 BK212.out
        have hnb40 := NB218_205.out
        have hnc40 := NB205_218.out
        obtain ⟨hcz41_0, hcz41_1, hcz41_2, hcz41_3, hfz41_0, hfz41_1, hfz41_2, hfz41_3⟩ := bc4 BK218.out
        go_wp2
        go_meet
        case rel => exact ⟨_, (false), z1_, H', ⟨by have := HJ2.out; first | omega | exact Nat.le_refl _⟩, ⟨by have b_ := BK205; have f_ := NB205_218; exact zb_⟩, ⟨by have b_ := BK212; have f_ := NB212_218; exact zb_⟩, ⟨by have b_ := BK218; exact zb_⟩, ⟨hs_⟩⟩
      ·rw [if_neg c28] at H
       have c28b0 := beq_eq_false_iff_ne.mpr c28
       have c28b1 := bne_iff_ne.mpr c28
       have H' := Aside0.mk H
       clear H
       have hnb42 := NB212_205.out
       have hnc42 := NB205_212.out
       have hnb43 := NB212_218.out
       have hnc43 := NB218_212.out
       obtain ⟨hcz44_0, hcz44_1, hcz44_2, hcz44_3, hfz44_0, hfz44_1, hfz44_2, hfz44_3⟩ := bc4 BK212.out
       have hnb45 := NB218_205.out
       have hnc45 := NB205_218.out
       obtain ⟨hcz46_0, hcz46_1, hcz46_2, hcz46_3, hfz46_0, hfz46_1, hfz46_2, hfz46_3⟩ := bc4 BK218.out
       go_wp2
       go_meet
       case rel => exact ⟨_, (true), z1_, H', ⟨by have := HJ2.out; first | omega | exact Nat.le_refl _⟩, ⟨by have b_ := BK205; have f_ := NB205_218; exact zb_⟩, ⟨by have b_ := BK212; have f_ := NB212_218; exact zb_⟩, ⟨by have b_ := BK218; exact zb_⟩, ⟨hs_⟩⟩
    case rest =>
     clear HC12
     try clear c1
     try clear c2
     try clear p2
     try clear c3
     try clear c4
     try clear c5
     try clear c5b0
     try clear c5b1
     try clear c6
     try clear p6
     try clear c7
     try clear c15
     try clear c19
     try clear c20
     try clear c22
     try clear c22b0
     try clear c23
     try clear c24
     try clear c26
     try clear c28
     try clear c28b0
     try clear c28b1
     try clear c29
     try clear c29b0
     try clear c29b1
     try clear c30
     try clear c31
     try clear c32
     try clear c34
     try clear c37
     try clear c38
     try clear c40
     try clear c42
     try clear c43
     try clear c45
     try clear hcz16_0 hcz16_1 hcz16_2 hcz16_3
     try clear hcz21_0 hcz21_1 hcz21_2 hcz21_3
     try clear hcz25_0 hcz25_1 hcz25_2 hcz25_3
     try clear hcz27_0 hcz27_1 hcz27_2 hcz27_3
     try clear hcz33_0 hcz33_1 hcz33_2 hcz33_3
     try clear hcz35_0 hcz35_1 hcz35_2 hcz35_3
     try clear hcz39_0 hcz39_1 hcz39_2 hcz39_3
     try clear hcz41_0 hcz41_1 hcz41_2 hcz41_3
     try clear hcz44_0 hcz44_1 hcz44_2 hcz44_3
     try clear hcz46_0 hcz46_1 hcz46_2 hcz46_3
     try clear hcz6_0 hcz6_1 hcz6_2 hcz6_3
     try clear hfz16_0 hfz16_1 hfz16_2 hfz16_3
     try clear hfz21_0 hfz21_1 hfz21_2 hfz21_3
     try clear hfz25_0 hfz25_1 hfz25_2 hfz25_3
     try clear hfz27_0 hfz27_1 hfz27_2 hfz27_3
     try clear hfz33_0 hfz33_1 hfz33_2 hfz33_3
     try clear hfz35_0 hfz35_1 hfz35_2 hfz35_3
     try clear hfz39_0 hfz39_1 hfz39_2 hfz39_3
     try clear hfz41_0 hfz41_1 hfz41_2 hfz41_3
     try clear hfz44_0 hfz44_1 hfz44_2 hfz44_3
     try clear hfz46_0 hfz46_1 hfz46_2 hfz46_3
     try clear hfz6_0 hfz6_1 hfz6_2 hfz6_3
     try clear p2
     try clear p6
     obtain ⟨kq, x53_11, rfl, HA, HJ11, BK205, BK212, BK218, HB⟩ := hcut
     cases kq with
     | zero => exact absurd HA.out (by simp [graftagelaw16_CommitPersons.j1])
     | succ kj11 =>
      have H := HA.out
      clear HA
      simp only [graftagelaw16_CommitPersons.j1] at H
      by_cases c47 : x53_11 = true
      ·subst c47
       have H1 : (some false) = some r := by rw [if_pos rfl] at H; exact H
       clear H
       have H := H1
       clear H1
       obtain rfl := Option.some.inj H
       go_wp2
       go_ret
       exact ⟨z4_, hs_⟩
      ·replace c47 := Bool.eq_false_iff.mpr c47
       subst c47
       have H1 : ((graftageref16_Person.f kj11 a0_0 a0_1 a0_2 a0_3).bind fun t220 => (if t220 = true then ((commit_Who.f a0_0 a0_1 a0_2 a0_3).bind fun t222 => ((commit_ParseWho.f kj11 t222).bind fun bt223 => ((graftagelaw16_lives.f kj11).bind fun t229 => (if t229 = true then ((graftageref16_Who.f kj11 a0_0 a0_1 a0_2 a0_3).bind fun t230 => (if t222.toList = t230.toList then (if bt223.2.2.2.2 = 0 then (some (bt223.1.toList == a0_0.toList && (bt223.2.1.toList == a0_1.toList && (bt223.2.2.1 == a0_2 && (bt223.2.2.2.1 == a0_3))))) else (some false)) else (some false))) else (some false))))) else ((graftagelaw16_lives.f kj11).bind fun t221 => (some t221)))) = some r := by rw [if_neg (show ¬ (false = true) by decide)] at H; exact H
       clear H
       have H := H1
       clear H1
       replace H := Option.bind_eq_some_iff.mp H
       obtain ⟨t220, A480, H⟩ := H
       have A48 := Aside0.mk A480
       clear A480
       by_cases c49 : t220 = true
       ·subst c49
        have H1 : ((commit_Who.f a0_0 a0_1 a0_2 a0_3).bind fun t222 => ((commit_ParseWho.f kj11 t222).bind fun bt223 => ((graftagelaw16_lives.f kj11).bind fun t229 => (if t229 = true then ((graftageref16_Who.f kj11 a0_0 a0_1 a0_2 a0_3).bind fun t230 => (if t222.toList = t230.toList then (if bt223.2.2.2.2 = 0 then (some (bt223.1.toList == a0_0.toList && (bt223.2.1.toList == a0_1.toList && (bt223.2.2.1 == a0_2 && (bt223.2.2.2.1 == a0_3))))) else (some false)) else (some false))) else (some false))))) = some r := by rw [if_pos rfl] at H; exact H
        clear H
        have H := H1
        clear H1
        replace H := Option.bind_eq_some_iff.mp H
        obtain ⟨t222, A500, H⟩ := H
        have A50 := Aside0.mk A500
        clear A500
        replace H := Option.bind_eq_some_iff.mp H
        obtain ⟨⟨t223, t224, t225, t226, t227⟩, A510, H⟩ := H
        replace H : ((graftagelaw16_lives.f kj11).bind fun t229 => (if t229 = true then ((graftageref16_Who.f kj11 a0_0 a0_1 a0_2 a0_3).bind fun t230 => (if t222.toList = t230.toList then (if t227 = 0 then (some (t223.toList == a0_0.toList && (t224.toList == a0_1.toList && (t225 == a0_2 && (t226 == a0_3))))) else (some false)) else (some false))) else (some false))) = some r := H
        have A51 := Aside0.mk A510
        clear A510
        replace H := Option.bind_eq_some_iff.mp H
        obtain ⟨t229, A520, H⟩ := H
        have A52 := Aside0.mk A520
        clear A520
        by_cases c53 : t229 = true
        ·subst c53
         have H1 : ((graftageref16_Who.f kj11 a0_0 a0_1 a0_2 a0_3).bind fun t230 => (if t222.toList = t230.toList then (if t227 = 0 then (some (t223.toList == a0_0.toList && (t224.toList == a0_1.toList && (t225 == a0_2 && (t226 == a0_3))))) else (some false)) else (some false))) = some r := by rw [if_pos rfl] at H; exact H
         clear H
         have H := H1
         clear H1
         replace H := Option.bind_eq_some_iff.mp H
         obtain ⟨t230, A540, H⟩ := H
         have A54 := Aside0.mk A540
         clear A540
         by_cases c55 : t222.toList = t230.toList
         ·rw [if_pos c55] at H
          have c55b0 := beq_iff_eq.mpr c55
          have c55b1 := bne_eq_false_iff_eq.mpr c55
          clear c55
          by_cases c56 : t227 = 0
          ·rw [if_pos c56] at H
           have c56b0 := beq_iff_eq.mpr c56
           have c56b1 := bne_eq_false_iff_eq.mpr c56
           clear c56
           obtain rfl := Option.some.inj H
           have hnb57 := NB205_212.out
           have hnc57 := NB212_205.out
           have hnb58 := NB205_218.out
           have hnc58 := NB218_205.out
           obtain ⟨hcz59_0, hcz59_1, hcz59_2, hcz59_3, hfz59_0, hfz59_1, hfz59_2, hfz59_3⟩ := bc4 BK205.out
           go_wp2_with (first | ((with_reducible refine gate_callee (f := 32) rfl ?_); refine goesL_ (some 55) rfl rfl Tryz.func32 (by kernel_rfl) rfl #[.agg #[.string a0_0, .string a0_1, .int .i64 a0_2, .int .i64 a0_3]] rfl z2_ ?_; (with_reducible refine (graftageref16_Person.calls kj11 a0_0 a0_1 a0_2 a0_3 true _ A48.out).mono ?_); rintro e w60 ⟨rfl, hb⟩; refine ⟨_, rfl, ?_⟩; replace BK205 := Aside0.mk (bb_ BK205.out hb); replace BK212 := Aside0.mk (bb_ BK212.out hb); replace BK218 := Aside0.mk (bb_ BK218.out hb); replace HB := Aside0.mk (below_step (hs_) hb); (try clear hb); (try clear hb2); (try clear hk); (try clear hi); obtain ⟨hcz61_0, hcz61_1, hcz61_2, hcz61_3, hfz61_0, hfz61_1, hfz61_2, hfz61_3⟩ := bc4 BK205.out) | ((with_reducible refine gate_callee (f := 31) rfl ?_); refine goesL_ (some 59) rfl rfl Tryz.func31 (by kernel_rfl) rfl #[.agg #[.string a0_0, .string a0_1, .int .i64 a0_2, .int .i64 a0_3]] rfl z2_ ?_; (with_reducible refine (commit_Who.calls a0_0 a0_1 a0_2 a0_3 t222 _ ?side1 A50.out).mono ?_); (case side1 => exact GV.below hgv (hs_)); rintro e w62 ⟨rfl, hb⟩; refine ⟨_, rfl, ?_⟩; replace BK205 := Aside0.mk (bb_ BK205.out hb); replace BK212 := Aside0.mk (bb_ BK212.out hb); replace BK218 := Aside0.mk (bb_ BK218.out hb); replace HB := Aside0.mk (below_step (hs_) hb); (try clear hb); (try clear hb2); (try clear hk); (try clear hi)) | ((with_reducible refine gate_callee (f := 29) rfl ?_); refine goesL_ (some 62) rfl rfl Tryz.func29 (by kernel_rfl) rfl #[.string t222] rfl z2_ ?_; (with_reducible refine (commit_ParseWho.calls kj11 t222 t223 t224 t225 t226 t227 _ ?side1 A51.out).mono ?_); (case side1 => exact GV.below hgv (hs_)); rintro e w63 ⟨rfl, hb⟩; refine ⟨_, rfl, ?_⟩; replace BK205 := Aside0.mk (bb_ BK205.out hb); replace BK212 := Aside0.mk (bb_ BK212.out hb); replace BK218 := Aside0.mk (bb_ BK218.out hb); replace HB := Aside0.mk (below_step (hs_) hb); (try clear hb); (try clear hb2); (try clear hk); (try clear hi)) | ((with_reducible refine gate_dst (N := 10) rfl ?_); (try (refine gate_guard (by rfl) ?_; dsimp only)); refine be_ (cs := #[.string (⟨#[]⟩ : ByteArray), .string (⟨#[]⟩ : ByteArray), .int .i64 0, .int .i64 0]) (t := 24) ?_; intro gb228 hg w64 hbox hb; have BK228 := Aside0.mk (hbox); have GW228 := Aside0.mk ((by rw [hg]; exact (below_size (hs_)) : w.heap.size ≤ gb228)); have GE228 := Aside0.mk ((by rw [hg]; exact (below_size (hs_)) : w.heap.size ≤ gb228)); replace HB := Aside0.mk (below_step (hs_) hb); have NB205_228 := Aside0.mk (nl2_ hg BK205.out); have NB228_205 := Aside0.mk (ng2_ hg BK205.out); replace BK205 := Aside0.mk (bb_ BK205.out hb); have NB212_228 := Aside0.mk (nl2_ hg BK212.out); have NB228_212 := Aside0.mk (ng2_ hg BK212.out); replace BK212 := Aside0.mk (bb_ BK212.out hb); have NB218_228 := Aside0.mk (nl2_ hg BK218.out); have NB228_218 := Aside0.mk (ng2_ hg BK218.out); replace BK218 := Aside0.mk (bb_ BK218.out hb); clear hb hbox hg; have hnb65 := NB228_205.out; have hnc65 := NB205_228.out; have hnb66 := NB228_212.out; have hnc66 := NB212_228.out; have hnb67 := NB228_218.out; have hnc67 := NB218_228.out; obtain ⟨hcz68_0, hcz68_1, hcz68_2, hcz68_3, hfz68_0, hfz68_1, hfz68_2, hfz68_3⟩ := bc4 BK228.out) | ((with_reducible refine gate_callee (f := 15) rfl ?_); refine goesL_ (some 65) rfl rfl Tryz.func15 (by kernel_rfl) rfl #[] rfl z2_ ?_; (with_reducible refine (graftagelaw16_lives.calls kj11  true _ ?side1 A52.out).mono ?_); (case side1 => exact GV.below hgv (hs_)); rintro e w69 ⟨rfl, hb⟩; refine ⟨_, rfl, ?_⟩; replace BK205 := Aside0.mk (blk_below (g := gb205) (o := .cells #[.string a0_0, .string a0_1, .int .i64 a0_2, .int .i64 a0_3] 24 (0, 0)) (by have b_ := BK205; have f_ := NB205_228; exact zb_) hb); replace BK212 := Aside0.mk (blk_below (g := gb212) (o := .cells #[.string t207, .string t208, .int .i64 t209, .int .i64 t210] 24 (0, 0)) (by have b_ := BK212; have f_ := NB212_228; exact zb_) hb); replace BK218 := Aside0.mk (blk_below (g := gb218) (o := .cells #[.string t213, .string t214, .int .i64 t215, .int .i64 t216] 24 (0, 0)) (by have b_ := BK218; have f_ := NB218_228; exact zb_) hb); replace BK228 := Aside0.mk (blk_below (g := gb228) (o := .cells #[.string t223, .string t224, .int .i64 t225, .int .i64 t226] 24 (0, 0)) (by have b_ := BK228; exact zb_) hb); replace HB := Aside0.mk (below_step (hs_) hb); (try clear hb); (try clear hb2); (try clear hk); (try clear hi); obtain ⟨hcz70_0, hcz70_1, hcz70_2, hcz70_3, hfz70_0, hfz70_1, hfz70_2, hfz70_3⟩ := bc4 BK205.out) | (go_at_call 33; (with_reducible refine (graftageref16_Who.calls kj11 a0_0 a0_1 a0_2 a0_3 t230 _ A54.out).mono ?_); rintro e w71 ⟨rfl, hb⟩; replace BK205 := Aside0.mk (bb_ BK205.out hb); replace BK212 := Aside0.mk (bb_ BK212.out hb); replace BK218 := Aside0.mk (bb_ BK218.out hb); replace BK228 := Aside0.mk (bb_ BK228.out hb); replace HB := Aside0.mk (below_step (hs_) hb); (try clear hb); (try clear hb2); (try clear hk); (try clear hi); obtain ⟨hcz72_0, hcz72_1, hcz72_2, hcz72_3, hfz72_0, hfz72_1, hfz72_2, hfz72_3⟩ := bc4 BK228.out; obtain ⟨hcz73_0, hcz73_1, hcz73_2, hcz73_3, hfz73_0, hfz73_1, hfz73_2, hfz73_3⟩ := bc4 BK205.out))
           go_ret
           exact ⟨z4_, hs_⟩
          ·rw [if_neg c56] at H
           have c56b0 := beq_eq_false_iff_ne.mpr c56
           have c56b1 := bne_iff_ne.mpr c56
           obtain rfl := Option.some.inj H
           have hnb74 := NB205_212.out
           have hnc74 := NB212_205.out
           have hnb75 := NB205_218.out
           have hnc75 := NB218_205.out
           obtain ⟨hcz76_0, hcz76_1, hcz76_2, hcz76_3, hfz76_0, hfz76_1, hfz76_2, hfz76_3⟩ := bc4 BK205.out
           go_wp2_with (first | ((with_reducible refine gate_callee (f := 32) rfl ?_); refine goesL_ (some 55) rfl rfl Tryz.func32 (by kernel_rfl) rfl #[.agg #[.string a0_0, .string a0_1, .int .i64 a0_2, .int .i64 a0_3]] rfl z2_ ?_; (with_reducible refine (graftageref16_Person.calls kj11 a0_0 a0_1 a0_2 a0_3 true _ A48.out).mono ?_); rintro e w77 ⟨rfl, hb⟩; refine ⟨_, rfl, ?_⟩; replace BK205 := Aside0.mk (bb_ BK205.out hb); replace BK212 := Aside0.mk (bb_ BK212.out hb); replace BK218 := Aside0.mk (bb_ BK218.out hb); replace HB := Aside0.mk (below_step (hs_) hb); (try clear hb); (try clear hb2); (try clear hk); (try clear hi); obtain ⟨hcz78_0, hcz78_1, hcz78_2, hcz78_3, hfz78_0, hfz78_1, hfz78_2, hfz78_3⟩ := bc4 BK205.out) | ((with_reducible refine gate_callee (f := 31) rfl ?_); refine goesL_ (some 59) rfl rfl Tryz.func31 (by kernel_rfl) rfl #[.agg #[.string a0_0, .string a0_1, .int .i64 a0_2, .int .i64 a0_3]] rfl z2_ ?_; (with_reducible refine (commit_Who.calls a0_0 a0_1 a0_2 a0_3 t222 _ ?side1 A50.out).mono ?_); (case side1 => exact GV.below hgv (hs_)); rintro e w79 ⟨rfl, hb⟩; refine ⟨_, rfl, ?_⟩; replace BK205 := Aside0.mk (bb_ BK205.out hb); replace BK212 := Aside0.mk (bb_ BK212.out hb); replace BK218 := Aside0.mk (bb_ BK218.out hb); replace HB := Aside0.mk (below_step (hs_) hb); (try clear hb); (try clear hb2); (try clear hk); (try clear hi)) | ((with_reducible refine gate_callee (f := 29) rfl ?_); refine goesL_ (some 62) rfl rfl Tryz.func29 (by kernel_rfl) rfl #[.string t222] rfl z2_ ?_; (with_reducible refine (commit_ParseWho.calls kj11 t222 t223 t224 t225 t226 t227 _ ?side1 A51.out).mono ?_); (case side1 => exact GV.below hgv (hs_)); rintro e w80 ⟨rfl, hb⟩; refine ⟨_, rfl, ?_⟩; replace BK205 := Aside0.mk (bb_ BK205.out hb); replace BK212 := Aside0.mk (bb_ BK212.out hb); replace BK218 := Aside0.mk (bb_ BK218.out hb); replace HB := Aside0.mk (below_step (hs_) hb); (try clear hb); (try clear hb2); (try clear hk); (try clear hi)) | ((with_reducible refine gate_dst (N := 10) rfl ?_); (try (refine gate_guard (by rfl) ?_; dsimp only)); refine be_ (cs := #[.string (⟨#[]⟩ : ByteArray), .string (⟨#[]⟩ : ByteArray), .int .i64 0, .int .i64 0]) (t := 24) ?_; intro gb228 hg w81 hbox hb; have BK228 := Aside0.mk (hbox); have GW228 := Aside0.mk ((by rw [hg]; exact (below_size (hs_)) : w.heap.size ≤ gb228)); have GE228 := Aside0.mk ((by rw [hg]; exact (below_size (hs_)) : w.heap.size ≤ gb228)); replace HB := Aside0.mk (below_step (hs_) hb); have NB205_228 := Aside0.mk (nl2_ hg BK205.out); have NB228_205 := Aside0.mk (ng2_ hg BK205.out); replace BK205 := Aside0.mk (bb_ BK205.out hb); have NB212_228 := Aside0.mk (nl2_ hg BK212.out); have NB228_212 := Aside0.mk (ng2_ hg BK212.out); replace BK212 := Aside0.mk (bb_ BK212.out hb); have NB218_228 := Aside0.mk (nl2_ hg BK218.out); have NB228_218 := Aside0.mk (ng2_ hg BK218.out); replace BK218 := Aside0.mk (bb_ BK218.out hb); clear hb hbox hg; have hnb82 := NB228_205.out; have hnc82 := NB205_228.out; have hnb83 := NB228_212.out; have hnc83 := NB212_228.out; have hnb84 := NB228_218.out; have hnc84 := NB218_228.out; obtain ⟨hcz85_0, hcz85_1, hcz85_2, hcz85_3, hfz85_0, hfz85_1, hfz85_2, hfz85_3⟩ := bc4 BK228.out) | ((with_reducible refine gate_callee (f := 15) rfl ?_); refine goesL_ (some 65) rfl rfl Tryz.func15 (by kernel_rfl) rfl #[] rfl z2_ ?_; (with_reducible refine (graftagelaw16_lives.calls kj11  true _ ?side1 A52.out).mono ?_); (case side1 => exact GV.below hgv (hs_)); rintro e w86 ⟨rfl, hb⟩; refine ⟨_, rfl, ?_⟩; replace BK205 := Aside0.mk (blk_below (g := gb205) (o := .cells #[.string a0_0, .string a0_1, .int .i64 a0_2, .int .i64 a0_3] 24 (0, 0)) (by have b_ := BK205; have f_ := NB205_228; exact zb_) hb); replace BK212 := Aside0.mk (blk_below (g := gb212) (o := .cells #[.string t207, .string t208, .int .i64 t209, .int .i64 t210] 24 (0, 0)) (by have b_ := BK212; have f_ := NB212_228; exact zb_) hb); replace BK218 := Aside0.mk (blk_below (g := gb218) (o := .cells #[.string t213, .string t214, .int .i64 t215, .int .i64 t216] 24 (0, 0)) (by have b_ := BK218; have f_ := NB218_228; exact zb_) hb); replace BK228 := Aside0.mk (blk_below (g := gb228) (o := .cells #[.string t223, .string t224, .int .i64 t225, .int .i64 t226] 24 (0, 0)) (by have b_ := BK228; exact zb_) hb); replace HB := Aside0.mk (below_step (hs_) hb); (try clear hb); (try clear hb2); (try clear hk); (try clear hi); obtain ⟨hcz87_0, hcz87_1, hcz87_2, hcz87_3, hfz87_0, hfz87_1, hfz87_2, hfz87_3⟩ := bc4 BK205.out) | (go_at_call 33; (with_reducible refine (graftageref16_Who.calls kj11 a0_0 a0_1 a0_2 a0_3 t230 _ A54.out).mono ?_); rintro e w88 ⟨rfl, hb⟩; replace BK205 := Aside0.mk (bb_ BK205.out hb); replace BK212 := Aside0.mk (bb_ BK212.out hb); replace BK218 := Aside0.mk (bb_ BK218.out hb); replace BK228 := Aside0.mk (bb_ BK228.out hb); replace HB := Aside0.mk (below_step (hs_) hb); (try clear hb); (try clear hb2); (try clear hk); (try clear hi)))
           go_ret
           exact ⟨z4_, hs_⟩
         ·rw [if_neg c55] at H
          have c55b0 := beq_eq_false_iff_ne.mpr c55
          have c55b1 := bne_iff_ne.mpr c55
          obtain rfl := Option.some.inj H
          have hnb89 := NB205_212.out
          have hnc89 := NB212_205.out
          have hnb90 := NB205_218.out
          have hnc90 := NB218_205.out
          obtain ⟨hcz91_0, hcz91_1, hcz91_2, hcz91_3, hfz91_0, hfz91_1, hfz91_2, hfz91_3⟩ := bc4 BK205.out
          go_wp2_with (first | ((with_reducible refine gate_callee (f := 32) rfl ?_); refine goesL_ (some 55) rfl rfl Tryz.func32 (by kernel_rfl) rfl #[.agg #[.string a0_0, .string a0_1, .int .i64 a0_2, .int .i64 a0_3]] rfl z2_ ?_; (with_reducible refine (graftageref16_Person.calls kj11 a0_0 a0_1 a0_2 a0_3 true _ A48.out).mono ?_); rintro e w92 ⟨rfl, hb⟩; refine ⟨_, rfl, ?_⟩; replace BK205 := Aside0.mk (bb_ BK205.out hb); replace BK212 := Aside0.mk (bb_ BK212.out hb); replace BK218 := Aside0.mk (bb_ BK218.out hb); replace HB := Aside0.mk (below_step (hs_) hb); (try clear hb); (try clear hb2); (try clear hk); (try clear hi); obtain ⟨hcz93_0, hcz93_1, hcz93_2, hcz93_3, hfz93_0, hfz93_1, hfz93_2, hfz93_3⟩ := bc4 BK205.out) | ((with_reducible refine gate_callee (f := 31) rfl ?_); refine goesL_ (some 59) rfl rfl Tryz.func31 (by kernel_rfl) rfl #[.agg #[.string a0_0, .string a0_1, .int .i64 a0_2, .int .i64 a0_3]] rfl z2_ ?_; (with_reducible refine (commit_Who.calls a0_0 a0_1 a0_2 a0_3 t222 _ ?side1 A50.out).mono ?_); (case side1 => exact GV.below hgv (hs_)); rintro e w94 ⟨rfl, hb⟩; refine ⟨_, rfl, ?_⟩; replace BK205 := Aside0.mk (bb_ BK205.out hb); replace BK212 := Aside0.mk (bb_ BK212.out hb); replace BK218 := Aside0.mk (bb_ BK218.out hb); replace HB := Aside0.mk (below_step (hs_) hb); (try clear hb); (try clear hb2); (try clear hk); (try clear hi)) | ((with_reducible refine gate_callee (f := 29) rfl ?_); refine goesL_ (some 62) rfl rfl Tryz.func29 (by kernel_rfl) rfl #[.string t222] rfl z2_ ?_; (with_reducible refine (commit_ParseWho.calls kj11 t222 t223 t224 t225 t226 t227 _ ?side1 A51.out).mono ?_); (case side1 => exact GV.below hgv (hs_)); rintro e w95 ⟨rfl, hb⟩; refine ⟨_, rfl, ?_⟩; replace BK205 := Aside0.mk (bb_ BK205.out hb); replace BK212 := Aside0.mk (bb_ BK212.out hb); replace BK218 := Aside0.mk (bb_ BK218.out hb); replace HB := Aside0.mk (below_step (hs_) hb); (try clear hb); (try clear hb2); (try clear hk); (try clear hi)) | ((with_reducible refine gate_dst (N := 10) rfl ?_); (try (refine gate_guard (by rfl) ?_; dsimp only)); refine be_ (cs := #[.string (⟨#[]⟩ : ByteArray), .string (⟨#[]⟩ : ByteArray), .int .i64 0, .int .i64 0]) (t := 24) ?_; intro gb228 hg w96 hbox hb; have BK228 := Aside0.mk (hbox); have GW228 := Aside0.mk ((by rw [hg]; exact (below_size (hs_)) : w.heap.size ≤ gb228)); have GE228 := Aside0.mk ((by rw [hg]; exact (below_size (hs_)) : w.heap.size ≤ gb228)); replace HB := Aside0.mk (below_step (hs_) hb); have NB205_228 := Aside0.mk (nl2_ hg BK205.out); have NB228_205 := Aside0.mk (ng2_ hg BK205.out); replace BK205 := Aside0.mk (bb_ BK205.out hb); have NB212_228 := Aside0.mk (nl2_ hg BK212.out); have NB228_212 := Aside0.mk (ng2_ hg BK212.out); replace BK212 := Aside0.mk (bb_ BK212.out hb); have NB218_228 := Aside0.mk (nl2_ hg BK218.out); have NB228_218 := Aside0.mk (ng2_ hg BK218.out); replace BK218 := Aside0.mk (bb_ BK218.out hb); clear hb hbox hg; have hnb97 := NB228_205.out; have hnc97 := NB205_228.out; have hnb98 := NB228_212.out; have hnc98 := NB212_228.out; have hnb99 := NB228_218.out; have hnc99 := NB218_228.out; obtain ⟨hcz100_0, hcz100_1, hcz100_2, hcz100_3, hfz100_0, hfz100_1, hfz100_2, hfz100_3⟩ := bc4 BK228.out) | ((with_reducible refine gate_callee (f := 15) rfl ?_); refine goesL_ (some 65) rfl rfl Tryz.func15 (by kernel_rfl) rfl #[] rfl z2_ ?_; (with_reducible refine (graftagelaw16_lives.calls kj11  true _ ?side1 A52.out).mono ?_); (case side1 => exact GV.below hgv (hs_)); rintro e w101 ⟨rfl, hb⟩; refine ⟨_, rfl, ?_⟩; replace BK205 := Aside0.mk (blk_below (g := gb205) (o := .cells #[.string a0_0, .string a0_1, .int .i64 a0_2, .int .i64 a0_3] 24 (0, 0)) (by have b_ := BK205; have f_ := NB205_228; exact zb_) hb); replace BK212 := Aside0.mk (blk_below (g := gb212) (o := .cells #[.string t207, .string t208, .int .i64 t209, .int .i64 t210] 24 (0, 0)) (by have b_ := BK212; have f_ := NB212_228; exact zb_) hb); replace BK218 := Aside0.mk (blk_below (g := gb218) (o := .cells #[.string t213, .string t214, .int .i64 t215, .int .i64 t216] 24 (0, 0)) (by have b_ := BK218; have f_ := NB218_228; exact zb_) hb); replace BK228 := Aside0.mk (blk_below (g := gb228) (o := .cells #[.string t223, .string t224, .int .i64 t225, .int .i64 t226] 24 (0, 0)) (by have b_ := BK228; exact zb_) hb); replace HB := Aside0.mk (below_step (hs_) hb); (try clear hb); (try clear hb2); (try clear hk); (try clear hi); obtain ⟨hcz102_0, hcz102_1, hcz102_2, hcz102_3, hfz102_0, hfz102_1, hfz102_2, hfz102_3⟩ := bc4 BK205.out) | (go_at_call 33; (with_reducible refine (graftageref16_Who.calls kj11 a0_0 a0_1 a0_2 a0_3 t230 _ A54.out).mono ?_); rintro e w103 ⟨rfl, hb⟩; replace BK205 := Aside0.mk (bb_ BK205.out hb); replace BK212 := Aside0.mk (bb_ BK212.out hb); replace BK218 := Aside0.mk (bb_ BK218.out hb); replace BK228 := Aside0.mk (bb_ BK228.out hb); replace HB := Aside0.mk (below_step (hs_) hb); (try clear hb); (try clear hb2); (try clear hk); (try clear hi)))
          go_ret
          exact ⟨z4_, hs_⟩
        ·replace c53 := Bool.eq_false_iff.mpr c53
         subst c53
         have H1 : (some false) = some r := by rw [if_neg (show ¬ (false = true) by decide)] at H; exact H
         clear H
         have H := H1
         clear H1
         obtain rfl := Option.some.inj H
         have hnb104 := NB205_212.out
         have hnc104 := NB212_205.out
         have hnb105 := NB205_218.out
         have hnc105 := NB218_205.out
         obtain ⟨hcz106_0, hcz106_1, hcz106_2, hcz106_3, hfz106_0, hfz106_1, hfz106_2, hfz106_3⟩ := bc4 BK205.out
         go_wp2_with (first | ((with_reducible refine gate_callee (f := 32) rfl ?_); refine goesL_ (some 55) rfl rfl Tryz.func32 (by kernel_rfl) rfl #[.agg #[.string a0_0, .string a0_1, .int .i64 a0_2, .int .i64 a0_3]] rfl z2_ ?_; (with_reducible refine (graftageref16_Person.calls kj11 a0_0 a0_1 a0_2 a0_3 true _ A48.out).mono ?_); rintro e w107 ⟨rfl, hb⟩; refine ⟨_, rfl, ?_⟩; replace BK205 := Aside0.mk (bb_ BK205.out hb); replace BK212 := Aside0.mk (bb_ BK212.out hb); replace BK218 := Aside0.mk (bb_ BK218.out hb); replace HB := Aside0.mk (below_step (hs_) hb); (try clear hb); (try clear hb2); (try clear hk); (try clear hi); obtain ⟨hcz108_0, hcz108_1, hcz108_2, hcz108_3, hfz108_0, hfz108_1, hfz108_2, hfz108_3⟩ := bc4 BK205.out) | ((with_reducible refine gate_callee (f := 31) rfl ?_); refine goesL_ (some 59) rfl rfl Tryz.func31 (by kernel_rfl) rfl #[.agg #[.string a0_0, .string a0_1, .int .i64 a0_2, .int .i64 a0_3]] rfl z2_ ?_; (with_reducible refine (commit_Who.calls a0_0 a0_1 a0_2 a0_3 t222 _ ?side1 A50.out).mono ?_); (case side1 => exact GV.below hgv (hs_)); rintro e w109 ⟨rfl, hb⟩; refine ⟨_, rfl, ?_⟩; replace BK205 := Aside0.mk (bb_ BK205.out hb); replace BK212 := Aside0.mk (bb_ BK212.out hb); replace BK218 := Aside0.mk (bb_ BK218.out hb); replace HB := Aside0.mk (below_step (hs_) hb); (try clear hb); (try clear hb2); (try clear hk); (try clear hi)) | ((with_reducible refine gate_callee (f := 29) rfl ?_); refine goesL_ (some 62) rfl rfl Tryz.func29 (by kernel_rfl) rfl #[.string t222] rfl z2_ ?_; (with_reducible refine (commit_ParseWho.calls kj11 t222 t223 t224 t225 t226 t227 _ ?side1 A51.out).mono ?_); (case side1 => exact GV.below hgv (hs_)); rintro e w110 ⟨rfl, hb⟩; refine ⟨_, rfl, ?_⟩; replace BK205 := Aside0.mk (bb_ BK205.out hb); replace BK212 := Aside0.mk (bb_ BK212.out hb); replace BK218 := Aside0.mk (bb_ BK218.out hb); replace HB := Aside0.mk (below_step (hs_) hb); (try clear hb); (try clear hb2); (try clear hk); (try clear hi)) | ((with_reducible refine gate_dst (N := 10) rfl ?_); (try (refine gate_guard (by rfl) ?_; dsimp only)); refine be_ (cs := #[.string (⟨#[]⟩ : ByteArray), .string (⟨#[]⟩ : ByteArray), .int .i64 0, .int .i64 0]) (t := 24) ?_; intro gb228 hg w111 hbox hb; have BK228 := Aside0.mk (hbox); have GW228 := Aside0.mk ((by rw [hg]; exact (below_size (hs_)) : w.heap.size ≤ gb228)); have GE228 := Aside0.mk ((by rw [hg]; exact (below_size (hs_)) : w.heap.size ≤ gb228)); replace HB := Aside0.mk (below_step (hs_) hb); have NB205_228 := Aside0.mk (nl2_ hg BK205.out); have NB228_205 := Aside0.mk (ng2_ hg BK205.out); replace BK205 := Aside0.mk (bb_ BK205.out hb); have NB212_228 := Aside0.mk (nl2_ hg BK212.out); have NB228_212 := Aside0.mk (ng2_ hg BK212.out); replace BK212 := Aside0.mk (bb_ BK212.out hb); have NB218_228 := Aside0.mk (nl2_ hg BK218.out); have NB228_218 := Aside0.mk (ng2_ hg BK218.out); replace BK218 := Aside0.mk (bb_ BK218.out hb); clear hb hbox hg; have hnb112 := NB228_205.out; have hnc112 := NB205_228.out; have hnb113 := NB228_212.out; have hnc113 := NB212_228.out; have hnb114 := NB228_218.out; have hnc114 := NB218_228.out; obtain ⟨hcz115_0, hcz115_1, hcz115_2, hcz115_3, hfz115_0, hfz115_1, hfz115_2, hfz115_3⟩ := bc4 BK228.out) | ((with_reducible refine gate_callee (f := 15) rfl ?_); refine goesL_ (some 65) rfl rfl Tryz.func15 (by kernel_rfl) rfl #[] rfl z2_ ?_; (with_reducible refine (graftagelaw16_lives.calls kj11  false _ ?side1 A52.out).mono ?_); (case side1 => exact GV.below hgv (hs_)); rintro e w116 ⟨rfl, hb⟩; refine ⟨_, rfl, ?_⟩; replace BK205 := Aside0.mk (blk_below (g := gb205) (o := .cells #[.string a0_0, .string a0_1, .int .i64 a0_2, .int .i64 a0_3] 24 (0, 0)) (by have b_ := BK205; have f_ := NB205_228; exact zb_) hb); replace BK212 := Aside0.mk (blk_below (g := gb212) (o := .cells #[.string t207, .string t208, .int .i64 t209, .int .i64 t210] 24 (0, 0)) (by have b_ := BK212; have f_ := NB212_228; exact zb_) hb); replace BK218 := Aside0.mk (blk_below (g := gb218) (o := .cells #[.string t213, .string t214, .int .i64 t215, .int .i64 t216] 24 (0, 0)) (by have b_ := BK218; have f_ := NB218_228; exact zb_) hb); replace BK228 := Aside0.mk (blk_below (g := gb228) (o := .cells #[.string t223, .string t224, .int .i64 t225, .int .i64 t226] 24 (0, 0)) (by have b_ := BK228; exact zb_) hb); replace HB := Aside0.mk (below_step (hs_) hb); (try clear hb); (try clear hb2); (try clear hk); (try clear hi)))
         go_ret
         exact ⟨z4_, hs_⟩
       ·replace c49 := Bool.eq_false_iff.mpr c49
        subst c49
        have H1 : ((graftagelaw16_lives.f kj11).bind fun t221 => (some t221)) = some r := by rw [if_neg (show ¬ (false = true) by decide)] at H; exact H
        clear H
        have H := H1
        clear H1
        replace H := Option.bind_eq_some_iff.mp H
        obtain ⟨t221, A1170, H⟩ := H
        have A117 := Aside0.mk A1170
        clear A1170
        obtain rfl := Option.some.inj H
        have hnb118 := NB205_212.out
        have hnc118 := NB212_205.out
        have hnb119 := NB205_218.out
        have hnc119 := NB218_205.out
        obtain ⟨hcz120_0, hcz120_1, hcz120_2, hcz120_3, hfz120_0, hfz120_1, hfz120_2, hfz120_3⟩ := bc4 BK205.out
        go_wp2_with (first | ((with_reducible refine gate_callee (f := 32) rfl ?_); refine goesL_ (some 55) rfl rfl Tryz.func32 (by kernel_rfl) rfl #[.agg #[.string a0_0, .string a0_1, .int .i64 a0_2, .int .i64 a0_3]] rfl z2_ ?_; (with_reducible refine (graftageref16_Person.calls kj11 a0_0 a0_1 a0_2 a0_3 false _ A48.out).mono ?_); rintro e w121 ⟨rfl, hb⟩; refine ⟨_, rfl, ?_⟩; replace BK205 := Aside0.mk (bb_ BK205.out hb); replace BK212 := Aside0.mk (bb_ BK212.out hb); replace BK218 := Aside0.mk (bb_ BK218.out hb); replace HB := Aside0.mk (below_step (hs_) hb); (try clear hb); (try clear hb2); (try clear hk); (try clear hi)) | ((with_reducible refine gate_callee (f := 15) rfl ?_); refine goesL_ (some 57) rfl rfl Tryz.func15 (by kernel_rfl) rfl #[] rfl z2_ ?_; (with_reducible refine (graftagelaw16_lives.calls kj11  t221 _ ?side1 A117.out).mono ?_); (case side1 => exact GV.below hgv (hs_)); rintro e w122 ⟨rfl, hb⟩; refine ⟨_, rfl, ?_⟩; replace BK205 := Aside0.mk (bb_ BK205.out hb); replace BK212 := Aside0.mk (bb_ BK212.out hb); replace BK218 := Aside0.mk (bb_ BK218.out hb); replace HB := Aside0.mk (below_step (hs_) hb); (try clear hb); (try clear hb2); (try clear hk); (try clear hi)))
        go_ret
        exact ⟨z4_, hs_⟩

end Go.Proofs.YtbhfbbfjdklfgaaGreatDoor.Q


/- Persons' words: cuts, digits and zones over lists of bytes. -/
namespace Go.Proofs.YtbhfbbfjdklfgaaGreatDoor.Q
open Go.RowKit Go.Proofs.YtbhfbbfjdklfgaaGreatDoorW.PrintWords Go.Proofs.YtbhfbbfjdklfgaaGreatDoorW.PrintLast Go.Proofs.YtbhfbbfjdklfgaaGreatDoorW.PrintMore
def mk (l : List UInt8) : ByteArray := ⟨l.toArray⟩
theorem mk_data (l : List UInt8) : (mk l).data.toList = l := by simp [mk]
theorem mk_of (s : ByteArray) : mk s.data.toList = s := ba_ext (mk_data _)
theorem mk_size (l : List UInt8) : (mk l).size = l.length := by rw [Lib.size_eq, mk_data]
theorem mk_app (a b : List UInt8) : mk a ++ mk b = mk (a ++ b) := ba_ext (by rw [append_data, mk_data, mk_data, mk_data])
theorem size_of (s : ByteArray) : s.data.toList.length = s.size := (Lib.size_eq s).symm
theorem index_nonneg_iff (l s : List UInt8) : 0 ≤ Lib.index l s ∨ Lib.index l s = -1 := by
  have := Lib.index_ge l s; omega
theorem index_cons_hit {b : UInt8} {l s : List UInt8} (h : s.isPrefixOf (b :: l) = true) : Lib.index (b :: l) s = 0 := by rw [Lib.index, if_pos h]
theorem index_cons_miss {b : UInt8} {l s : List UInt8} (h : s.isPrefixOf (b :: l) = false) : Lib.index (b :: l) s = if Lib.index l s == -1 then -1 else Lib.index l s + 1 := by rw [Lib.index, if_neg (by simp [h])]
/-- where it is found, it stands, and not before -/
theorem index_spec (s : List UInt8) (hs : s ≠ []) : ∀ l : List UInt8, 0 ≤ Lib.index l s → ∃ a b, l = a ++ s ++ b ∧ Lib.index l s = a.length
  | [], h => by
    rw [Lib.index, if_neg (by simp [hs])] at h; omega
  | c :: l, h => by
    by_cases hp : s.isPrefixOf (c :: l) = true
    · obtain ⟨t, ht⟩ := List.isPrefixOf_iff_prefix.1 hp
      exact ⟨[], t, by simp [ht], by rw [index_cons_hit hp]; rfl⟩
    · rw [Bool.not_eq_true] at hp
      rw [index_cons_miss hp] at h ⊢
      by_cases h1 : Lib.index l s = -1
      · rw [h1] at h; simp at h
      · obtain ⟨a, b, e, he⟩ := index_spec s hs l (by have := Lib.index_ge l s; omega)
        refine ⟨c :: a, b, by rw [e]; simp, ?_⟩
        rw [if_neg (by simpa using h1), he, List.length_cons]; omega
/-- a pair of bytes, the second of which does not stand ahead -/
theorem index_pair (x y : UInt8) (hxy : x ≠ y) : ∀ (a b : List UInt8), y ∉ a → Lib.index (a ++ x :: y :: b) [x, y] = a.length
  | [], b, _ => index_cons_hit (by simp [List.isPrefixOf])
  | c :: a, b, h => by
    have ih := index_pair x y hxy a b (fun e => h (by simp [e]))
    have hp : [x, y].isPrefixOf (c :: (a ++ x :: y :: b)) = false := by
      cases a with
      | nil => simp [List.isPrefixOf]; intro _ e; exact absurd e.symm hxy
      | cons d r => simp [List.isPrefixOf]; intro _ e; subst e; simp at h
    rw [List.cons_append, index_cons_miss hp, ih, if_neg (by simp only [beq_iff_eq]; omega), List.length_cons]
    omega
/-- a pair, the first of which does not stand ahead -/
theorem index_pair' (x y : UInt8) : ∀ (a b : List UInt8), x ∉ a → Lib.index (a ++ x :: y :: b) [x, y] = a.length
  | [], b, _ => index_cons_hit (by simp [List.isPrefixOf])
  | c :: a, b, h => by
    have ih := index_pair' x y a b (fun e => h (by simp [e]))
    have hp : [x, y].isPrefixOf (c :: (a ++ x :: y :: b)) = false := by
      simp [List.isPrefixOf]; intro e; subst e; simp at h
    rw [List.cons_append, index_cons_miss hp, ih, if_neg (by simp only [beq_iff_eq]; omega), List.length_cons]
    omega
theorem index_one (x : UInt8) : ∀ (a b : List UInt8), x ∉ a → Lib.index (a ++ x :: b) [x] = a.length
  | [], b, _ => index_cons_hit (by simp [List.isPrefixOf])
  | c :: a, b, h => by
    have ih := index_one x a b (fun e => h (by simp [e]))
    have hp : [x].isPrefixOf (c :: (a ++ x :: b)) = false := by
      simp [List.isPrefixOf]; intro e; subst e; simp at h
    rw [List.cons_append, index_cons_miss hp, ih, if_neg (by simp only [beq_iff_eq]; omega), List.length_cons]
    omega
theorem cut_of {l s : List UInt8} (h : 0 ≤ Lib.index l s) : Lib.cut l s = (l.take (Lib.index l s).toNat, l.drop ((Lib.index l s).toNat + s.length), true) := by unfold Lib.cut; rw [if_pos h]
theorem cut_no {l s : List UInt8} (h : ¬ 0 ≤ Lib.index l s) : Lib.cut l s = (l, [], false) := by unfold Lib.cut; rw [if_neg h]
theorem cut_pair (x y : UInt8) (hxy : x ≠ y) (a b : List UInt8) (h : y ∉ a) : Lib.cut (a ++ x :: y :: b) [x, y] = (a, b, true) := by
  have := index_pair x y hxy a b h
  rw [cut_of (by omega), this]
  simp [List.take_append, List.drop_append]
theorem cut_pair' (x y : UInt8) (a b : List UInt8) (h : x ∉ a) : Lib.cut (a ++ x :: y :: b) [x, y] = (a, b, true) := by
  have := index_pair' x y a b h
  rw [cut_of (by omega), this]
  simp [List.take_append, List.drop_append]
theorem cut_one (x : UInt8) (a b : List UInt8) (h : x ∉ a) : Lib.cut (a ++ x :: b) [x] = (a, b, true) := by
  have := index_one x a b h
  rw [cut_of (by omega), this]
  simp [List.take_append, List.drop_append]
/-- what a cut that was made says of the text -/
theorem cut_text {l s a b : List UInt8} (hs : s ≠ []) (h : Lib.cut l s = (a, b, true)) : l = a ++ s ++ b ∧ Lib.index l s = a.length := by
  by_cases h0 : 0 ≤ Lib.index l s
  · rw [cut_of h0] at h
    obtain ⟨h1, h2⟩ := Prod.mk.inj h
    obtain ⟨h2, _⟩ := Prod.mk.inj h2
    obtain ⟨p, q, e, he⟩ := index_spec s hs l h0
    rw [he] at h1 h2
    have e1 : p = a := by rw [← h1, e]; simp [List.take_append]
    have e2 : q = b := by rw [← h2, e]; simp [List.drop_append]
    subst e1 e2
    exact ⟨e, he⟩
  · rw [cut_no h0] at h; simp at h
theorem cut_false {l s a b : List UInt8} (h : Lib.cut l s = (a, b, false)) : a = l ∧ b = [] ∧ Lib.index l s = -1 := by
  by_cases h0 : 0 ≤ Lib.index l s
  · rw [cut_of h0] at h; simp at h
  · rw [cut_no h0] at h
    have := Lib.index_ge l s
    simp at h
    exact ⟨h.1.symm, h.2, by omega⟩
def isDig (c : UInt8) : Bool := decide (48 ≤ c.toNat) && decide (c.toNat ≤ 57)
def valN (acc : Nat) (l : List UInt8) : Nat := l.foldl (fun a c => 10 * a + (c.toNat - 48)) acc
theorem valN_nil (acc : Nat) : valN acc [] = acc := by unfold valN; rw [List.foldl_nil]
theorem valN_cons (acc : Nat) (c : UInt8) (l : List UInt8) : valN acc (c :: l) = valN (10 * acc + (c.toNat - 48)) l := by unfold valN; rw [List.foldl_cons]
theorem digitVal_dig {c : UInt8} (h : isDig c = true) : Lib.digitVal c = some (c.toNat - 48) := by
  unfold isDig at h
  simp only [Bool.and_eq_true, decide_eq_true_eq] at h
  unfold Lib.digitVal
  rw [if_pos h]
theorem decFrom_val (l : List UInt8) : ∀ (acc : Nat), l.all isDig = true → Lib.decFrom acc l = some (valN acc l) := by
  induction l with
  | nil => intro acc _; rfl
  | cons c l ih =>
    intro acc h
    rw [List.all_cons, Bool.and_eq_true] at h
    rw [Lib.decFrom, digitVal_dig h.1]
    show Lib.decFrom (acc * 10 + (c.toNat - 48)) l = _
    rw [ih _ h.2, valN_cons, Nat.mul_comm]
theorem atoi_val {l : List UInt8} (hn : l ≠ []) (h : l.all isDig = true) : Lib.atoi l = some ((valN 0 l : Nat) : Int) := by
  cases l with
  | nil => exact absurd rfl hn
  | cons c r =>
    have hc : isDig c = true := by rw [List.all_cons, Bool.and_eq_true] at h; exact h.1
    unfold isDig at hc
    simp only [Bool.and_eq_true, decide_eq_true_eq] at hc
    have h1 : (c == 45) = false := by rw [beq_eq_false_iff_ne]; rintro rfl; simp at hc
    have h2 : (c == 43) = false := by rw [beq_eq_false_iff_ne]; rintro rfl; simp at hc
    rw [Lib.atoi, h1, h2]
    simp only [Bool.false_eq_true, if_false]
    unfold Lib.decNat
    rw [List.isEmpty_cons]
    simp only [Bool.false_eq_true, if_false]
    rw [decFrom_val _ _ h]; rfl
theorem valN_lt : ∀ (l : List UInt8) (acc n : Nat), l.all isDig = true → acc < 10 ^ n → valN acc l < 10 ^ (n + l.length)
  | [], acc, n, _, h => by simpa [valN_nil] using h
  | c :: l, acc, n, h, ha => by
    rw [List.all_cons, Bool.and_eq_true] at h
    have hc := h.1
    unfold isDig at hc
    simp only [Bool.and_eq_true, decide_eq_true_eq] at hc
    have := valN_lt l (10 * acc + (c.toNat - 48)) (n + 1) h.2 (by rw [Nat.pow_succ]; omega)
    rw [valN_cons, List.length_cons, show n + (l.length + 1) = n + 1 + l.length by omega]
    exact this
theorem valN_app (l : List UInt8) (c : UInt8) : ∀ acc, valN acc (l ++ [c]) = 10 * valN acc l + (c.toNat - 48) := by
  induction l with
  | nil => intro acc; rfl
  | cons d l ih => intro acc; rw [List.cons_append, valN_cons, ih, valN_cons]
theorem dec_all (u : Nat) : (Lib.decDigits u).all isDig = true := by
  induction u using Nat.strongRecOn with
  | _ u ih =>
    rw [Lib.decDigits]
    split
    · rename_i h
      simp [isDig, UInt8.toNat_ofNat']
      omega
    · rename_i h
      rw [List.all_append, ih (u / 10) (by omega)]
      simp [isDig, UInt8.toNat_ofNat']
      omega
theorem dec_ne (u : Nat) : Lib.decDigits u ≠ [] := by
  rw [Lib.decDigits]; split <;> simp
theorem dec_val (u : Nat) : valN 0 (Lib.decDigits u) = u := by
  induction u using Nat.strongRecOn with
  | _ u ih =>
    rw [Lib.decDigits]
    split
    · rename_i h
      simp [valN_cons, valN_nil, UInt8.toNat_ofNat']
      omega
    · rename_i h
      rw [valN_app, ih (u / 10) (by omega)]
      simp [UInt8.toNat_ofNat']
      omega
theorem dec_head (u : Nat) (h : 10 ≤ u) : ∃ c l, Lib.decDigits u = c :: l ∧ c ≠ 48 ∧ l ≠ [] := by
  induction u using Nat.strongRecOn with
  | _ u ih =>
    rw [Lib.decDigits, dif_neg (by omega)]
    by_cases h1 : u / 10 < 10
    · rw [Lib.decDigits, dif_pos h1]
      refine ⟨UInt8.ofNat (48 + u / 10), [UInt8.ofNat (48 + u % 10)], rfl, ?_, by simp⟩
      intro e
      have := congrArg UInt8.toNat e
      simp [UInt8.toNat_ofNat'] at this
      omega
    · obtain ⟨c, l, e, h2, h3⟩ := ih (u / 10) (by omega) (by omega)
      exact ⟨c, l ++ [UInt8.ofNat (48 + u % 10)], by rw [e]; rfl, h2, by simp⟩
theorem dig_ofNat {c : UInt8} (h : isDig c = true) : UInt8.ofNat (48 + (c.toNat - 48)) = c := by
  unfold isDig at h
  simp only [Bool.and_eq_true, decide_eq_true_eq] at h
  apply UInt8.toNat_inj.1
  rw [UInt8.toNat_ofNat']
  have := c.toNat_lt
  omega
theorem dec_snoc (u : Nat) (h : 1 ≤ u) (c : UInt8) (hc : isDig c = true) : Lib.decDigits (10 * u + (c.toNat - 48)) = Lib.decDigits u ++ [c] := by
  have hc' := hc
  unfold isDig at hc'
  simp only [Bool.and_eq_true, decide_eq_true_eq] at hc'
  rw [Lib.decDigits, dif_neg (by omega)]
  rw [show (10 * u + (c.toNat - 48)) / 10 = u by omega, show (10 * u + (c.toNat - 48)) % 10 = c.toNat - 48 by omega, dig_ofNat hc]
/-- digits without needless noughts are the numeral of what they say -/
theorem dec_of (l : List UInt8) : ∀ (acc : Nat), 1 ≤ acc → l.all isDig = true → Lib.decDigits (valN acc l) = Lib.decDigits acc ++ l := by
  induction l with
  | nil => intro acc _ _; simp [valN_nil]
  | cons c l ih =>
    intro acc h1 h
    rw [List.all_cons, Bool.and_eq_true] at h
    rw [valN_cons, ih _ (by omega) h.2, dec_snoc acc h1 c h.1, List.append_assoc]; rfl
theorem dec_canon {l : List UInt8} (hn : l ≠ []) (h : l.all isDig = true) (hz : 1 < l.length → l.head? ≠ some 48) : Lib.decDigits (valN 0 l) = l := by
  cases l with
  | nil => exact absurd rfl hn
  | cons c r =>
    rw [List.all_cons, Bool.and_eq_true] at h
    have hc := h.1
    unfold isDig at hc
    simp only [Bool.and_eq_true, decide_eq_true_eq] at hc
    rw [valN_cons, Nat.mul_zero, Nat.zero_add]
    have h1 : Lib.decDigits (c.toNat - 48) = [c] := by rw [Lib.decDigits, dif_pos (by omega), dig_ofNat h.1]
    cases r with
    | nil => rw [valN_nil, h1]
    | cons d r =>
      have hne : c ≠ 48 := fun e => hz (by simp) (by simp [e])
      have hpos : 1 ≤ c.toNat - 48 := by
        have : c.toNat ≠ 48 := fun e => hne (UInt8.toNat_inj.1 e)
        omega
      rw [dec_of (d :: r) _ hpos h.2, h1]; rfl
end Go.Proofs.YtbhfbbfjdklfgaaGreatDoor.Q


/- Persons: what the printed functions compute, the program's and the reference's. -/
namespace Go.Proofs.YtbhfbbfjdklfgaaGreatDoor.Q
open Go.RowKit Go.Proofs.YtbhfbbfjdklfgaaGreatDoorW.PrintWords Go.Proofs.YtbhfbbfjdklfgaaGreatDoorW.PrintLast Go.Proofs.YtbhfbbfjdklfgaaGreatDoorW.PrintMore
theorem ev_ite {α : Type} {c : Prop} [Decidable c] {f g : Nat → Option α} {r : α} (h1 : c → Ev f r) (h2 : ¬ c → Ev g r) : Ev (fun k => if c then f k else g k) r := by
  by_cases h : c
  · exact Ev.congr (fun k => if_pos h) (h1 h)
  · exact Ev.congr (fun k => if_neg h) (h2 h)
theorem ev_yes {α : Type} {c : Prop} [Decidable c] {f g : Nat → Option α} {r : α} (h : c) (h1 : Ev f r) : Ev (fun k => if c then f k else g k) r := ev_ite (fun _ => h1) (fun h2 => absurd h h2)
theorem ev_no {α : Type} {c : Prop} [Decidable c] {f g : Nat → Option α} {r : α} (h : ¬ c) (h1 : Ev g r) : Ev (fun k => if c then f k else g k) r := ev_ite (fun h2 => absurd h2 h) (fun _ => h1)
theorem ev_eq {α : Type} {f : Nat → Option α} {r q : α} (h : Ev f q) (e : q = r) : Ev f r := e ▸ h
theorem sfx_at {s : ByteArray} {i : Nat} {c : UInt8} {t : List UInt8} (h : s.data.toList.drop i = c :: t) : i < s.size ∧ bt s (i : Int) = (c.toNat : Int) ∧ s.data.toList.drop (i + 1) = t := by
  have hlt : i < s.data.toList.length := by
    rcases Nat.lt_or_ge i s.data.toList.length with h1 | h1
    · exact h1
    · rw [List.drop_eq_nil_of_le h1] at h; cases h
  have hs : i < s.size := by rw [← size_of]; exact hlt
  rw [List.drop_eq_getElem_cons hlt] at h
  obtain ⟨h1, h2⟩ := List.cons.inj h
  refine ⟨hs, ?_, h2⟩
  rw [bt_get s i hs, h1]
theorem sfx_end {s : ByteArray} {i : Nat} (h : s.data.toList.drop i = []) : s.size ≤ i := by
  rw [← size_of]; simpa [List.drop_eq_nil_iff] using h
theorem ext_data (s : ByteArray) (i j : Nat) : (s.extract i j).data.toList = (s.data.toList.drop i).take (j - i) := by
  rw [ByteArray.data_extract, Array.toList_extract, List.extract_eq_drop_take', List.drop_take]
theorem ext_mk (s : ByteArray) (i j : Nat) : s.extract i j = mk ((s.data.toList.drop i).take (j - i)) := ba_ext (by rw [ext_data, mk_data])
def okU (c : UInt8) : Bool := decide (32 ≤ c.toNat) && (!(decide (c.toNat = 60)) && !(decide (c.toNat = 62)))
def edge (s : ByteArray) : Bool := decide (s.size < 1) || (decide (64 < s.size) || (decide (bt s 0 = 32) || decide (bt s ((s.size : Int) - 1) = 32)))
def namedB (s : ByteArray) : Bool := !edge s && s.data.toList.all okU
theorem okU_all {c : UInt8} {t : List UInt8} : (c :: t).all okU = (okU c && t.all okU) := rfl
theorem named_l0 (s : ByteArray) (hs : s.size ≤ 140737488351232) : ∀ (t : List UInt8) (i : Nat), s.data.toList.drop i = t → Ev (fun k => commit_named.l0 k s (s.size : Int) i) (t.all okU)
  | [], i, h => by
    have := sfx_end h
    exact Ev.step (f := ?_) (fun k => by rw [commit_named.l0, if_neg (by omega)]) (Ev.now _)
  | c :: t, i, h => by
    obtain ⟨hlt, hb, ht⟩ := sfx_at h
    have e1 : wrap64 ((i : Int) + 1) = ((i + 1 : Nat) : Int) := by rw [wrap_id (by omega) (by omega)]; omega
    refine Ev.step (f := ?_) (fun k => by rw [commit_named.l0, if_pos (by omega), if_pos (by omega), if_pos (by omega), hb, e1]) ?_
    rw [okU_all]
    refine ev_ite (fun g => ev_eq (Ev.now _) ?_) (fun g => ?_)
    · unfold okU; rw [decide_eq_false (by omega)]; rfl
    refine ev_ite (fun g2 => ev_eq (Ev.now _) ?_) (fun g2 => ?_)
    · unfold okU; rw [decide_eq_true (show c.toNat = 60 by omega)]; simp
    refine ev_ite (fun g3 => ev_eq (Ev.now _) ?_) (fun g3 => ?_)
    · unfold okU; rw [decide_eq_true (show c.toNat = 62 by omega)]; simp
    refine ev_eq (named_l0 s hs t (i + 1) ht) ?_
    unfold okU
    rw [decide_eq_true (show 32 ≤ c.toNat by omega), decide_eq_false (show ¬ c.toNat = 60 by omega), decide_eq_false (show ¬ c.toNat = 62 by omega)]; rfl
theorem refNamed_l0 (s : ByteArray) (hs : s.size ≤ 140737488351232) : ∀ (t : List UInt8) (i : Nat), s.data.toList.drop i = t → Ev (fun k => graftageref16_named.l0 k s i) (t.all okU)
  | [], i, h => by
    have := sfx_end h
    exact Ev.step (f := ?_) (fun k => by rw [graftageref16_named.l0, if_neg (by omega)]) (Ev.now _)
  | c :: t, i, h => by
    obtain ⟨hlt, hb, ht⟩ := sfx_at h
    have e1 : wrap64 ((i : Int) + 1) = ((i + 1 : Nat) : Int) := by rw [wrap_id (by omega) (by omega)]; omega
    refine Ev.step (f := ?_) (fun k => by rw [graftageref16_named.l0, if_pos (by omega), if_pos (by omega), hb, e1]) ?_
    rw [okU_all]
    refine ev_ite (fun g => ev_eq (Ev.now _) ?_) (fun g => ?_)
    · unfold okU; rw [decide_eq_false (by omega)]; rfl
    refine ev_ite (fun g2 => ev_eq (Ev.now _) ?_) (fun g2 => ?_)
    · unfold okU; rw [decide_eq_true (show c.toNat = 60 by omega)]; simp
    refine ev_ite (fun g3 => ev_eq (Ev.now _) ?_) (fun g3 => ?_)
    · unfold okU; rw [decide_eq_true (show c.toNat = 62 by omega)]; simp
    refine ev_eq (refNamed_l0 s hs t (i + 1) ht) ?_
    unfold okU
    rw [decide_eq_true (show 32 ≤ c.toNat by omega), decide_eq_false (show ¬ c.toNat = 60 by omega), decide_eq_false (show ¬ c.toNat = 62 by omega)]; rfl
theorem named_ev (s : ByteArray) (hs : s.size ≤ 140737488351232) : Ev (fun k => commit_named.f k s) (namedB s) := by
  have hT : edge s = true → Ev (fun k => commit_named.j0 k s true) (namedB s) := fun h => by
    unfold namedB; rw [h]
    exact Ev.step (f := ?_) (fun k => by rw [commit_named.j0, if_pos rfl]) (Ev.now _)
  unfold edge at hT
  refine ev_ite (fun g => hT (by rw [decide_eq_true (by omega)]; rfl)) (fun g => ?_)
  refine ev_ite (fun g2 => hT (by rw [decide_eq_true (show 64 < s.size by omega)]; simp)) (fun g2 => ?_)
  refine ev_yes (by omega) (ev_ite (fun g3 => hT (by rw [decide_eq_true g3]; simp)) (fun g3 => ?_))
  have e1 : wrap64 ((s.size : Int) - 1) = (s.size : Int) - 1 := wrap_id (by omega) (by omega)
  rw [e1]
  refine ev_yes (by omega) (ev_yes (by omega) ?_)
  by_cases g4 : bt s ((s.size : Int) - 1) = 32
  · rw [show (bt s ((s.size : Int) - 1) == 32) = true by simpa using g4]
    exact hT (by rw [decide_eq_true g4]; simp)
  · rw [show (bt s ((s.size : Int) - 1) == 32) = false by simpa using g4]
    refine Ev.step (f := ?_) (fun k => by rw [commit_named.j0, if_neg (by decide)]) ?_
    have he : edge s = false := by
      unfold edge
      rw [decide_eq_false (show ¬ s.size < 1 by omega), decide_eq_false (show ¬ 64 < s.size by omega), decide_eq_false g3, decide_eq_false g4]; rfl
    unfold namedB
    rw [he]
    have := named_l0 s hs s.data.toList 0 rfl
    exact_mod_cast this
theorem refNamed_ev (s : ByteArray) (hs : s.size ≤ 140737488351232) : Ev (fun k => graftageref16_named.f k s) (namedB s) := by
  have hT : edge s = true → Ev (fun k => graftageref16_named.j0 k s true) (namedB s) := fun h => by
    unfold namedB; rw [h]
    exact Ev.step (f := ?_) (fun k => by rw [graftageref16_named.j0, if_pos rfl]) (Ev.now _)
  unfold edge at hT
  refine ev_ite (fun g => hT (by rw [decide_eq_true (by omega)]; rfl)) (fun g => ?_)
  refine ev_ite (fun g2 => hT (by rw [decide_eq_true (show 64 < s.size by omega)]; simp)) (fun g2 => ?_)
  refine ev_yes (by omega) (ev_ite (fun g3 => hT (by rw [decide_eq_true g3]; simp)) (fun g3 => ?_))
  have e1 : wrap64 ((s.size : Int) - 1) = (s.size : Int) - 1 := wrap_id (by omega) (by omega)
  rw [e1]
  refine ev_yes (by omega) (ev_yes (by omega) ?_)
  by_cases g4 : bt s ((s.size : Int) - 1) = 32
  · rw [show (bt s ((s.size : Int) - 1) == 32) = true by simpa using g4]
    exact hT (by rw [decide_eq_true g4]; simp)
  · rw [show (bt s ((s.size : Int) - 1) == 32) = false by simpa using g4]
    refine Ev.step (f := ?_) (fun k => by rw [graftageref16_named.j0, if_neg (by decide)]) ?_
    have he : edge s = false := by
      unfold edge
      rw [decide_eq_false (show ¬ s.size < 1 by omega), decide_eq_false (show ¬ 64 < s.size by omega), decide_eq_false g3, decide_eq_false g4]; rfl
    unfold namedB
    rw [he]
    have := refNamed_l0 s hs s.data.toList 0 rfl
    exact_mod_cast this
def personB (n m : ByteArray) (t z : Int) : Bool := namedB n && (namedB m && (decide (0 ≤ t) && (decide (t ≤ 1099511627776) && (decide (-840 ≤ z) && decide (z ≤ 840)))))
theorem somebody_ev (n m : ByteArray) (t z : Int) (hn : n.size ≤ 140737488351232) (hm : m.size ≤ 140737488351232) : Ev (fun k => commit_somebody.f k n m t z) (personB n m t z) := by
  unfold personB
  refine Ev.bind (named_ev n hn) (ev_ite (fun g => ?_) (fun g => ev_eq (Ev.now _) ?_))
  · rw [g, Bool.true_and]
    refine Ev.bind (named_ev m hm) (ev_ite (fun g => ?_) (fun g => ev_eq (Ev.now _) ?_))
    · rw [g, Bool.true_and]
      refine ev_ite (fun g1 => ?_) (fun g1 => ev_eq (Ev.now _) (by rw [decide_eq_false (by omega)]; rfl))
      refine ev_ite (fun g2 => ?_) (fun g2 => ev_eq (Ev.now _) (by rw [decide_eq_false (show ¬ t ≤ 1099511627776 by omega)]; simp))
      refine ev_ite (fun g3 => ?_) (fun g3 => ev_eq (Ev.now _) (by rw [decide_eq_false (show ¬ -840 ≤ z by omega)]; simp))
      refine ev_eq (Ev.now _) ?_
      rw [decide_eq_true (show 0 ≤ t by omega), decide_eq_true g2, decide_eq_true (show -840 ≤ z by omega)]; rfl
    · rw [Bool.not_eq_true] at g; rw [g]; rfl
  · rw [Bool.not_eq_true] at g; rw [g]; rfl
theorem Person_ev (n m : ByteArray) (t z : Int) (hn : n.size ≤ 140737488351232) (hm : m.size ≤ 140737488351232) : Ev (fun k => graftageref16_Person.f k n m t z) (personB n m t z) := by
  unfold personB
  refine Ev.bind (refNamed_ev n hn) (ev_ite (fun g => ?_) (fun g => ev_eq (Ev.now _) ?_))
  · rw [g, Bool.true_and]
    refine Ev.bind (refNamed_ev m hm) (ev_ite (fun g => ?_) (fun g => ev_eq (Ev.now _) ?_))
    · rw [g, Bool.true_and]
      refine ev_ite (fun g1 => ?_) (fun g1 => ev_eq (Ev.now _) (by rw [decide_eq_false (by omega)]; rfl))
      refine ev_ite (fun g2 => ?_) (fun g2 => ev_eq (Ev.now _) (by rw [decide_eq_false (show ¬ t ≤ 1099511627776 by omega)]; simp))
      refine ev_ite (fun g3 => ?_) (fun g3 => ev_eq (Ev.now _) (by rw [decide_eq_false (show ¬ -840 ≤ z by omega)]; simp))
      refine ev_eq (Ev.now _) ?_
      rw [decide_eq_true (show 0 ≤ t by omega), decide_eq_true g2, decide_eq_true (show -840 ≤ z by omega)]; rfl
    · rw [Bool.not_eq_true] at g; rw [g]; rfl
  · rw [Bool.not_eq_true] at g; rw [g]; rfl
def offD (s : ByteArray) : Bool := decide (s.size < 1) || (decide (18 < s.size) || (decide (1 < s.size) && decide (bt s 0 = 48)))
def digOk (s : ByteArray) : Bool := !offD s && s.data.toList.all isDig
def valI (s : ByteArray) : Int := ((valN 0 s.data.toList : Nat) : Int)
theorem isDig_all {c : UInt8} {t : List UInt8} : (c :: t).all isDig = (isDig c && t.all isDig) := rfl
theorem Atoi_eq (s : ByteArray) (h0 : 1 ≤ s.size) (h1 : s.size ≤ 18) (h : s.data.toList.all isDig = true) : strconv_Atoi.f s = some (valI s, none) := by
  unfold strconv_Atoi.f
  rw [if_pos h1, atoi_val (fun e => by have := size_of s; rw [e] at this; simp at this; omega) h]
  rfl
theorem wdigits_l0 (s : ByteArray) (h0 : 1 ≤ s.size) (h1 : s.size ≤ 18) : ∀ (t : List UInt8) (i : Nat), s.data.toList.drop i = t → (s.data.toList.take i).all isDig = true → Ev (fun k => commit_digits.l0 k s (s.size : Int) i) (if t.all isDig = true then (valI s, true) else (0, false))
  | [], i, h, hp => by
    have hi := sfx_end h
    have ha : s.data.toList.all isDig = true := by rwa [List.take_of_length_le (by rw [size_of]; exact hi)] at hp
    refine Ev.step (f := ?_) (fun k => by rw [commit_digits.l0, if_neg (by omega), Atoi_eq s h0 h1 ha]) (ev_eq (Ev.now _) ?_)
    rfl
  | c :: t, i, h, hp => by
    obtain ⟨hlt, hb, ht⟩ := sfx_at h
    have e1 : wrap64 ((i : Int) + 1) = ((i + 1 : Nat) : Int) := by rw [wrap_id (by omega) (by omega)]; omega
    refine Ev.step (f := ?_) (fun k => by rw [commit_digits.l0, if_pos (by omega), if_pos (by omega), if_pos (by omega), hb, e1]) ?_
    rw [isDig_all]
    refine ev_ite (fun g => ev_eq (Ev.now _) ?_) (fun g => ?_)
    · unfold isDig; rw [decide_eq_false (by omega)]; rfl
    refine ev_ite (fun g2 => ev_eq (Ev.now _) ?_) (fun g2 => ?_)
    · unfold isDig; rw [decide_eq_false (show ¬ c.toNat ≤ 57 by omega)]; simp
    have hc : isDig c = true := by unfold isDig; rw [decide_eq_true (show 48 ≤ c.toNat by omega), decide_eq_true (show c.toNat ≤ 57 by omega)]; rfl
    have hp2 : (s.data.toList.take (i + 1)).all isDig = true := by
      have hl : i < s.data.toList.length := by rw [size_of]; exact hlt
      rw [List.take_succ_eq_append_getElem hl, List.all_append, hp, Bool.true_and]
      rw [List.drop_eq_getElem_cons hl] at h
      rw [(List.cons.inj h).1]
      simp [hc]
    rw [hc, Bool.true_and]
    exact wdigits_l0 s h0 h1 t (i + 1) ht hp2
theorem digits_ev (s : ByteArray) (hs : s.size ≤ 140737488351232) : Ev (fun k => commit_digits.f k s 18) (if digOk s = true then (valI s, true) else (0, false)) := by
  have hT : offD s = true → Ev (fun k => commit_digits.j0 k s true) (if digOk s = true then (valI s, true) else (0, false)) := fun h => by
    unfold digOk; rw [h]
    exact Ev.step (f := ?_) (fun k => by rw [commit_digits.j0, if_pos rfl]) (Ev.now _)
  have hF : offD s = false → 1 ≤ s.size → s.size ≤ 18 → Ev (fun k => commit_digits.j0 k s false) (if digOk s = true then (valI s, true) else (0, false)) := fun h h0 h1 => by
    unfold digOk; rw [h]
    refine Ev.step (f := ?_) (fun k => by rw [commit_digits.j0, if_neg (by decide)]) ?_
    have := wdigits_l0 s h0 h1 s.data.toList 0 rfl rfl
    exact_mod_cast this
  unfold offD at hT hF
  refine ev_ite (fun g => hT (by rw [decide_eq_true (by omega)]; rfl)) (fun g => ?_)
  refine ev_ite (fun g2 => hT (by rw [decide_eq_true (show 18 < s.size by omega)]; simp)) (fun g2 => ?_)
  rw [decide_eq_false (show ¬ s.size < 1 by omega), decide_eq_false (show ¬ 18 < s.size by omega)] at hF
  refine ev_ite (fun g3 => ev_yes (by omega) ?_) (fun g3 => hF (by rw [decide_eq_false (show ¬ 1 < s.size by omega)]; rfl) (by omega) (by omega))
  rw [decide_eq_true (show 1 < s.size by omega)] at hT hF
  by_cases g4 : bt s 0 = 48
  · rw [show (bt s 0 == 48) = true by simpa using g4]; exact hT (by rw [decide_eq_true g4]; simp)
  · rw [show (bt s 0 == 48) = false by simpa using g4]; exact hF (by rw [decide_eq_false g4]; rfl) (by omega) (by omega)
theorem Digits_l0 (s : ByteArray) (hs : s.size ≤ 18) : ∀ (t : List UInt8) (i : Nat), s.data.toList.drop i = t → Ev (fun k => graftageref16_Digits.l0 k s i) (t.all isDig)
  | [], i, h => by
    have hi := sfx_end h
    exact Ev.step (f := ?_) (fun k => by rw [graftageref16_Digits.l0, if_neg (by omega)]) (Ev.now _)
  | c :: t, i, h => by
    obtain ⟨hlt, hb, ht⟩ := sfx_at h
    have e1 : wrap64 ((i : Int) + 1) = ((i + 1 : Nat) : Int) := by rw [wrap_id (by omega) (by omega)]; omega
    refine Ev.step (f := ?_) (fun k => by rw [graftageref16_Digits.l0, if_pos (by omega), if_pos (by omega), hb, e1]) ?_
    rw [isDig_all]
    refine ev_ite (fun g => ev_eq (Ev.now _) ?_) (fun g => ?_)
    · unfold isDig; rw [decide_eq_false (by omega)]; rfl
    refine ev_ite (fun g2 => ev_eq (Ev.now _) ?_) (fun g2 => ?_)
    · unfold isDig; rw [decide_eq_false (show ¬ c.toNat ≤ 57 by omega)]; simp
    have hc : isDig c = true := by unfold isDig; rw [decide_eq_true (show 48 ≤ c.toNat by omega), decide_eq_true (show c.toNat ≤ 57 by omega)]; rfl
    rw [hc, Bool.true_and]
    exact Digits_l0 s hs t (i + 1) ht
theorem Digits_ev (s : ByteArray) (hs : s.size ≤ 140737488351232) : Ev (fun k => graftageref16_Digits.f k s) (digOk s) := by
  have hT : offD s = true → Ev (fun k => graftageref16_Digits.j0 k s true) (digOk s) := fun h => by
    unfold digOk; rw [h]
    exact Ev.step (f := ?_) (fun k => by rw [graftageref16_Digits.j0, if_pos rfl]) (Ev.now _)
  have hF : offD s = false → s.size ≤ 18 → Ev (fun k => graftageref16_Digits.j0 k s false) (digOk s) := fun h h1 => by
    unfold digOk; rw [h]
    refine Ev.step (f := ?_) (fun k => by rw [graftageref16_Digits.j0, if_neg (by decide)]) ?_
    have := Digits_l0 s h1 s.data.toList 0 rfl
    exact_mod_cast this
  unfold offD at hT hF
  refine ev_ite (fun g => hT (by rw [decide_eq_true (by omega)]; rfl)) (fun g => ?_)
  refine ev_ite (fun g2 => hT (by rw [decide_eq_true (show 18 < s.size by omega)]; simp)) (fun g2 => ?_)
  rw [decide_eq_false (show ¬ s.size < 1 by omega), decide_eq_false (show ¬ 18 < s.size by omega)] at hF
  refine ev_ite (fun g3 => ev_yes (by omega) ?_) (fun g3 => hF (by rw [decide_eq_false (show ¬ 1 < s.size by omega)]; rfl) (by omega))
  rw [decide_eq_true (show 1 < s.size by omega)] at hT hF
  by_cases g4 : bt s 0 = 48
  · rw [show (bt s 0 == 48) = true by simpa using g4]; exact hT (by rw [decide_eq_true g4]; simp)
  · rw [show (bt s 0 == 48) = false by simpa using g4]; exact hF (by rw [decide_eq_false g4]; rfl) (by omega)
theorem Value_l0 (s : ByteArray) (hs : s.size ≤ 18) : ∀ (t : List UInt8) (i acc : Nat), s.data.toList.drop i = t → t.all isDig = true → acc < 10 ^ i → Ev (fun k => graftageref16_Value.l0 k s (acc : Int) i) ((valN acc t : Nat) : Int)
  | [], i, acc, h, _, _ => by
    have hi := sfx_end h
    rw [valN_nil]
    exact Ev.step (f := ?_) (fun k => by rw [graftageref16_Value.l0, if_neg (by omega)]) (Ev.now _)
  | c :: t, i, acc, h, hd, ha => by
    obtain ⟨hlt, hb, ht⟩ := sfx_at h
    rw [isDig_all, Bool.and_eq_true] at hd
    have hc := hd.1
    unfold isDig at hc
    simp only [Bool.and_eq_true, decide_eq_true_eq] at hc
    have hpow : 10 ^ i ≤ 10 ^ 17 := Nat.pow_le_pow_right (by decide) (by omega)
    have hpow2 : (10 : Nat) ^ 17 = 100000000000000000 := by decide
    have e1 : wrap64 ((i : Int) + 1) = ((i + 1 : Nat) : Int) := by rw [wrap_id (by omega) (by omega)]; omega
    have e2 : wrap64 ((wrap64 ((wrap64 (10 * (acc : Int))) + (wrap64 ((c.toNat : Int))))) - 48) = ((10 * acc + (c.toNat - 48) : Nat) : Int) := by
      rw [wrap_id (x := 10 * (acc : Int)) (by omega) (by omega), wrap_id (x := (c.toNat : Int)) (by omega) (by omega), wrap_id (x := 10 * (acc : Int) + (c.toNat : Int)) (by omega) (by omega), wrap_id (by omega) (by omega)]
      omega
    refine Ev.step (f := ?_) (fun k => by rw [graftageref16_Value.l0, if_pos (by omega), if_pos (by omega), hb, e1, e2]) ?_
    rw [valN_cons]
    exact Value_l0 s hs t (i + 1) _ ht hd.2 (by rw [Nat.pow_succ]; omega)
theorem Value_ev (s : ByteArray) (hs : s.size ≤ 18) (h : s.data.toList.all isDig = true) : Ev (fun k => graftageref16_Value.f k s) (valI s) := by
  have := Value_l0 s hs s.data.toList 0 0 rfl h (by decide)
  exact_mod_cast this
def zoneB (s : ByteArray) : Int × Bool :=
  if s.size = 5 ∧ (bt s 0 = 43 ∨ bt s 0 = 45) ∧ s.data.toList ≠ [45, 48, 48, 48, 48] ∧ (s.data.toList.drop 1).all isDig = true then
    (if 60 ≤ valI (s.extract 3 s.size) then (0, false) else if bt s 0 = 45 then (-60 * valI (s.extract 1 3) - valI (s.extract 3 s.size), true) else (60 * valI (s.extract 1 3) + valI (s.extract 3 s.size), true))
  else (0, false)
theorem all_drop1 {s : ByteArray} (h5 : s.size = 5) (h : (s.data.toList.drop 1).all isDig = true) : (s.extract 1 3).data.toList.all isDig = true ∧ (s.extract 3 s.size).data.toList.all isDig = true ∧ (s.extract 1 3).size = 2 ∧ (s.extract 3 s.size).size = 2 := by
  rw [ext_data, ext_data]
  refine ⟨?_, ?_, ?_, ?_⟩
  · rw [List.all_eq_true] at h ⊢
    exact fun x hx => h x (List.mem_of_mem_take hx)
  · rw [List.all_eq_true] at h ⊢
    intro x hx
    have := List.mem_of_mem_take hx
    exact h x (by rw [show (3 : Nat) = 1 + 2 by rfl, ← List.drop_drop] at this; exact List.mem_of_mem_drop this)
  · rw [← size_of, ext_data, List.length_take, List.length_drop, size_of]; omega
  · rw [← size_of, ext_data, List.length_take, List.length_drop, size_of]; omega
theorem val_two {s : ByteArray} (h2 : s.size = 2) (h : s.data.toList.all isDig = true) : 0 ≤ valI s ∧ valI s < 100 := by
  have := valN_lt s.data.toList 0 0 h (by decide)
  rw [size_of, h2] at this
  unfold valI
  omega
theorem zone_l0 (s : ByteArray) (h5 : s.size = 5) : ∀ (t : List UInt8) (i : Nat), 1 ≤ i → s.data.toList.drop i = t → ((s.data.toList.drop 1).take (i - 1)).all isDig = true → Ev (fun k => commit_zone.l0 k s i) (if t.all isDig = true then (if 60 ≤ valI (s.extract 3 s.size) then (0, false) else if bt s 0 = 45 then (-60 * valI (s.extract 1 3) - valI (s.extract 3 s.size), true) else (60 * valI (s.extract 1 3) + valI (s.extract 3 s.size), true)) else (0, false))
  | [], i, h1, h, hp => by
    have hi := sfx_end h
    have ha : (s.data.toList.drop 1).all isDig = true := by
      rwa [List.take_of_length_le (by rw [List.length_drop, size_of]; omega)] at hp
    obtain ⟨a1, a2, a3, a4⟩ := all_drop1 h5 ha
    obtain ⟨b1, b2⟩ := val_two a3 a1
    obtain ⟨b3, b4⟩ := val_two a4 a2
    refine Ev.step (f := ?_) (fun k => by rw [commit_zone.l0, if_neg (by omega), if_pos (by omega), if_pos (by omega), Atoi_eq _ (by omega) (by omega) a1, Atoi_eq _ (by omega) (by omega) a2, Option.bind_some, Option.bind_some]) ?_
    change Ev _ (if 60 ≤ valI (s.extract 3 s.size) then (0, false) else if bt s 0 = 45 then (-60 * valI (s.extract 1 3) - valI (s.extract 3 s.size), true) else (60 * valI (s.extract 1 3) + valI (s.extract 3 s.size), true))
    refine ev_ite (fun g => ev_eq (Ev.now _) (by rw [if_pos g])) (fun g => ?_)
    rw [if_neg g]
    refine ev_yes (by omega) (ev_ite (fun g2 => ev_eq (Ev.now _) ?_) (fun g2 => ev_eq (Ev.now _) ?_))
    · rw [if_pos g2, wrap_id (x := -60 * valI (s.extract 1 3)) (by omega) (by omega), wrap_id (by omega) (by omega)]
    · rw [if_neg g2, wrap_id (x := 60 * valI (s.extract 1 3)) (by omega) (by omega), wrap_id (by omega) (by omega)]
  | c :: t, i, h1, h, hp => by
    obtain ⟨hlt, hb, ht⟩ := sfx_at h
    have e1 : wrap64 ((i : Int) + 1) = ((i + 1 : Nat) : Int) := by rw [wrap_id (by omega) (by omega)]; omega
    refine Ev.step (f := ?_) (fun k => by rw [commit_zone.l0, if_pos (by omega), if_pos (by omega), if_pos (by omega), hb, e1]) ?_
    rw [isDig_all]
    refine ev_ite (fun g => ev_eq (Ev.now _) ?_) (fun g => ?_)
    · unfold isDig; rw [decide_eq_false (by omega)]; rfl
    refine ev_ite (fun g2 => ev_eq (Ev.now _) ?_) (fun g2 => ?_)
    · unfold isDig; rw [decide_eq_false (show ¬ c.toNat ≤ 57 by omega)]; simp
    have hc : isDig c = true := by unfold isDig; rw [decide_eq_true (show 48 ≤ c.toNat by omega), decide_eq_true (show c.toNat ≤ 57 by omega)]; rfl
    rw [hc, Bool.true_and]
    refine zone_l0 s h5 t (i + 1) (by omega) ht ?_
    have hl : i - 1 < (s.data.toList.drop 1).length := by rw [List.length_drop, size_of]; omega
    rw [show i + 1 - 1 = i - 1 + 1 by omega, List.take_succ_eq_append_getElem hl, List.all_append, hp, Bool.true_and]
    have hl2 : i < s.data.toList.length := by rw [size_of]; exact hlt
    have e3 : (s.data.toList.drop 1)[i - 1] = c := by
      rw [List.getElem_drop]
      rw [List.drop_eq_getElem_cons hl2] at h
      rw [← (List.cons.inj h).1]
      congr 1; omega
    rw [e3]; simp [hc]
theorem refZone_l0 (s : ByteArray) (h5 : s.size = 5) : ∀ (t : List UInt8) (i : Nat), 1 ≤ i → s.data.toList.drop i = t → ((s.data.toList.drop 1).take (i - 1)).all isDig = true → Ev (fun k => graftageref16_zone.l0 k s i) (if t.all isDig = true then (if 60 ≤ valI (s.extract 3 s.size) then (0, false) else if bt s 0 = 45 then (-60 * valI (s.extract 1 3) - valI (s.extract 3 s.size), true) else (60 * valI (s.extract 1 3) + valI (s.extract 3 s.size), true)) else (0, false))
  | [], i, h1, h, hp => by
    have hi := sfx_end h
    have ha : (s.data.toList.drop 1).all isDig = true := by
      rwa [List.take_of_length_le (by rw [List.length_drop, size_of]; omega)] at hp
    obtain ⟨a1, a2, a3, a4⟩ := all_drop1 h5 ha
    obtain ⟨b1, b2⟩ := val_two a3 a1
    obtain ⟨b3, b4⟩ := val_two a4 a2
    refine Ev.step (f := ?_) (fun k => by rw [graftageref16_zone.l0, if_neg (by omega), if_pos (by omega)]) ?_
    change Ev _ (if 60 ≤ valI (s.extract 3 s.size) then (0, false) else if bt s 0 = 45 then (-60 * valI (s.extract 1 3) - valI (s.extract 3 s.size), true) else (60 * valI (s.extract 1 3) + valI (s.extract 3 s.size), true))
    refine Ev.bind (Value_ev _ (by omega) a2) (ev_ite (fun g => ev_eq (Ev.now _) (by rw [if_pos g])) (fun g => ?_))
    rw [if_neg g]
    refine ev_yes (by omega) (Ev.bind (Value_ev _ (by omega) a1) (ev_yes (by omega) (ev_ite (fun g2 => ev_eq (Ev.now _) ?_) (fun g2 => ev_eq (Ev.now _) ?_))))
    · rw [if_pos g2, wrap_id (x := 60 * valI (s.extract 1 3)) (by omega) (by omega), wrap_id (x := 60 * valI (s.extract 1 3) + valI (s.extract 3 s.size)) (by omega) (by omega), wrap_id (by omega) (by omega)]
      congr 1; omega
    · rw [if_neg g2, wrap_id (x := 60 * valI (s.extract 1 3)) (by omega) (by omega), wrap_id (by omega) (by omega)]
  | c :: t, i, h1, h, hp => by
    obtain ⟨hlt, hb, ht⟩ := sfx_at h
    have e1 : wrap64 ((i : Int) + 1) = ((i + 1 : Nat) : Int) := by rw [wrap_id (by omega) (by omega)]; omega
    refine Ev.step (f := ?_) (fun k => by rw [graftageref16_zone.l0, if_pos (by omega), if_pos (by omega), if_pos (by omega), hb, e1]) ?_
    rw [isDig_all]
    refine ev_ite (fun g => ev_eq (Ev.now _) ?_) (fun g => ?_)
    · unfold isDig; rw [decide_eq_false (by omega)]; rfl
    refine ev_ite (fun g2 => ev_eq (Ev.now _) ?_) (fun g2 => ?_)
    · unfold isDig; rw [decide_eq_false (show ¬ c.toNat ≤ 57 by omega)]; simp
    have hc : isDig c = true := by unfold isDig; rw [decide_eq_true (show 48 ≤ c.toNat by omega), decide_eq_true (show c.toNat ≤ 57 by omega)]; rfl
    rw [hc, Bool.true_and]
    refine refZone_l0 s h5 t (i + 1) (by omega) ht ?_
    have hl : i - 1 < (s.data.toList.drop 1).length := by rw [List.length_drop, size_of]; omega
    rw [show i + 1 - 1 = i - 1 + 1 by omega, List.take_succ_eq_append_getElem hl, List.all_append, hp, Bool.true_and]
    have hl2 : i < s.data.toList.length := by rw [size_of]; exact hlt
    have e3 : (s.data.toList.drop 1)[i - 1] = c := by
      rw [List.getElem_drop]
      rw [List.drop_eq_getElem_cons hl2] at h
      rw [← (List.cons.inj h).1]
      congr 1; omega
    rw [e3]; simp [hc]
theorem toList_beq (s : ByteArray) (l : List UInt8) : (s.toList == l) = decide (s.data.toList = l) := by
  rw [ByteArray.toList_eq, Bool.eq_iff_iff]; simp
theorem zone_ev (s : ByteArray) : Ev (fun k => commit_zone.f k s) (zoneB s) := by
  have hT : ¬ (s.size = 5 ∧ (bt s 0 = 43 ∨ bt s 0 = 45) ∧ s.data.toList ≠ [45, 48, 48, 48, 48]) → Ev (fun k => commit_zone.j0 k s true) (zoneB s) := fun h => by
    unfold zoneB; rw [if_neg (fun e => h ⟨e.1, e.2.1, e.2.2.1⟩)]
    exact Ev.step (f := ?_) (fun k => by rw [commit_zone.j0, if_pos rfl]) (Ev.now _)
  have hF : s.size = 5 → (bt s 0 = 43 ∨ bt s 0 = 45) → Ev (fun k => commit_zone.j0 k s (decide (s.data.toList = [45, 48, 48, 48, 48]))) (zoneB s) := fun h1 h2 => by
    by_cases h3 : s.data.toList = [45, 48, 48, 48, 48]
    · rw [decide_eq_true h3]; exact hT (fun e => e.2.2 h3)
    · rw [decide_eq_false h3]
      refine Ev.step (f := ?_) (fun k => by rw [commit_zone.j0, if_neg (by decide)]) ?_
      refine ev_eq (zone_l0 s h1 _ 1 (by omega) rfl (by simp)) ?_
      unfold zoneB
      by_cases h4 : (s.data.toList.drop 1).all isDig = true
      · rw [if_pos h4]; exact (if_pos ⟨h1, h2, h3, h4⟩).symm
      · rw [if_neg h4]; exact (if_neg (fun e => h4 e.2.2.2)).symm
  unfold commit_zone.f
  rw [toList_beq]
  refine ev_ite (fun g => ev_yes (by omega) ?_) (fun g => hT (fun e => g (by omega)))
  refine ev_ite (fun g2 => hF (by omega) (.inl g2)) (fun g2 => ev_ite (fun g3 => hF (by omega) (.inr g3)) (fun g3 => hT (fun e => by rcases e.2.1 with h | h <;> contradiction)))
theorem refZone_ev (s : ByteArray) : Ev (fun k => graftageref16_zone.f k s) (zoneB s) := by
  have hT : ¬ (s.size = 5 ∧ (bt s 0 = 43 ∨ bt s 0 = 45) ∧ s.data.toList ≠ [45, 48, 48, 48, 48]) → Ev (fun k => graftageref16_zone.j0 k s true) (zoneB s) := fun h => by
    unfold zoneB; rw [if_neg (fun e => h ⟨e.1, e.2.1, e.2.2.1⟩)]
    exact Ev.step (f := ?_) (fun k => by rw [graftageref16_zone.j0, if_pos rfl]) (Ev.now _)
  have hF : s.size = 5 → (bt s 0 = 43 ∨ bt s 0 = 45) → Ev (fun k => graftageref16_zone.j0 k s (decide (s.data.toList = [45, 48, 48, 48, 48]))) (zoneB s) := fun h1 h2 => by
    by_cases h3 : s.data.toList = [45, 48, 48, 48, 48]
    · rw [decide_eq_true h3]; exact hT (fun e => e.2.2 h3)
    · rw [decide_eq_false h3]
      refine Ev.step (f := ?_) (fun k => by rw [graftageref16_zone.j0, if_neg (by decide)]) ?_
      refine ev_eq (refZone_l0 s h1 _ 1 (by omega) rfl (by simp)) ?_
      unfold zoneB
      by_cases h4 : (s.data.toList.drop 1).all isDig = true
      · rw [if_pos h4]; exact (if_pos ⟨h1, h2, h3, h4⟩).symm
      · rw [if_neg h4]; exact (if_neg (fun e => h4 e.2.2.2)).symm
  unfold graftageref16_zone.f
  rw [toList_beq]
  refine ev_ite (fun g => ev_yes (by omega) ?_) (fun g => hT (fun e => g (by omega)))
  refine ev_ite (fun g2 => hF (by omega) (.inl g2)) (fun g2 => ev_ite (fun g3 => hF (by omega) (.inr g3)) (fun g3 => hT (fun e => by rcases e.2.1 with h | h <;> contradiction)))
end Go.Proofs.YtbhfbbfjdklfgaaGreatDoor.Q


/- Persons: the words of a person, and the person of words. -/
namespace Go.Proofs.YtbhfbbfjdklfgaaGreatDoor.Q
open Go.RowKit Go.Proofs.YtbhfbbfjdklfgaaGreatDoorW.PrintWords Go.Proofs.YtbhfbbfjdklfgaaGreatDoorW.PrintLast Go.Proofs.YtbhfbbfjdklfgaaGreatDoorW.PrintMore
theorem lit_mk (l : List UInt8) : (⟨l.toArray⟩ : ByteArray) = mk l := rfl
theorem size_app (a b : ByteArray) : (a ++ b).size = a.size + b.size := ByteArray.size_append
theorem dec_len (n : Nat) : ∀ u : Nat, u < 10 ^ (n + 1) → (Lib.decDigits u).length ≤ n + 1 := by
  induction n with
  | zero => intro u h; rw [Lib.decDigits, dif_pos (by omega)]; simp
  | succ n ih =>
    intro u h
    rw [Lib.decDigits]
    split
    · simp
    · rw [List.length_append, List.length_singleton]
      have := ih (u / 10) (by rw [Nat.pow_succ] at h; omega)
      omega
theorem itoa_len (t : Int) (h0 : -9223372036854775808 ≤ t) (h1 : t ≤ 9223372036854775807) : (Lib.itoa t).length ≤ 20 := by
  unfold Lib.itoa
  split
  · rw [List.length_cons]; have := dec_len 18 t.natAbs (by omega); omega
  · have := dec_len 18 t.toNat (by omega); omega
theorem Itoa_eq (t : Int) (h0 : -9223372036854775808 ≤ t) (h1 : t ≤ 9223372036854775807) : strconv_Itoa.f t = some (mk (Lib.itoa t)) := by
  unfold strconv_Itoa.f
  rw [if_pos h0, if_pos h1]; rfl
theorem itoa_nat (n : Nat) : Lib.itoa (n : Int) = Lib.decDigits n := by
  unfold Lib.itoa; rw [if_neg (by omega), Int.toNat_natCast]
theorem one_num (x : Int) (h0 : 0 ≤ x) (h1 : x < 10) : strOfNums [(wrap64 (48 + x)) % 256] = mk (Lib.decDigits x.toNat) := by
  rw [wrap_id (by omega) (by omega), Int.emod_eq_of_lt (by omega) (by omega), Lib.decDigits, dif_pos (by omega)]
  have := Go.Lib.Lz.strOfNums_map [UInt8.ofNat (48 + x.toNat)]
  rw [← lit_mk, ← this]
  congr 1
  simp [UInt8.toNat_ofNat']
  omega
theorem Num_l0 : ∀ (n : Nat) (out : ByteArray), (n : Int) ≤ 9223372036854775807 → ∀ d, out.size ≤ 1099511627776 - d → n < 10 ^ (d + 1) → d ≤ 20 → Ev (fun k => graftageref16_Num.l0 k (n : Int) out) (mk (Lib.decDigits n) ++ out) := by
  intro n
  induction n using Nat.strongRecOn with
  | _ n ih =>
    intro out hn d ho hd hd2
    by_cases h : (n : Int) ≥ 10
    · have hq : ∀ d : Nat, n < 10 ^ (d + 1 + 1) → n / 10 < 10 ^ (d + 1) := fun d hd => by
        have h2 : 10 ^ (d + 1 + 1) = 10 ^ (d + 1) * 10 := Nat.pow_succ ..
        generalize 10 ^ (d + 1) = q at h2 ⊢
        omega
      have e0 : (Int.tmod (n : Int) 10) = ((n % 10 : Nat) : Int) := by rw [Int.tmod_eq_emod_of_nonneg (by omega)]; omega
      have e1 : wrap64 (Int.tdiv (n : Int) 10) = ((n / 10 : Nat) : Int) := by rw [Int.tdiv_eq_ediv_of_nonneg (by omega), wrap_id (by omega) (by omega)]; omega
      have es : (strOfNums [(wrap64 (48 + ((n % 10 : Nat) : Int))) % 256]).size = 1 := by rw [one_num _ (by omega) (by omega), mk_size, Int.toNat_natCast, Lib.decDigits, dif_pos (by omega)]; rfl
      refine Ev.step (f := ?_) (fun k => by rw [graftageref16_Num.l0, if_pos h, e0, Option.bind_some, if_pos (by omega), e1]) ?_
      rw [one_num _ (by omega) (by omega), Int.toNat_natCast]
      cases d with
      | zero => omega
      | succ d =>
        have hl1 : (mk (Lib.decDigits (n % 10))).size = 1 := by
          rw [mk_size, Lib.decDigits.eq_def (n % 10), dif_pos (by omega)]; rfl
        have e2 : Lib.decDigits n = Lib.decDigits (n / 10) ++ Lib.decDigits (n % 10) := by
          rw [Lib.decDigits, dif_neg (by omega)]
          conv => rhs; rw [Lib.decDigits.eq_def (n % 10)]
          rw [dif_pos (by omega)]
        have := ih (n / 10) (by omega) (mk (Lib.decDigits (n % 10)) ++ out) (by omega) d (by rw [size_app, hl1]; omega) (hq d hd) (by omega)
        rw [e2, ← mk_app]
        refine ev_eq this ?_
        exact ba_ext (by simp only [append_data, List.append_assoc])
    · have es : (strOfNums [(wrap64 (48 + (n : Int))) % 256]).size = 1 := by rw [one_num _ (by omega) (by omega), mk_size, Int.toNat_natCast, Lib.decDigits, dif_pos (by omega)]; rfl
      refine Ev.step (f := ?_) (fun k => by rw [graftageref16_Num.l0, if_neg h, Option.bind_some, if_pos (by omega), one_num _ (by omega) (by omega), Int.toNat_natCast]) (Ev.now _)
theorem Num_ev (t : Int) (h0 : 0 ≤ t) (h1 : t ≤ 9223372036854775807) : Ev (fun k => graftageref16_Num.f k t) (mk (Lib.itoa t)) := by
  have := Num_l0 t.toNat ⟨#[]⟩ (by omega) 19 (by decide) (by omega) (by omega)
  rw [show ((t.toNat : Nat) : Int) = t by omega] at this
  refine ev_eq this ?_
  rw [Lib.itoa, if_neg (by omega)]
  exact ba_ext (by rw [append_data]; simp)
def twoL (n : Nat) : List UInt8 := Lib.decDigits (n / 10 % 10) ++ Lib.decDigits (n % 10)
def tailL (t z : Int) : List UInt8 := Lib.itoa t ++ 32 :: (if z < 0 then 45 else 43) :: (twoL (z.natAbs / 60) ++ twoL (z.natAbs % 60))
def whoL (n m : List UInt8) (t z : Int) : List UInt8 := n ++ 32 :: 60 :: (m ++ 62 :: 32 :: tailL t z)
def whoB (n m : ByteArray) (t z : Int) : ByteArray := mk (whoL n.data.toList m.data.toList t z)
theorem two_len (n : Nat) : (twoL n).length = 2 := by
  unfold twoL
  rw [List.length_append, Lib.decDigits, dif_pos (by omega), Lib.decDigits, dif_pos (by omega)]; rfl
theorem Who1_eq (n : Nat) (h : (n : Int) ≤ 9223372036854775807) : commit_Who_1.f (n : Int) = some (mk (twoL n)) := by
  unfold commit_Who_1.f
  have e1 : (Int.tmod (wrap64 (Int.tdiv (n : Int) 10)) 10) = ((n / 10 % 10 : Nat) : Int) := by
    rw [Int.tdiv_eq_ediv_of_nonneg (by omega), wrap_id (by omega) (by omega), Int.tmod_eq_emod_of_nonneg (by omega)]; omega
  have e2 : (Int.tmod (n : Int) 10) = ((n % 10 : Nat) : Int) := by rw [Int.tmod_eq_emod_of_nonneg (by omega)]; omega
  rw [e1, e2, Itoa_eq _ (by omega) (by omega), Itoa_eq _ (by omega) (by omega), Option.bind_some, Option.bind_some, itoa_nat, itoa_nat]
  have l1 : (mk (Lib.decDigits (n / 10 % 10))).size = 1 := by rw [mk_size, Lib.decDigits, dif_pos (by omega)]; rfl
  have l2 : (mk (Lib.decDigits (n % 10))).size = 1 := by rw [mk_size, Lib.decDigits, dif_pos (by omega)]; rfl
  rw [if_pos (by omega), mk_app]; rfl
theorem Who_eq (n m : ByteArray) (t z : Int) (hn : n.size ≤ 140737488351232) (hm : m.size ≤ 140737488351232) (h0 : -9223372036854775808 ≤ t) (h1 : t ≤ 9223372036854775807) (hz0 : -9223372036854775808 < z) (hz1 : z ≤ 9223372036854775807) : commit_Who.f n m t z = some (whoB n m t z) := by
  have hl := itoa_len t h0 h1
  have hl1 := two_len (z.natAbs / 60)
  have hl2 := two_len (z.natAbs % 60)
  have s1 : (mk (Lib.itoa t)).size ≤ 20 := by rw [mk_size]; exact hl
  have s2 : (mk (twoL (z.natAbs / 60))).size = 2 := by rw [mk_size]; exact hl1
  have s3 : (mk (twoL (z.natAbs % 60))).size = 2 := by rw [mk_size]; exact hl2
  have c2 : (⟨#[32, 60]⟩ : ByteArray).size = 2 := rfl
  have c3 : (⟨#[62, 32]⟩ : ByteArray).size = 2 := rfl
  have c4 : (⟨#[32]⟩ : ByteArray).size = 1 := rfl
  have c5 : (⟨#[45]⟩ : ByteArray).size = 1 := rfl
  have c6 : (⟨#[43]⟩ : ByteArray).size = 1 := rfl
  unfold commit_Who.f
  rw [Itoa_eq t h0 h1]
  by_cases h : z < 0
  · have e1 : wrap64 (Int.tdiv (wrap64 (-z)) 60) = ((z.natAbs / 60 : Nat) : Int) := by
      rw [wrap_id (x := -z) (by omega) (by omega), Int.tdiv_eq_ediv_of_nonneg (by omega), wrap_id (by omega) (by omega)]; omega
    have e2 : Int.tmod (wrap64 (-z)) 60 = ((z.natAbs % 60 : Nat) : Int) := by
      rw [wrap_id (x := -z) (by omega) (by omega), Int.tmod_eq_emod_of_nonneg (by omega)]; omega
    rw [if_pos h, if_pos (by omega), if_pos (by simp only [size_app]; omega), if_pos (by simp only [size_app]; omega), Option.bind_some, if_pos (by simp only [size_app]; omega), if_pos (by simp only [size_app]; omega), if_pos (by simp only [size_app]; omega), e1, e2, Who1_eq _ (by omega), Who1_eq _ (by omega), Option.bind_some, if_pos (by simp only [size_app]; omega), Option.bind_some, if_pos (by simp only [size_app]; omega)]
    congr 1
    refine ba_ext ?_
    unfold whoB whoL tailL
    rw [if_pos h]
    simp only [append_data, mk_data, List.append_assoc, List.cons_append, List.nil_append]
    try simp
  · have e1 : wrap64 (Int.tdiv z 60) = ((z.natAbs / 60 : Nat) : Int) := by
      rw [Int.tdiv_eq_ediv_of_nonneg (by omega), wrap_id (by omega) (by omega)]; omega
    have e2 : Int.tmod z 60 = ((z.natAbs % 60 : Nat) : Int) := by
      rw [Int.tmod_eq_emod_of_nonneg (by omega)]; omega
    rw [if_neg h, if_pos (by omega), if_pos (by simp only [size_app]; omega), if_pos (by simp only [size_app]; omega), Option.bind_some, if_pos (by simp only [size_app]; omega), if_pos (by simp only [size_app]; omega), if_pos (by simp only [size_app]; omega), e1, e2, Who1_eq _ (by omega), Who1_eq _ (by omega), Option.bind_some, if_pos (by simp only [size_app]; omega), Option.bind_some, if_pos (by simp only [size_app]; omega)]
    congr 1
    refine ba_ext ?_
    unfold whoB whoL tailL
    rw [if_neg h]
    simp only [append_data, mk_data, List.append_assoc, List.cons_append, List.nil_append]
    try simp
theorem four_num (u : Nat) (h : u ≤ 840) : strOfNums [(wrap64 (48 + (wrap64 (Int.tdiv (u : Int) 600)))) % 256, (wrap64 (48 + (Int.tmod (wrap64 (Int.tdiv (u : Int) 60)) 10))) % 256, (wrap64 (48 + (wrap64 (Int.tdiv (Int.tmod (u : Int) 60) 10)))) % 256, (wrap64 (48 + (Int.tmod (u : Int) 10))) % 256] = mk (twoL (u / 60) ++ twoL (u % 60)) := by
  have a1 : wrap64 (Int.tdiv (u : Int) 600) = ((u / 600 : Nat) : Int) := by rw [Int.tdiv_eq_ediv_of_nonneg (by omega), wrap_id (by omega) (by omega)]; omega
  have a2 : Int.tmod (wrap64 (Int.tdiv (u : Int) 60)) 10 = ((u / 60 % 10 : Nat) : Int) := by rw [Int.tdiv_eq_ediv_of_nonneg (by omega), wrap_id (by omega) (by omega), Int.tmod_eq_emod_of_nonneg (by omega)]; omega
  have a3 : wrap64 (Int.tdiv (Int.tmod (u : Int) 60) 10) = ((u % 60 / 10 : Nat) : Int) := by rw [Int.tmod_eq_emod_of_nonneg (by omega), Int.tdiv_eq_ediv_of_nonneg (by omega), wrap_id (by omega) (by omega)]; omega
  have a4 : Int.tmod (u : Int) 10 = ((u % 10 : Nat) : Int) := by rw [Int.tmod_eq_emod_of_nonneg (by omega)]; omega
  have w : ∀ q : Nat, q < 10 → (wrap64 (48 + (q : Int))) % 256 = ((UInt8.ofNat (48 + q)).toNat : Int) := by
    intro q hq
    rw [wrap_id (by omega) (by omega), Int.emod_eq_of_lt (by omega) (by omega), UInt8.toNat_ofNat']
    omega
  rw [a1, a2, a3, a4, w _ (by omega), w _ (by omega), w _ (by omega), w _ (by omega)]
  have := Go.Lib.Lz.strOfNums_map [UInt8.ofNat (48 + u / 600), UInt8.ofNat (48 + u / 60 % 10), UInt8.ofNat (48 + u % 60 / 10), UInt8.ofNat (48 + u % 10)]
  simp only [List.map_cons, List.map_nil] at this
  rw [this, lit_mk]
  congr 1
  unfold twoL
  rw [show u / 60 / 10 % 10 = u / 600 by omega, show u % 60 / 10 % 10 = u % 60 / 10 by omega, show u % 60 % 10 = u % 10 by omega]
  rw [Lib.decDigits.eq_def (u / 600), dif_pos (by omega), Lib.decDigits.eq_def (u / 60 % 10), dif_pos (by omega), Lib.decDigits.eq_def (u % 60 / 10), dif_pos (by omega), Lib.decDigits.eq_def (u % 10), dif_pos (by omega)]
  rfl
theorem refWho_ev (n m : ByteArray) (t z : Int) (hn : n.size ≤ 140737488351232) (hm : m.size ≤ 140737488351232) (h0 : 0 ≤ t) (h1 : t ≤ 9223372036854775807) (hz0 : -840 ≤ z) (hz1 : z ≤ 840) : Ev (fun k => graftageref16_Who.f k n m t z) (whoB n m t z) := by
  have hl := itoa_len t (by omega) h1
  have s1 : (mk (Lib.itoa t)).size ≤ 20 := by rw [mk_size]; exact hl
  have s2 : (mk (twoL (z.natAbs / 60) ++ twoL (z.natAbs % 60))).size = 4 := by rw [mk_size, List.length_append, two_len, two_len]
  have c2 : (⟨#[32, 60]⟩ : ByteArray).size = 2 := rfl
  have c3 : (⟨#[62, 32]⟩ : ByteArray).size = 2 := rfl
  have c4 : (⟨#[32]⟩ : ByteArray).size = 1 := rfl
  have c5 : (⟨#[45]⟩ : ByteArray).size = 1 := rfl
  have c6 : (⟨#[43]⟩ : ByteArray).size = 1 := rfl
  unfold graftageref16_Who.f
  by_cases h : z < 0
  · simp only [if_pos h, Option.bind_some]
    rw [wrap_id (x := -z) (by omega) (by omega), show -z = ((z.natAbs : Nat) : Int) by omega, four_num z.natAbs (by omega)]
    refine ev_yes (by omega) (ev_yes (by simp only [size_app]; omega) (ev_yes (by simp only [size_app]; omega) (Ev.bind (Num_ev t h0 h1) ?_)))
    refine ev_yes (by simp only [size_app]; omega) (ev_yes (by simp only [size_app]; omega) (ev_yes (by simp only [size_app]; omega) (ev_yes (by simp only [size_app]; omega) (ev_eq (Ev.now _) ?_))))
    refine ba_ext ?_
    unfold whoB whoL tailL
    rw [if_pos h]
    simp only [append_data, mk_data, List.append_assoc, List.cons_append, List.nil_append]
    try simp
  · simp only [if_neg h, Option.bind_some]
    rw [show z = ((z.natAbs : Nat) : Int) by omega, four_num z.natAbs (by omega)]
    refine ev_yes (by omega) (ev_yes (by simp only [size_app]; omega) (ev_yes (by simp only [size_app]; omega) (Ev.bind (Num_ev t h0 h1) ?_)))
    refine ev_yes (by simp only [size_app]; omega) (ev_yes (by simp only [size_app]; omega) (ev_yes (by simp only [size_app]; omega) (ev_yes (by simp only [size_app]; omega) (ev_eq (Ev.now _) ?_))))
    refine ba_ext ?_
    unfold whoB whoL tailL
    rw [if_neg (by omega)]
    simp only [append_data, mk_data, List.append_assoc, List.cons_append, List.nil_append]
    try simp
end Go.Proofs.YtbhfbbfjdklfgaaGreatDoor.Q


/- Persons: the person of words, told alike by the program and the reference. -/
namespace Go.Proofs.YtbhfbbfjdklfgaaGreatDoor.Q
open Go.RowKit Go.Proofs.YtbhfbbfjdklfgaaGreatDoorW.PrintWords Go.Proofs.YtbhfbbfjdklfgaaGreatDoorW.PrintLast Go.Proofs.YtbhfbbfjdklfgaaGreatDoorW.PrintMore
theorem pre_take (t u : List UInt8) : t.isPrefixOf u = true ↔ u.take t.length = t := by
  rw [List.isPrefixOf_iff_prefix, List.prefix_iff_eq_take]; exact eq_comm
theorem index_short {u t : List UInt8} (ht : t ≠ []) (h : u.length < t.length) : Lib.index u t = -1 := by
  rcases index_nonneg_iff u t with h1 | h1
  · obtain ⟨a, b, e, _⟩ := index_spec t ht u h1
    have := congrArg List.length e
    simp only [List.length_append] at this
    omega
  · exact h1
def findV (i : Nat) (u t : List UInt8) : Int := if Lib.index u t = -1 then -1 else (i : Int) + Lib.index u t
theorem find_l0 (s t : ByteArray) (hs : s.size ≤ 140737488351232) (ht : 1 ≤ t.size) (ht2 : t.size ≤ 1000) : ∀ (u : List UInt8) (i : Nat), s.data.toList.drop i = u → i ≤ s.size + 10 → Ev (fun k => graftageref16_find.l0 k s t i) (findV i u t.data.toList)
  | [], i, h, hi => by
    have := sfx_end h
    refine Ev.step (f := ?_) (fun k => by rw [graftageref16_find.l0, wrap_id (x := (i : Int) + (t.size : Int)) (by omega) (by omega), if_neg (by omega)]) (ev_eq (Ev.now _) ?_)
    unfold findV
    rw [if_pos (index_short (fun e => by have := size_of t; rw [e] at this; simp at this; omega) (by rw [size_of]; simp; omega))]
  | c :: u, i, h, hi => by
    obtain ⟨hlt, hb, hu⟩ := sfx_at h
    have htn : t.data.toList ≠ [] := fun e => by have := size_of t; rw [e] at this; simp at this; omega
    have e1 : wrap64 ((i : Int) + 1) = ((i + 1 : Nat) : Int) := by rw [wrap_id (by omega) (by omega)]; omega
    have e2 : wrap64 ((i : Int) + (t.size : Int)) = ((i + t.size : Nat) : Int) := by rw [wrap_id (by omega) (by omega)]; omega
    have hlen : (c :: u).length = s.size - i := by rw [← h, List.length_drop, size_of]
    by_cases hf : i + t.size ≤ s.size
    · refine Ev.step (f := ?_) (fun k => by rw [graftageref16_find.l0, e2, if_pos (by omega), if_pos (by omega), if_pos (by omega), e1, Int.toNat_natCast, Int.toNat_natCast]) ?_
      have hd : (s.extract i (i + t.size)).toList = (c :: u).take t.data.toList.length := by
        rw [ByteArray.toList_eq, ext_data, h, size_of]; congr 1; omega
      rw [hd, ByteArray.toList_eq]
      refine ev_ite (fun g => ev_eq (Ev.now _) ?_) (fun g => ?_)
      · unfold findV
        rw [index_cons_hit ((pre_take _ _).2 g)]; simp
      · have hm : t.data.toList.isPrefixOf (c :: u) = false := by
          rw [← Bool.not_eq_true, pre_take]; exact g
        refine ev_eq (find_l0 s t hs ht ht2 u (i + 1) hu (by omega)) ?_
        unfold findV
        rw [index_cons_miss hm]
        by_cases h1 : Lib.index u t.data.toList = -1
        · rw [if_pos h1, h1]; rfl
        · have := Lib.index_ge u t.data.toList
          have e : (if (Lib.index u t.data.toList == -1) = true then (-1 : Int) else Lib.index u t.data.toList + 1) = Lib.index u t.data.toList + 1 := if_neg (by simpa using h1)
          rw [e, if_neg h1, if_neg (by omega)]; omega
    · refine Ev.step (f := ?_) (fun k => by rw [graftageref16_find.l0, e2, if_neg (by omega)]) (ev_eq (Ev.now _) ?_)
      unfold findV
      rw [if_pos (index_short htn (by rw [size_of, hlen]; omega))]
theorem find_ev (s t : ByteArray) (i : Nat) (x : Int) (hx : x = i) (hs : s.size ≤ 140737488351232) (ht : 1 ≤ t.size) (ht2 : t.size ≤ 1000) (hi : i ≤ s.size + 10) : Ev (fun k => graftageref16_find.f k s t x) (findV i (s.data.toList.drop i) t.data.toList) := by
  subst hx; exact find_l0 s t hs ht ht2 _ i rfl hi
theorem Cut_eq (s t : ByteArray) (hs : s.size < 4294967281) : strings_Cut.f s t = some (mk (Lib.cut s.data.toList t.data.toList).1, mk (Lib.cut s.data.toList t.data.toList).2.1, (Lib.cut s.data.toList t.data.toList).2.2) := by
  unfold strings_Cut.f; rw [if_pos hs]; rfl
theorem cut_len (l s : List UInt8) : (Lib.cut l s).1.length + (Lib.cut l s).2.1.length ≤ l.length := by
  by_cases h : 0 ≤ Lib.index l s
  · rw [cut_of h]; simp only [List.length_take, List.length_drop]; omega
  · rw [cut_no h]; simp
theorem contains_iff : ∀ l : List UInt8, Lib.containsAny l [60, 62] = true ↔ (60 ∈ l ∨ 62 ∈ l)
  | [] => by simp [Lib.containsAny, Lib.indexAny]
  | c :: l => by
    have ih := contains_iff l
    unfold Lib.containsAny at ih ⊢
    rw [decide_eq_true_iff] at ih ⊢
    rw [Lib.indexAny]
    by_cases h : ([60, 62] : List UInt8).contains c = true
    · rw [if_pos h]
      simp at h
      rcases h with rfl | rfl <;> simp
    · rw [if_neg h]
      have h60 : c ≠ 60 := by rintro rfl; simp at h
      have h62 : c ≠ 62 := by rintro rfl; simp at h
      have hge := Go.Lib.indexAny_ge [60, 62] l
      by_cases h1 : Lib.indexAny l [60, 62] = -1
      · rw [h1] at ih ⊢
        simp at ih ⊢
        exact ⟨⟨fun e => h60 e.symm, ih.1⟩, fun e => h62 e.symm, ih.2⟩
      · rw [if_neg (by simpa using h1)]
        have : 0 ≤ Lib.indexAny l [60, 62] := by omega
        have h2 := ih.1 this
        constructor
        · intro _; rcases h2 with h2 | h2 <;> simp [h2]
        · intro _; omega
theorem index_not (x : UInt8) : ∀ l : List UInt8, Lib.index l [x] = -1 ↔ x ∉ l
  | [] => by rw [Lib.index]; simp
  | c :: l => by
    by_cases h : c = x
    · subst h
      rw [index_cons_hit (by simp [List.isPrefixOf])]; simp
    · rw [index_cons_miss (by simp [List.isPrefixOf]; exact fun e => h e.symm)]
      have ih := index_not x l
      have hge := Lib.index_ge l [x]
      by_cases h1 : Lib.index l [x] = -1
      · rw [if_pos (by simpa using h1)]
        simp only [List.mem_cons, not_or, true_iff]
        exact ⟨fun e => h e.symm, ih.1 h1⟩
      · rw [if_neg (by simpa using h1)]
        constructor
        · intro h2; omega
        · intro h2; exact absurd (ih.2 (fun e => h2 (by simp [e]))) h1
def noA (l : List UInt8) : Prop := 60 ∉ l ∧ 62 ∉ l
instance (l : List UInt8) : Decidable (noA l) := by unfold noA; infer_instance
def finW (n m : ByteArray) (t z : Int) : ByteArray × ByteArray × Int × Int × Int := if personB n m t z = true then (n, m, t, z, 0) else (⟨#[]⟩, ⟨#[]⟩, 0, 0, 1)
def c1 (s : ByteArray) : List UInt8 × List UInt8 × Bool := Lib.cut s.data.toList [32, 60]
def c2 (s : ByteArray) : List UInt8 × List UInt8 × Bool := Lib.cut (c1 s).2.1 [62, 32]
def c3 (s : ByteArray) : List UInt8 × List UInt8 × Bool := Lib.cut (c2 s).2.1 [32]
def wOk (s : ByteArray) : Prop := (c1 s).2.2 = true ∧ (c2 s).2.2 = true ∧ (c3 s).2.2 = true ∧ digOk (mk (c3 s).1) = true ∧ (zoneB (mk (c3 s).2.1)).2 = true ∧ noA (c1 s).1 ∧ noA (c2 s).1
instance (s : ByteArray) : Decidable (wOk s) := by unfold wOk; infer_instance
def parseWhoB (s : ByteArray) : ByteArray × ByteArray × Int × Int × Int :=
  if wOk s then finW (mk (c1 s).1) (mk (c2 s).1) (valI (mk (c3 s).1)) (zoneB (mk (c3 s).2.1)).1 else (⟨#[]⟩, ⟨#[]⟩, 0, 0, 2)
theorem c_len (s : ByteArray) : (c1 s).1.length + (c1 s).2.1.length ≤ s.size ∧ (c2 s).1.length + (c2 s).2.1.length ≤ (c1 s).2.1.length ∧ (c3 s).1.length + (c3 s).2.1.length ≤ (c2 s).2.1.length := by
  have h1 := cut_len s.data.toList [32, 60]
  have h2 := cut_len (c1 s).2.1 [62, 32]
  have h3 := cut_len (c2 s).2.1 [32]
  rw [size_of] at h1
  exact ⟨h1, h2, h3⟩
theorem ParseWho_ev (s : ByteArray) (hs : s.size ≤ 4294967000) : Ev (fun k => commit_ParseWho.f k s) (parseWhoB s) := by
  obtain ⟨l1, l2, l3⟩ := c_len s
  have E1 : strings_Cut.f s ⟨#[32, 60]⟩ = some (mk (c1 s).1, mk (c1 s).2.1, (c1 s).2.2) := Cut_eq _ _ (by omega)
  have E2 : strings_Cut.f (mk (c1 s).2.1) ⟨#[62, 32]⟩ = some (mk (c2 s).1, mk (c2 s).2.1, (c2 s).2.2) := by
    rw [Cut_eq _ _ (by rw [mk_size]; omega), mk_data]; rfl
  have E3 : strings_Cut.f (mk (c2 s).2.1) ⟨#[32]⟩ = some (mk (c3 s).1, mk (c3 s).2.1, (c3 s).2.2) := by
    rw [Cut_eq _ _ (by rw [mk_size]; omega), mk_data]; rfl
  have bad : ¬ wOk s → ∀ (n m : ByteArray) (t z : Int), Ev (fun k => commit_ParseWho.j0 k n m t z true) (parseWhoB s) := fun h n m t z => by
    unfold parseWhoB; rw [if_neg h]
    exact Ev.step (f := ?_) (fun k => by rw [commit_ParseWho.j0, if_pos rfl]) (Ev.now _)
  unfold commit_ParseWho.f
  rw [E1]
  simp only [Option.bind_some]
  rw [E2]
  simp only [Option.bind_some]
  rw [E3]
  simp only [Option.bind_some]
  refine Ev.bind (digits_ev _ (by rw [mk_size]; omega)) (Ev.bind (zone_ev _) ?_)
  unfold wOk at bad
  refine ev_ite (fun g1 => ?_) (fun g1 => bad (fun e => g1 e.1) _ _ _ _)
  refine ev_ite (fun g2 => ?_) (fun g2 => bad (fun e => g2 e.2.1) _ _ _ _)
  refine ev_ite (fun g3 => ?_) (fun g3 => bad (fun e => g3 e.2.2.1) _ _ _ _)
  refine ev_ite (fun g4 => ?_) (fun g4 => bad (fun e => g4 (by rw [if_pos e.2.2.2.1])) _ _ _ _)
  have g4' : digOk (mk (c3 s).1) = true := by
    by_cases h : digOk (mk (c3 s).1) = true
    · exact h
    · rw [if_neg h] at g4; simp at g4
  rw [if_pos g4']
  refine ev_ite (fun g5 => ?_) (fun g5 => bad (fun e => g5 e.2.2.2.2.1) _ _ _ _)
  refine ev_yes (by rw [mk_size, mk_size]; omega) ?_
  have E4 : strings_ContainsAny.f (mk (c1 s).1 ++ mk (c2 s).1) ⟨#[60, 62]⟩ = some (Lib.containsAny ((c1 s).1 ++ (c2 s).1) [60, 62]) := by
    unfold strings_ContainsAny.f
    rw [if_pos (by rw [size_app, mk_size, mk_size]; omega), if_pos (by decide), if_pos (by decide), append_data, mk_data, mk_data]
  rw [E4]
  simp only [Option.bind_some]
  by_cases g6 : Lib.containsAny ((c1 s).1 ++ (c2 s).1) [60, 62] = true
  · rw [g6]
    refine bad (fun e => ?_) _ _ _ _
    rw [contains_iff, List.mem_append, List.mem_append] at g6
    obtain ⟨_, _, _, _, _, ⟨a, b⟩, c, d⟩ := e
    rcases g6 with (h | h) | (h | h) <;> contradiction
  · have hw : wOk s := by
      rw [contains_iff, List.mem_append, List.mem_append] at g6
      simp only [not_or] at g6
      exact ⟨g1, g2, g3, g4', g5, ⟨g6.1.1, g6.2.1⟩, g6.1.2, g6.2.2⟩
    rw [Bool.not_eq_true] at g6
    rw [g6]
    refine Ev.step (f := ?_) (fun k => by rw [commit_ParseWho.j0, if_neg (by decide)]) ?_
    unfold parseWhoB finW
    rw [if_pos hw]
    refine Ev.bind (somebody_ev _ _ _ _ (by rw [mk_size]; omega) (by rw [mk_size]; omega)) (ev_ite (fun g => ?_) (fun g => ?_))
    · rw [if_pos g]; exact Ev.now _
    · rw [if_neg g]; exact Ev.now _
end Go.Proofs.YtbhfbbfjdklfgaaGreatDoor.Q


/- Persons: the reference's reading of a person's words. -/
namespace Go.Proofs.YtbhfbbfjdklfgaaGreatDoor.Q
open Go.RowKit Go.Proofs.YtbhfbbfjdklfgaaGreatDoorW.PrintWords Go.Proofs.YtbhfbbfjdklfgaaGreatDoorW.PrintLast Go.Proofs.YtbhfbbfjdklfgaaGreatDoorW.PrintMore
theorem drop_pre {α : Type} (a b : List α) (i : Nat) (h : a.length = i) : (a ++ b).drop i = b := by subst h; simp
theorem take_pre {α : Type} (a b : List α) (i : Nat) (h : a.length = i) : (a ++ b).take i = a := by subst h; simp
theorem find_nonneg (l : List UInt8) (x : UInt8) : findV 0 l [x] ≥ 0 ↔ x ∈ l := by
  unfold findV
  have hge := Lib.index_ge l [x]
  by_cases h : Lib.index l [x] = -1
  · rw [if_pos h]
    have := (index_not x l).1 h
    constructor
    · intro h2; omega
    · intro h2; exact absurd h2 this
  · rw [if_neg h]
    have : x ∈ l := by
      refine Classical.byContradiction fun h2 => h ((index_not x l).2 h2)
    constructor
    · intro _; exact this
    · intro _; simp; omega
theorem find_byte_ev (n : List UInt8) (x : UInt8) (hn : n.length ≤ 140737488351232) : Ev (fun k => graftageref16_find.f k (mk n) ⟨#[x]⟩ 0) (findV 0 n [x]) := by
  have := find_ev (mk n) ⟨#[x]⟩ 0 0 rfl (by rw [mk_size]; exact hn) (Nat.le_refl 1) (show 1 ≤ 1000 by omega) (by omega)
  rw [List.drop_zero, mk_data] at this
  exact this
theorem app2 (P Q R : List UInt8) (a b c d : UInt8) : P ++ [a, b] ++ (Q ++ [c, d] ++ R) = (P ++ [a, b] ++ Q ++ [c, d]) ++ R := by simp only [List.append_assoc]
theorem one_lo : 1 ≤ (⟨#[(32 : UInt8)]⟩ : ByteArray).size := Nat.le_refl 1
theorem one_hi : (⟨#[(32 : UInt8)]⟩ : ByteArray).size ≤ 1000 := show 1 ≤ 1000 by omega
theorem w_two (n : Nat) (h : n ≤ 5000000000) : wrap64 ((n : Int) + 2) = ((n + 2 : Nat) : Int) := by rw [wrap_id (by omega) (by omega)]; omega
theorem w_one (n : Nat) (h : n ≤ 5000000000) : wrap64 ((n : Int) + 1) = ((n + 1 : Nat) : Int) := by rw [wrap_id (by omega) (by omega)]; omega
theorem refParseWho_ev (s : ByteArray) (hs : s.size ≤ 4294967000) : Ev (fun k => graftageref16_ParseWho.f k s) (parseWhoB s) := by
  obtain ⟨l1, l2, l3⟩ := c_len s
  have hs' : s.size ≤ 140737488351232 := by omega
  have no : ¬ wOk s → Ev (fun _ => some ((⟨#[]⟩ : ByteArray), (⟨#[]⟩ : ByteArray), (0 : Int), (0 : Int), (2 : Int))) (parseWhoB s) := fun h => by
    unfold parseWhoB; rw [if_neg h]; exact Ev.now _
  refine Ev.bind (find_ev s ⟨#[32, 60]⟩ 0 0 rfl (by omega) (by decide) (by decide) (by omega)) ?_
  rw [List.drop_zero]
  cases h1 : (c1 s).2.2 with
  | false =>
    have hi : Lib.index s.data.toList [32, 60] = -1 := (cut_false (l := s.data.toList) (s := [32, 60]) (a := (c1 s).1) (b := (c1 s).2.1) (by rw [← h1]; rfl)).2.2
    have : findV 0 s.data.toList [32, 60] = -1 := by unfold findV; rw [if_pos hi]
    change Ev (fun k => if findV 0 s.data.toList [32, 60] < 0 then _ else _) _
    exact ev_yes (by omega) (no (fun e => by have := e.1; rw [h1] at this; simp at this))
  | true =>
  obtain ⟨t1, i1⟩ := cut_text (l := s.data.toList) (s := [32, 60]) (a := (c1 s).1) (b := (c1 s).2.1) (by decide) (by rw [← h1]; rfl)
  generalize hP : (c1 s).1 = P at *
  generalize hR1 : (c1 s).2.1 = R1 at *
  have f1 : findV 0 s.data.toList [32, 60] = (P.length : Int) := by unfold findV; rw [i1, if_neg (by omega)]; simp
  change Ev (fun k => if findV 0 s.data.toList [32, 60] < 0 then _ else _) _
  rw [f1]
  clear f1 i1
  refine ev_no (by omega) ?_
  have d1 : s.data.toList.drop P.length = 32 :: 60 :: R1 := by rw [t1, List.append_assoc, drop_pre _ _ _ rfl]; rfl
  have hsz := congrArg List.length t1
  rw [size_of] at hsz
  simp only [List.length_append, List.length_cons, List.length_nil] at hsz
  refine Ev.bind (find_ev s ⟨#[62, 32]⟩ P.length _ rfl (by omega) (by decide) (by decide) (by omega)) ?_
  rw [d1]
  have hx2 : Lib.index (32 :: 60 :: R1) [62, 32] = if Lib.index R1 [62, 32] = -1 then -1 else Lib.index R1 [62, 32] + 2 := by
    have q0 : Lib.index (32 :: 60 :: R1) [62, 32] = if Lib.index (60 :: R1) [62, 32] == -1 then -1 else Lib.index (60 :: R1) [62, 32] + 1 := index_cons_miss rfl
    have q1 : Lib.index (60 :: R1) [62, 32] = if Lib.index R1 [62, 32] == -1 then -1 else Lib.index R1 [62, 32] + 1 := index_cons_miss rfl
    have hge := Lib.index_ge R1 [62, 32]
    by_cases h : Lib.index R1 [62, 32] = -1
    · rw [if_pos (by rw [h]; rfl)] at q1
      rw [if_pos (by rw [q1]; rfl)] at q0
      rw [q0, if_pos h]
    · rw [if_neg (by simpa using h)] at q1
      rw [if_neg (by rw [q1, beq_iff_eq]; omega)] at q0
      rw [q0, q1, if_neg h]; omega
  have e2' : c2 s = Lib.cut R1 [62, 32] := by unfold c2; rw [hR1]
  cases h2 : (c2 s).2.2 with
  | false =>
    have hi : Lib.index R1 [62, 32] = -1 := (cut_false (l := R1) (s := [62, 32]) (a := (c2 s).1) (b := (c2 s).2.1) (by rw [← h2, ← e2'])).2.2
    have : findV P.length (32 :: 60 :: R1) [62, 32] = -1 := by unfold findV; rw [hx2, if_pos hi, if_pos rfl]
    change Ev (fun k => if findV P.length (32 :: 60 :: R1) [62, 32] < 0 then _ else _) _
    exact ev_yes (by omega) (no (fun e => by have := e.2.1; rw [h2] at this; simp at this))
  | true =>
  obtain ⟨t2, i2⟩ := cut_text (l := R1) (s := [62, 32]) (a := (c2 s).1) (b := (c2 s).2.1) (by decide) (by rw [← h2, ← e2'])
  generalize hQ : (c2 s).1 = Q at *
  generalize hR2 : (c2 s).2.1 = R2 at *
  have f2 : findV P.length (32 :: 60 :: R1) [62, 32] = ((P.length + 2 + Q.length : Nat) : Int) := by
    unfold findV; rw [hx2, i2, if_neg (by omega), if_neg (by omega)]; omega
  change Ev (fun k => if findV P.length (32 :: 60 :: R1) [62, 32] < 0 then _ else _) _
  rw [f2]
  clear f2 hx2 i2
  refine ev_no (by omega) ?_
  have hsz2 := congrArg List.length t2
  simp only [List.length_append, List.length_cons, List.length_nil] at hsz2
  have hi4 : P.length + 2 + Q.length + 2 ≤ s.size + 10 := by omega
  have hi5 : P.length + 2 + Q.length ≤ 5000000000 := by omega
  have d2 : s.data.toList.drop (P.length + 2 + Q.length + 2) = R2 := by
    rw [t1, t2, app2]
    refine drop_pre _ _ _ ?_
    simp only [List.length_append, List.length_cons, List.length_nil]
  refine Ev.bind (find_ev s ⟨#[32]⟩ (P.length + 2 + Q.length + 2) _ (w_two _ hi5) hs' one_lo one_hi hi4) ?_
  rw [d2]
  have e3' : c3 s = Lib.cut R2 [32] := by unfold c3; rw [hR2]
  cases h3 : (c3 s).2.2 with
  | false =>
    have hi : Lib.index R2 [32] = -1 := (cut_false (l := R2) (s := [32]) (a := (c3 s).1) (b := (c3 s).2.1) (by rw [← h3, ← e3'])).2.2
    have : findV (P.length + 2 + Q.length + 2) R2 [32] = -1 := by unfold findV; rw [if_pos hi]
    change Ev (fun k => if findV (P.length + 2 + Q.length + 2) R2 [32] < 0 then _ else _) _
    exact ev_yes (by omega) (no (fun e => by have := e.2.2.1; rw [h3] at this; simp at this))
  | true =>
  obtain ⟨t3, i3⟩ := cut_text (l := R2) (s := [32]) (a := (c3 s).1) (b := (c3 s).2.1) (by decide) (by rw [← h3, ← e3'])
  generalize hT : (c3 s).1 = U at *
  generalize hZ : (c3 s).2.1 = Z at *
  have f3 : findV (P.length + 2 + Q.length + 2) R2 [32] = ((P.length + 2 + Q.length + 2 + U.length : Nat) : Int) := by
    unfold findV; rw [i3, if_neg (by omega)]; omega
  change Ev (fun k => if findV (P.length + 2 + Q.length + 2) R2 [32] < 0 then _ else _) _
  rw [f3]
  clear f3 i3
  refine ev_no (by omega) ?_
  have hsz3 := congrArg List.length t3
  simp only [List.length_append, List.length_cons, List.length_nil] at hsz3
  have hi6 : P.length ≤ 5000000000 := by omega
  have hi7 : P.length + 2 + Q.length + 2 + U.length ≤ 5000000000 := by omega
  have x1 : s.extract 0 P.length = mk P := by
    rw [ext_mk]; congr 1; rw [List.drop_zero, t1, List.append_assoc, Nat.sub_zero, take_pre _ _ _ rfl]
  have x2 : s.extract (P.length + 2) (P.length + 2 + Q.length) = mk Q := by
    rw [ext_mk]; congr 1
    rw [t1, t2, drop_pre _ _ _ (by simp), List.append_assoc, take_pre _ _ _ (by omega)]
  have x3 : s.extract (P.length + 2 + Q.length + 2) (P.length + 2 + Q.length + 2 + U.length) = mk U := by
    rw [ext_mk]; congr 1
    rw [d2, t3, List.append_assoc, take_pre _ _ _ (by omega)]
  have x4 : s.extract (P.length + 2 + Q.length + 2 + U.length + 1) s.size = mk Z := by
    rw [ext_mk]; congr 1
    rw [show P.length + 2 + Q.length + 2 + U.length + 1 = (P.length + 2 + Q.length + 2) + (U.length + 1) by omega, ← List.drop_drop, d2, t3, drop_pre _ _ _ (by simp), List.take_of_length_le (by omega)]
  simp only [w_two _ hi6, w_one _ hi7, w_two _ hi5, Int.toNat_natCast, x1, x2, x3, x4]
  have bad : ¬ wOk s → Ev (fun k => graftageref16_ParseWho.j0 k s ((P.length + 2 + Q.length : Nat) : Int) ((P.length + 2 + Q.length + 2 + U.length : Nat) : Int) (zoneB (mk Z)).1 true (mk P) (mk Q) 0 0) (parseWhoB s) := fun h =>
    Ev.step (f := ?_) (fun k => by rw [graftageref16_ParseWho.j0, if_pos rfl]) (no h)
  have hOk : wOk s ↔ digOk (mk U) = true ∧ (zoneB (mk Z)).2 = true ∧ noA P ∧ noA Q := by
    unfold wOk
    rw [h1, h2, h3, hT, hZ, hP, hQ]
    simp
  refine ev_yes (by omega) (ev_yes (by omega) (ev_yes (by omega) (ev_yes (by omega) (ev_yes (by omega) (ev_yes (by omega) (ev_yes (by omega) ?_))))))
  refine Ev.bind (refZone_ev _) (ev_ite (fun g1 => ?_) (fun g1 => bad (fun e => g1 (hOk.1 e).2.1)))
  refine ev_yes (by omega) (ev_yes (by omega) (ev_yes (by omega) ?_))
  refine Ev.bind (Digits_ev _ (by rw [mk_size]; omega)) (ev_ite (fun g2 => ?_) (fun g2 => bad (fun e => g2 (hOk.1 e).1)))
  refine Ev.bind (find_byte_ev P 60 (by omega)) (ev_ite (fun g3 => bad (fun e => (hOk.1 e).2.2.1.1 ((find_nonneg _ _).1 g3))) (fun g3 => ?_))
  refine Ev.bind (find_byte_ev P 62 (by omega)) (ev_ite (fun g4 => bad (fun e => (hOk.1 e).2.2.1.2 ((find_nonneg _ _).1 g4))) (fun g4 => ?_))
  refine Ev.bind (find_byte_ev Q 60 (by omega)) (ev_ite (fun g5 => bad (fun e => (hOk.1 e).2.2.2.1 ((find_nonneg _ _).1 g5))) (fun g5 => ?_))
  refine Ev.bind (find_byte_ev Q 62 (by omega)) ?_
  by_cases g6 : findV 0 Q [62] ≥ 0
  · rw [decide_eq_true g6]
    exact bad (fun e => (hOk.1 e).2.2.2.2 ((find_nonneg _ _).1 g6))
  · rw [decide_eq_false g6]
    have hw : wOk s := hOk.2 ⟨g2, g1, ⟨fun h => g3 ((find_nonneg _ _).2 h), fun h => g4 ((find_nonneg _ _).2 h)⟩, fun h => g5 ((find_nonneg _ _).2 h), fun h => g6 ((find_nonneg _ _).2 h)⟩
    refine Ev.step (f := ?_) (fun k => by rw [graftageref16_ParseWho.j0, if_neg (by decide), w_two _ hi5, Int.toNat_natCast, Int.toNat_natCast, x3, if_pos (by omega), if_pos (by omega), if_pos (by omega)]) ?_
    have hd := g2
    unfold digOk at hd
    rw [Bool.and_eq_true, Bool.not_eq_true'] at hd
    have h18 : (mk U).size ≤ 18 := by
      have := hd.1
      unfold offD at this
      simp only [Bool.or_eq_false_iff, decide_eq_false_iff_not] at this
      omega
    refine Ev.bind (Value_ev _ h18 hd.2) (Ev.bind (Person_ev _ _ _ _ (by rw [mk_size]; omega) (by rw [mk_size]; omega)) ?_)
    unfold parseWhoB finW
    rw [if_pos hw, hP, hQ, hT, hZ]
    refine ev_ite (fun g => ?_) (fun g => ?_)
    · rw [if_pos g]; exact Ev.now _
    · rw [if_neg g]; exact Ev.now _
end Go.Proofs.YtbhfbbfjdklfgaaGreatDoor.Q


