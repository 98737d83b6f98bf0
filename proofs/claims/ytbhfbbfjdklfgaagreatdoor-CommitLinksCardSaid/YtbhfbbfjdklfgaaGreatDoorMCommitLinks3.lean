/- The law CommitLinks holds: for every input it returns true, and each argument reads afterwards as it read before. -/
import Derived.Test.YtbhfbbfjdklfgaaGreatDoorMCommitLinks2
import Derived.Lib.AppendZerosOnto
import Derived.Lib.Overlaps
import Derived.Lib.SliceRun
import Derived.Deep.AppendSrc
import Derived.Laws.CopyRow
set_option linter.unusedVariables false
set_option linter.unusedSimpArgs false
set_option maxHeartbeats 8000000
set_option maxRecDepth 100000
namespace Go.Proofs.YtbhfbbfjdklfgaaGreatDoor.Q
open Go.Proofs.Tryz Go.RowKit YtbhfbbfjdklfgaaGreatDoorW.PrintWords YtbhfbbfjdklfgaaGreatDoorW.PrintLast YtbhfbbfjdklfgaaGreatDoorW.PrintMore
section
attribute [local go_sem] qen_ qem_ qey_ qex_ qee_ qeg_ qel_ qek_
def qca_.j0 : Nat → Int → Bool → ByteArray → ByteArray → Int → Int → Option (ByteArray × ByteArray × Int × Int × Int)
 | 0, _, _, _, _, _, _ => none
 | k + 1, x7, x18, x121000, x121001, x121002, x121003 => if x18 = true then (some (x121000, x121001, x121002, x121003, 0)) else (if x7 = 0 then (some (x121000, x121001, x121002, x121003, 2)) else (some (x121000, x121001, x121002, x121003, 1)))
def qca_.f (k : Nat) (a0 : ByteArray) (a1 : Bool) : Option (ByteArray × ByteArray × Int × Int × Int) := (qi_.f k a0).bind fun bt115 => (if a1 = true then (qca_.j0 k bt115.2.2.2.2 (bt115.2.2.2.2 == 2) bt115.1 bt115.2.1 bt115.2.2.1 bt115.2.2.2.1) else (qca_.j0 k bt115.2.2.2.2 true bt115.1 bt115.2.1 bt115.2.2.1 bt115.2.2.2.1))
theorem qca_.calls (k : Nat) (a0 : ByteArray) (a1 : Bool) (r1 : ByteArray) (r2 : ByteArray) (r3 : Int) (r4 : Int) (r5 : Int) (w : World) (h : qca_.f k a0 a1 = some (r1, r2, r3, r4, r5)) :
  Calls Tryz.prog 76 #[.string a0, .bool a1] w fun e w' => e = .returned (.tuple #[.agg #[.string r1, .string r2, .int .i64 r3, .int .i64 r4], .int .i64 r5]) ∧ Below w.heap.size w w' := by
 have hu24 := underlying24; have HB := qa_.mk (Below.refl w.heap.size w); unfold qca_.f at h; have H := h; clear h; obtain ⟨⟨t115, t116, t117, t118, t119⟩, A3, H⟩ := bx_ H; dsimp only at H; have HC4 := qa_.mk H; clear H; go_enter func76, ntmps76; go_upto_region 2 with (first | ((with_reducible refine qh_ (N := 4) rfl ?_); refine be_ (cs := #[.string ⟨#[]⟩, .string ⟨#[]⟩, .int .i64 0, .int .i64 0]) (t := 24) ?_; intro g114 hg w5 hbox hb; have K114 := qa_.mk (hbox); have W114 := ag_ hg HB; have E114 := ag_ hg HB; replace HB := ah_ HB hb; clear hb hbox hg) | ((with_reducible refine qb_ (f := 30) rfl ?_); refine gl_ (some 10) func30 #[.string a0] ?_; refine cm_ (qi_.calls k a0 t115 t116 t117 t118 t119 _ A3.out) fun w6 hb => ?_; replace K114 := ab_ K114 hb; replace HB := hr_ hb; (try clear hb); (try clear hb2); (try clear hk); (try clear hi)) | ((with_reducible refine qh_ (N := 6) rfl ?_); refine be_ (cs := #[.string ⟨#[]⟩, .string ⟨#[]⟩, .int .i64 0, .int .i64 0]) (t := 24) ?_; intro g120 hg w7 hbox hb; have K120 := qa_.mk (hbox); have W120 := qa_.mk ((by rw [hg]; exact (qj_ (hs_)) : w.heap.size ≤ g120)); have E120 := qa_.mk ((by rw [hg]; exact (qj_ (hs_)) : w.heap.size ≤ g120)); replace HB := hr_ hb; have N114_120 := qa_.mk (nl2_ hg K114.out); have N120_114 := qa_.mk (ng2_ hg K114.out); replace K114 := ab_ K114 hb; clear hb hbox hg; have hnb8 := N120_114.out; have hnc8 := N114_120.out; obtain ⟨Z9_0, Z9_1, Z9_2, Z9_3, F9⟩ := bc4 K120.out)); (try simp only [Act.put, List.setIfInBounds_toArray, List.set_cons_zero, List.set_cons_succ])
 go_cut [18] (fun v18 wc => ∃ (kq : Nat) (x18_3 : Bool), v18 = .bool x18_3 ∧ qa_ (qca_.j0 kq t119 x18_3 t115 t116 t117 t118 = some (r1, r2, r3, r4, r5)) ∧ qa_ (kq ≤ k) ∧ qa_ (wc.heap[g114]? = some (.cells #[.string ⟨#[]⟩, .string ⟨#[]⟩, .int .i64 0, .int .i64 0] 24 (0, 0))) ∧ qa_ (wc.heap[g120]? = some (.cells #[.string t115, .string t116, .int .i64 t117, .int .i64 t118] 24 (0, 0))) ∧ qa_ (Below w.heap.size w wc))
 case first =>
  have H := HC4.out; clear HC4; by_cases c10 : a1 = true
  ·subst c10; rw [if_pos rfl] at H; have H' := qa_.mk H; clear H; go_wp2
   go_meet
   case rel => exact ⟨_, ((t119 == 2)), z1_, H', ⟨z4_⟩, ⟨by have b_ := K114; have f_ := N114_120; exact zb_⟩, ⟨by have b_ := K120; exact zb_⟩, ⟨hs_⟩⟩
  replace c10 := Bool.eq_false_iff.mpr c10; subst c10; rw [if_neg nft_] at H; have H' := qa_.mk H; clear H; go_wp2
  go_meet
  case rel => exact ⟨_, (true), z1_, H', ⟨z4_⟩, ⟨by have b_ := K114; have f_ := N114_120; exact zb_⟩, ⟨by have b_ := K120; exact zb_⟩, ⟨hs_⟩⟩
 case rest =>
  clear HC4; try clear c1
  try clear p2
  try clear c3
  try clear c7
  try clear c8
  try clear c10
  try clear Z9_0 Z9_1 Z9_2 Z9_3 F9_0 F9_1 F9_2 F9_3
  obtain ⟨kq, x18_3, rfl, HA, HJ3, K114, K120, HB⟩ := hcut
  cases kq with
  | zero => exact absurd HA.out (by simp [qca_.j0])
  | succ kj3 =>
   have H := HA.out; clear HA; simp only [qca_.j0] at H; by_cases c11 : x18_3 = true
   ·subst c11; rw [if_pos rfl] at H; obtain ⟨rfl, rfl, rfl, rfl, rfl⟩ := pj5_ H; have hnb12 := N120_114.out; have hnc12 := N114_120.out; obtain ⟨Z13_0, Z13_1, Z13_2, Z13_3, F13⟩ := bc4 K120.out; obtain ⟨Z14_0, Z14_1, Z14_2, Z14_3, F14⟩ := bc4 K114.out; go_wp2
    refine bodyPost_ret (qcq_ rfl _ _ g114 24 #[.string t115, .string t116, .int .i64 t117, .int .i64 t118] (0, 0) _ rfl (by have b_ := K114; exact zb_) underlying24 rfl (by kernel_rfl)) rfl ?_; exact ⟨z3_, hs_⟩
   replace c11 := Bool.eq_false_iff.mpr c11; subst c11; rw [if_neg nft_] at H; by_cases c15 : t119 = 0; rotate_left
   ·rw [if_neg c15] at H; have c15b0 := ef_ c15; have c15b1 := nt_ c15; obtain ⟨rfl, rfl, rfl, rfl, rfl⟩ := pj5_ H; have hnb19 := N120_114.out; have hnc19 := N114_120.out; obtain ⟨Z20_0, Z20_1, Z20_2, Z20_3, F20⟩ := bc4 K120.out; obtain ⟨Z21_0, Z21_1, Z21_2, Z21_3, F21⟩ := bc4 K114.out; go_wp2
    refine bodyPost_ret (qcq_ rfl _ _ g114 24 #[.string t115, .string t116, .int .i64 t117, .int .i64 t118] (0, 0) _ rfl (by have b_ := K114; exact zb_) underlying24 rfl (by kernel_rfl)) rfl ?_; exact ⟨z3_, hs_⟩
   rw [if_pos c15] at H; have c15b0 := et_ c15; have c15b1 := nf_ c15; clear c15; obtain ⟨rfl, rfl, rfl, rfl, rfl⟩ := pj5_ H; have hnb16 := N120_114.out; have hnc16 := N114_120.out; obtain ⟨Z17_0, Z17_1, Z17_2, Z17_3, F17⟩ := bc4 K120.out; obtain ⟨Z18_0, Z18_1, Z18_2, Z18_3, F18⟩ := bc4 K114.out; go_wp2
   refine bodyPost_ret (qcq_ rfl _ _ g114 24 #[.string t115, .string t116, .int .i64 t117, .int .i64 t118] (0, 0) _ rfl (by have b_ := K114; exact zb_) underlying24 rfl (by kernel_rfl)) rfl ?_; exact ⟨z3_, hs_⟩
mutual
def qk_.j0 : Nat → ByteArray → ByteArray → Int → Bool → ByteArray → ByteArray → ByteArray → Int → Int → ByteArray → ByteArray → Int → Int → ByteArray → Option (ByteArray × List ByteArray × ByteArray × ByteArray × Int × Int × ByteArray × ByteArray × Int × Int × ByteArray × Int)
 | 0, _, _, _, _, _, _, _, _, _, _, _, _, _, _ => none
 | k + 1, x0, x5, x6, x34, x108000, x108002, x108003, x108004, x108005, x108006, x108007, x108008, x108009, x108010 => if x34 = true then (some ((⟨#[]⟩ : ByteArray), ([] : List ByteArray), (⟨#[]⟩ : ByteArray), (⟨#[]⟩ : ByteArray), 0, 0, (⟨#[]⟩ : ByteArray), (⟨#[]⟩ : ByteArray), 0, 0, (⟨#[]⟩ : ByteArray), 2)) else ((qba_.f k x0 x6 ⟨#[112, 97, 114, 101, 110, 116]⟩).bind fun bt112 => (qk_.l0 k x0 x6 bt112.1 bt112.2.1 bt112.2.2 x5 ([] : List ByteArray) x108002 x108003 x108004 x108005 x108006 x108007 x108008 x108009 x108010))
def qk_.l0 : Nat → ByteArray → Int → ByteArray → Int → Bool → ByteArray → List ByteArray → ByteArray → ByteArray → Int → Int → ByteArray → ByteArray → Int → Int → ByteArray → Option (ByteArray × List ByteArray × ByteArray × ByteArray × Int × Int × ByteArray × ByteArray × Int × Int × ByteArray × Int)
 | 0, _, _, _, _, _, _, _, _, _, _, _, _, _, _, _, _ => none
 | k + 1, x0, x6, x8, x9, x10, x108000, x108001, x108002, x108003, x108004, x108005, x108006, x108007, x108008, x108009, x108010 => if x10 = true then ((qac_.f k x8).bind fun t115 => (if t115 = true then (if x108001.length < 8796093022208 then ((qba_.f k x0 x9 ⟨#[112, 97, 114, 101, 110, 116]⟩).bind fun bt119 => (qk_.l0 k x0 x9 bt119.1 bt119.2.1 bt119.2.2 x108000 (x108001 ++ [x8]) x108002 x108003 x108004 x108005 x108006 x108007 x108008 x108009 x108010)) else (none)) else (some ((⟨#[]⟩ : ByteArray), ([] : List ByteArray), (⟨#[]⟩ : ByteArray), (⟨#[]⟩ : ByteArray), 0, 0, (⟨#[]⟩ : ByteArray), (⟨#[]⟩ : ByteArray), 0, 0, (⟨#[]⟩ : ByteArray), 2)))) else ((qba_.f k x0 x6 ⟨#[97, 117, 116, 104, 111, 114]⟩).bind fun bt122 => ((qca_.f k bt122.1 bt122.2.2).bind fun bt125 => ((qba_.f k x0 bt122.2.1 ⟨#[99, 111, 109, 109, 105, 116, 116, 101, 114]⟩).bind fun bt131 => ((qca_.f k bt131.1 bt131.2.2).bind fun bt134 => (if bt125.2.2.2.2 = 0 then (qk_.j2 k x0 bt125.2.2.2.2 bt131.2.1 bt134.2.2.2.2 true x108000 x108001 x108002 x108003 x108004 x108005 x108006 x108007 x108008 x108009 x108010 bt125.1 bt125.2.1 bt125.2.2.1 bt125.2.2.2.1 bt134.1 bt134.2.1 bt134.2.2.1 bt134.2.2.2.1) else (if bt134.2.2.2.2 = 0 then (qk_.j2 k x0 bt125.2.2.2.2 bt131.2.1 bt134.2.2.2.2 true x108000 x108001 x108002 x108003 x108004 x108005 x108006 x108007 x108008 x108009 x108010 bt125.1 bt125.2.1 bt125.2.2.1 bt125.2.2.2.1 bt134.1 bt134.2.1 bt134.2.2.1 bt134.2.2.2.1) else (if bt131.2.1 ≥ (x0.size : Int) then (qk_.j2 k x0 bt125.2.2.2.2 bt131.2.1 bt134.2.2.2.2 true x108000 x108001 x108002 x108003 x108004 x108005 x108006 x108007 x108008 x108009 x108010 bt125.1 bt125.2.1 bt125.2.2.1 bt125.2.2.2.1 bt134.1 bt134.2.1 bt134.2.2.1 bt134.2.2.2.1) else (if 0 ≤ bt131.2.1 then (if bt131.2.1 < (x0.size : Int) then (qk_.j2 k x0 bt125.2.2.2.2 bt131.2.1 bt134.2.2.2.2 ((bt x0 bt131.2.1) != 10) x108000 x108001 x108002 x108003 x108004 x108005 x108006 x108007 x108008 x108009 x108010 bt125.1 bt125.2.1 bt125.2.2.1 bt125.2.2.2.1 bt134.1 bt134.2.1 bt134.2.2.1 bt134.2.2.2.1) else (none)) else (none)))))))))
def qk_.j2 : Nat → ByteArray → Int → Int → Int → Bool → ByteArray → List ByteArray → ByteArray → ByteArray → Int → Int → ByteArray → ByteArray → Int → Int → ByteArray → ByteArray → ByteArray → Int → Int → ByteArray → ByteArray → Int → Int → Option (ByteArray × List ByteArray × ByteArray × ByteArray × Int × Int × ByteArray × ByteArray × Int × Int × ByteArray × Int)
 | 0, _, _, _, _, _, _, _, _, _, _, _, _, _, _, _, _, _, _, _, _, _, _, _, _ => none
 | k + 1, x0, x15, x17, x20, x107, x108000, x108001, x108002, x108003, x108004, x108005, x108006, x108007, x108008, x108009, x108010, x131000, x131001, x131002, x131003, x140000, x140001, x140002, x140003 => if x107 = true then (some ((⟨#[]⟩ : ByteArray), ([] : List ByteArray), (⟨#[]⟩ : ByteArray), (⟨#[]⟩ : ByteArray), 0, 0, (⟨#[]⟩ : ByteArray), (⟨#[]⟩ : ByteArray), 0, 0, (⟨#[]⟩ : ByteArray), 2)) else (if x15 = 1 then (qk_.j3 k x0 x17 true x108000 x108001 x108002 x108003 x108004 x108005 x108006 x108007 x108008 x108009 x108010 x131000 x131001 x131002 x131003 x140000 x140001 x140002 x140003) else (qk_.j3 k x0 x17 (x20 == 1) x108000 x108001 x108002 x108003 x108004 x108005 x108006 x108007 x108008 x108009 x108010 x131000 x131001 x131002 x131003 x140000 x140001 x140002 x140003))
def qk_.j3 : Nat → ByteArray → Int → Bool → ByteArray → List ByteArray → ByteArray → ByteArray → Int → Int → ByteArray → ByteArray → Int → Int → ByteArray → ByteArray → ByteArray → Int → Int → ByteArray → ByteArray → Int → Int → Option (ByteArray × List ByteArray × ByteArray × ByteArray × Int × Int × ByteArray × ByteArray × Int × Int × ByteArray × Int)
 | 0, _, _, _, _, _, _, _, _, _, _, _, _, _, _, _, _, _, _, _, _, _, _ => none
 | k + 1, x0, x17, x114, x108000, x108001, x108002, x108003, x108004, x108005, x108006, x108007, x108008, x108009, x108010, x131000, x131001, x131002, x131003, x140000, x140001, x140002, x140003 => if x114 = true then (some ((⟨#[]⟩ : ByteArray), ([] : List ByteArray), (⟨#[]⟩ : ByteArray), (⟨#[]⟩ : ByteArray), 0, 0, (⟨#[]⟩ : ByteArray), (⟨#[]⟩ : ByteArray), 0, 0, (⟨#[]⟩ : ByteArray), 1)) else (if 0 ≤ (wrap64 (x17 + 1)) then (if (wrap64 (x17 + 1)) ≤ (x0.size : Int) then ((qf_.f k x108000 x108001 x131000 x131001 x131002 x131003 x140000 x140001 x140002 x140003 (x0.extract ((wrap64 (x17 + 1)) : Int).toNat x0.size)).bind fun t140 => (if t140 = 0 then (some (x108000, x108001, x131000, x131001, x131002, x131003, x140000, x140001, x140002, x140003, x0.extract ((wrap64 (x17 + 1)) : Int).toNat x0.size, 0)) else (some ((⟨#[]⟩ : ByteArray), ([] : List ByteArray), (⟨#[]⟩ : ByteArray), (⟨#[]⟩ : ByteArray), 0, 0, (⟨#[]⟩ : ByteArray), (⟨#[]⟩ : ByteArray), 0, 0, (⟨#[]⟩ : ByteArray), t140)))) else (none)) else (none))
end
def qk_.f (k : Nat) (a0 : ByteArray) : Option (ByteArray × List ByteArray × ByteArray × ByteArray × Int × Int × ByteArray × ByteArray × Int × Int × ByteArray × Int) := (qba_.f k a0 0 ⟨#[116, 114, 101, 101]⟩).bind fun bt108 => (if bt108.2.2 = true then ((qac_.f k bt108.1).bind fun t111 => (qk_.j0 k a0 bt108.1 bt108.2.1 (!t111) ⟨#[]⟩ ⟨#[]⟩ ⟨#[]⟩ 0 0 ⟨#[]⟩ ⟨#[]⟩ 0 0 ⟨#[]⟩)) else (qk_.j0 k a0 bt108.1 bt108.2.1 true ⟨#[]⟩ ⟨#[]⟩ ⟨#[]⟩ 0 0 ⟨#[]⟩ ⟨#[]⟩ 0 0 ⟨#[]⟩))
theorem qk_.calls (k : Nat) (a0 : ByteArray) (r1 : ByteArray) (r2 : List ByteArray) (r3 : ByteArray) (r4 : ByteArray) (r5 : Int) (r6 : Int) (r7 : ByteArray) (r8 : ByteArray) (r9 : Int) (r10 : Int) (r11 : ByteArray) (r12 : Int) (w : World) (h : qk_.f k a0 = some (r1, r2, r3, r4, r5, r6, r7, r8, r9, r10, r11, r12)) :
  Calls Tryz.prog 22 #[.string a0] w fun e w' => ∃ v1_ : Value, e = .returned (.tuple #[.agg #[.string r1, v1_, .string r3, .string r4, .int .i64 r5, .int .i64 r6, .string r7, .string r8, .int .i64 r9, .int .i64 r10, .string r11], .int .i64 r12]) ∧ Kd.R Kd.string 9 w' w.heap.size (fun _ => True) v1_ r2 ∧ Below w.heap.size w w' := by
 have hu26 := underlying26; have hu24 := underlying24; have HB := qa_.mk (Below.refl w.heap.size w); unfold qk_.f at h; have H := h; clear h; obtain ⟨⟨t108, t109, t110⟩, A2, H⟩ := bx_ H; dsimp only at H; have HC3 := qa_.mk H; clear H; go_enter func22, ntmps22; go_upto_region 3 with (first | ((with_reducible refine qh_ (N := 2) rfl ?_); (try (refine qcy_ (by rfl) ?_; dsimp only)); refine be_ (cs := #[.string ⟨#[]⟩, .slice none 0 0, .string ⟨#[]⟩, .string ⟨#[]⟩, .int .i64 0, .int .i64 0, .string ⟨#[]⟩, .string ⟨#[]⟩, .int .i64 0, .int .i64 0, .string ⟨#[]⟩]) (t := 26) ?_; intro g106 hg w4 hbox hb; have K106 := qa_.mk (hbox); have W106 := ag_ hg HB; have E106 := ag_ hg HB; replace HB := ah_ HB hb; clear hb hbox hg) | ((with_reducible refine qh_ (N := 4) rfl ?_); (try (refine qcy_ (by rfl) ?_; dsimp only)); refine be_ (cs := #[.string ⟨#[]⟩, .slice none 0 0, .string ⟨#[]⟩, .string ⟨#[]⟩, .int .i64 0, .int .i64 0, .string ⟨#[]⟩, .string ⟨#[]⟩, .int .i64 0, .int .i64 0, .string ⟨#[]⟩]) (t := 26) ?_; intro g107 hg w5 hbox hb; have K107 := qa_.mk (hbox); have W107 := qa_.mk ((by rw [hg]; exact (qj_ (hs_)) : w.heap.size ≤ g107)); have E107 := qa_.mk ((by rw [hg]; exact (qj_ (hs_)) : w.heap.size ≤ g107)); replace HB := hr_ hb; have N106_107 := qa_.mk (nl2_ hg K106.out); have N107_106 := qa_.mk (ng2_ hg K106.out); replace K106 := ab_ K106 hb; clear hb hbox hg) | ((with_reducible refine qb_ (f := 75) rfl ?_); refine gl_ (some 24) func75 #[.string a0, .int .i64 0, .string ⟨#[116, 114, 101, 101]⟩] ?_; refine cm_ (qba_.calls k a0 0 ⟨#[116, 114, 101, 101]⟩ t108 t109 t110 _ A2.out) ?_; rintro w' ⟨nd, rfl⟩)); (try simp only [Act.put, List.setIfInBounds_toArray, List.set_cons_zero, List.set_cons_succ])
 go_cut [34] (fun v34 wc => ∃ (kq : Nat) (x34_2 : Bool), v34 = .bool x34_2 ∧ qa_ (qk_.j0 kq a0 t108 t109 x34_2 ⟨#[]⟩ ⟨#[]⟩ ⟨#[]⟩ 0 0 ⟨#[]⟩ ⟨#[]⟩ 0 0 ⟨#[]⟩ = some (r1, r2, r3, r4, r5, r6, r7, r8, r9, r10, r11, r12)) ∧ qa_ (kq ≤ k) ∧ qa_ (wc.heap[g106]? = some (.cells #[.string ⟨#[]⟩, (.slice none 0 0), .string ⟨#[]⟩, .string ⟨#[]⟩, .int .i64 0, .int .i64 0, .string ⟨#[]⟩, .string ⟨#[]⟩, .int .i64 0, .int .i64 0, .string ⟨#[]⟩] 26 (0, 0))) ∧ qa_ (wc.heap[g107]? = some (.cells #[.string ⟨#[]⟩, (.slice none 0 0), .string ⟨#[]⟩, .string ⟨#[]⟩, .int .i64 0, .int .i64 0, .string ⟨#[]⟩, .string ⟨#[]⟩, .int .i64 0, .int .i64 0, .string ⟨#[]⟩] 26 (0, 0))) ∧ qa_ (Below w.heap.size w wc))
 case first =>
  have H := HC3.out; clear HC3; by_cases c6 : t110 = true; rotate_left
  ·replace c6 := Bool.eq_false_iff.mpr c6; subst c6; rw [if_neg nft_] at H; have H' := qa_.mk H; clear H; go_wp2
   go_meet
   case rel => exact ⟨_, (true), z1_, H', ⟨z4_⟩, ⟨bk_ K106.out⟩, ⟨bk_ K107.out⟩, ⟨hs_⟩⟩
  subst c6; rw [if_pos rfl] at H; obtain ⟨t111, A7, H⟩ := bx_ H; have H' := qa_.mk H; clear H; go_wp2_with (first | (go_at_call 61; (with_reducible refine (qac_.calls k t108 t111 _ A7.out).mono ?_); rintro e w' ⟨rfl, ⟨nd, rfl⟩⟩)); go_meet
  case rel => exact ⟨_, (!t111), z1_, H', ⟨z4_⟩, ⟨bk_ K106.out⟩, ⟨bk_ K107.out⟩, ⟨hs_⟩⟩
 case rest =>
  clear HC3; try clear c2
  try clear p2
  try clear c6
  try clear c7
  obtain ⟨kq, x34_2, rfl, HA, HJ2, K106, K107, HB⟩ := hcut
  cases kq with
  | zero => exact absurd HA.out (by simp [qk_.j0])
  | succ kj2 =>
   have H := HA.out; clear HA; simp only [qk_.j0] at H; by_cases c8 : x34_2 = true
   ·subst c8; rw [if_pos rfl] at H; obtain ⟨rfl, rfl, rfl, rfl, rfl, rfl, rfl, rfl, rfl, rfl, rfl, rfl⟩ := pj12_ H; have hnb9 := N106_107.out; have hnc9 := N107_106.out; obtain ⟨Z10_0, Z10_1, Z10_2, Z10_3, Z10_4, Z10_5, Z10_6, Z10_7, Z10_8, Z10_9, Z10_10, F10⟩ := bc11 K106.out; go_wp2
    refine bodyPost_ret (qcq_ rfl _ _ g106 26 #[.string ⟨#[]⟩, .slice none 0 0, .string ⟨#[]⟩, .string ⟨#[]⟩, .int .i64 0, .int .i64 0, .string ⟨#[]⟩, .string ⟨#[]⟩, .int .i64 0, .int .i64 0, .string ⟨#[]⟩] (0, 0) _ rfl (by have b_ := K106; exact zb_) underlying26 rfl (by kernel_rfl)) rfl ?_; exact ⟨_, z3_, z6_, hs_⟩
   replace c8 := Bool.eq_false_iff.mpr c8; subst c8; rw [if_neg nft_] at H; obtain ⟨⟨t112, t113, t114⟩, A11, H⟩ := bx_ H; dsimp only at H; have H' := qa_.mk H; clear H; have hnb12 := N107_106.out; have hnc12 := N106_107.out; obtain ⟨Z13_0, Z13_1, Z13_2, Z13_3, Z13_4, Z13_5, Z13_6, Z13_7, Z13_8, Z13_9, Z13_10, F13⟩ := bc11 K107.out; go_wp2_with (first | ((with_reducible refine qb_ (f := 75) rfl ?_); refine gl_ (some 41) func75 #[.string a0, .int .i64 t109, .string ⟨#[112, 97, 114, 101, 110, 116]⟩] ?_; refine cm_ (qba_.calls kj2 a0 t109 ⟨#[112, 97, 114, 101, 110, 116]⟩ t112 t113 t114 _ A11.out) ?_; rintro w' ⟨nd, rfl⟩)); go_loopg [6, 8, 9, 10] kj2 (fun kq v6 v8 v9 v10 w' => ∃ (x6_2 : Int) (x8_2 : ByteArray) (x9_2 : Int) (x10_2 : Bool) (x107000_2 : ByteArray) (x107002_2 : ByteArray) (x107003_2 : ByteArray) (x107004_2 : Int) (x107005_2 : Int) (x107006_2 : ByteArray) (x107007_2 : ByteArray) (x107008_2 : Int) (x107009_2 : Int) (x107010_2 : ByteArray) (x108001_2 : List ByteArray) (u108001 : Value), v6 = .int .i64 x6_2 ∧ v8 = .string x8_2 ∧ v9 = .int .i64 x9_2 ∧ v10 = .bool x10_2 ∧ qa_ (qk_.l0 kq a0 x6_2 x8_2 x9_2 x10_2 t108 x108001_2 ⟨#[]⟩ ⟨#[]⟩ 0 0 ⟨#[]⟩ ⟨#[]⟩ 0 0 ⟨#[]⟩ = some (r1, r2, r3, r4, r5, r6, r7, r8, r9, r10, r11, r12)) ∧ qa_ (kq ≤ kj2) ∧ qa_ (Kd.R Kd.string 9 w' w.heap.size (fun _ => True) u108001 x108001_2) ∧ qa_ (w'.heap[g106]? = some (.cells #[.string x107000_2, (.slice none 0 0), .string x107002_2, .string x107003_2, .int .i64 x107004_2, .int .i64 x107005_2, .string x107006_2, .string x107007_2, .int .i64 x107008_2, .int .i64 x107009_2, .string x107010_2] 26 (0, 0))) ∧ qa_ (w'.heap[g107]? = some (.cells #[.string t108, u108001, .string ⟨#[]⟩, .string ⟨#[]⟩, .int .i64 0, .int .i64 0, .string ⟨#[]⟩, .string ⟨#[]⟩, .int .i64 0, .int .i64 0, .string ⟨#[]⟩] 26 (0, 0))) ∧ qa_ (Below w.heap.size w w'))
   case atStart => exact ⟨(t109), (t112), (t113), (t114), ((⟨#[]⟩ : ByteArray)), ((⟨#[]⟩ : ByteArray)), ((⟨#[]⟩ : ByteArray)), (0), (0), ((⟨#[]⟩ : ByteArray)), ((⟨#[]⟩ : ByteArray)), (0), (0), ((⟨#[]⟩ : ByteArray)), (([] : List ByteArray)), (.slice none 0 0), z1_, z1_, z1_, z1_, H', ⟨Nat.le_refl _⟩, ⟨z6_⟩, ⟨by have b_ := K106; have f_ := N106_107; exact zb_⟩, ⟨by have b_ := K107; exact zb_⟩, ⟨hs_⟩⟩
   case round =>
    clear H'; try clear c1
    try clear c2
    try clear p2
    try clear c6
    try clear c7
    try clear c8
    try clear c9
    try clear c12
    try clear Z10_0 Z10_1 Z10_10 Z10_2 Z10_3 Z10_4 Z10_5 Z10_6 Z10_7 Z10_8 Z10_9
    try clear Z13_0 Z13_1 Z13_10 Z13_2 Z13_3 Z13_4 Z13_5 Z13_6 Z13_7 Z13_8 Z13_9
    try clear F10
    try clear F13
    try clear p2
    obtain ⟨x6_2, x8_2, x9_2, x10_2, x107000_2, x107002_2, x107003_2, x107004_2, x107005_2, x107006_2, x107007_2, x107008_2, x107009_2, x107010_2, x108001_2, u108001, rfl, rfl, rfl, rfl, HA, HK2, HO_108001, K106, K107, HB⟩ := hrel
    cases gk with
    | zero => exact absurd HA.out (by simp [qk_.l0])
    | succ k2 =>
     have H := HA.out; clear HA; simp only [qk_.l0] at H; by_cases c14 : x10_2 = true
     ·subst c14; rw [if_pos rfl] at H; obtain ⟨t115, A15, H⟩ := bx_ H; by_cases c16 : t115 = true; rotate_left
      ·replace c16 := Bool.eq_false_iff.mpr c16; subst c16; rw [if_neg nft_] at H; obtain ⟨rfl, rfl, rfl, rfl, rfl, rfl, rfl, rfl, rfl, rfl, rfl, rfl⟩ := pj12_ H; go_wp2_with (first | ((with_reducible refine qb_ (f := 61) rfl ?_); refine gl_ (some 47) func61 #[.string x8_2] ?_; refine cm_ (qac_.calls k2 x8_2 false _ A15.out) ?_; rintro w' ⟨nd, rfl⟩; (try (rw [qce_ wr]; generalize hq_ : World.drewN wr _ = wr; have n0_ : qa_ (Kd.R Kd.string 9 wr w.heap.size (fun _ => True) u108001 x108001_2) := ⟨by rw [← hq_]; exact (rk_ HO_108001.out)⟩; have n1_ : qa_ (wr.heap[g106]? = some (.cells #[.string x107000_2, .slice none 0 0, .string x107002_2, .string x107003_2, .int .i64 x107004_2, .int .i64 x107005_2, .string x107006_2, .string x107007_2, .int .i64 x107008_2, .int .i64 x107009_2, .string x107010_2] 26 (0, 0))) := ⟨by rw [← hq_]; exact (bk_ K106.out)⟩; have n2_ : qa_ (wr.heap[g107]? = some (.cells #[.string t108, u108001, .string ⟨#[]⟩, .string ⟨#[]⟩, .int .i64 0, .int .i64 0, .string ⟨#[]⟩, .string ⟨#[]⟩, .int .i64 0, .int .i64 0, .string ⟨#[]⟩] 26 (0, 0))) := ⟨by rw [← hq_]; exact (bk_ K107.out)⟩; have n3_ : qa_ (Below w.heap.size w wr) := ⟨by rw [← hq_]; exact (hs_)⟩; clear HO_108001 K106 K107 HB hq_; have HO_108001 := n0_; have K106 := n1_; have K107 := n2_; have HB := n3_; clear n0_ n1_ n2_ n3_)); have hnb24 := N106_107.out; have hnc24 := N107_106.out; obtain ⟨Z25_0, Z25_1, Z25_2, Z25_3, Z25_4, Z25_5, Z25_6, Z25_7, Z25_8, Z25_9, Z25_10, F25⟩ := bc11 K106.out)); refine bodyPost_ret (qcq_ rfl _ _ g106 26 #[.string ⟨#[]⟩, .slice none 0 0, .string ⟨#[]⟩, .string ⟨#[]⟩, .int .i64 0, .int .i64 0, .string ⟨#[]⟩, .string ⟨#[]⟩, .int .i64 0, .int .i64 0, .string ⟨#[]⟩] (0, 0) _ rfl (by have b_ := K106; exact zb_) underlying26 rfl (by kernel_rfl)) rfl ?_; exact ⟨_, z3_, z6_, hs_⟩
      subst c16; rw [if_pos rfl] at H; by_cases c17 : x108001_2.length < 8796093022208; rotate_left
      ·rw [if_neg c17] at H; exact no_ H
      rw [if_pos c17] at H; have LMc17 := qa_.mk c17; clear c17; obtain ⟨y116, hy116⟩ : ∃ y_ : List ByteArray, y_ = (x108001_2 ++ [x8_2]) := ⟨_, rfl⟩; replace H : ((qba_.f k2 a0 x9_2 ⟨#[112, 97, 114, 101, 110, 116]⟩).bind fun bt119 => (qk_.l0 k2 a0 x9_2 bt119.1 bt119.2.1 bt119.2.2 t108 y116 ⟨#[]⟩ ⟨#[]⟩ 0 0 ⟨#[]⟩ ⟨#[]⟩ 0 0 ⟨#[]⟩)) = some (r1, r2, r3, r4, r5, r6, r7, r8, r9, r10, r11, r12) := by first | (rw [hy116]; with_reducible exact H) | (have H2_ := (Option.bind_some _ _).symm.trans H; rw [hy116]; with_reducible exact H2_) | (have H2_ := (Option.bind_some _ _).symm.trans H; with_reducible exact H2_) | with_reducible exact H | (rw [hy116]; exact H) | exact H
      have Ny116 := qa_.mk hy116; clear hy116; obtain ⟨⟨t119, t120, t121⟩, A18, H⟩ := bx_ H; dsimp only at H; have H' := qa_.mk H; clear H; go_wp2_with (first | ((with_reducible refine qb_ (f := 61) rfl ?_); refine gl_ (some 47) func61 #[.string x8_2] ?_; refine cm_ (qac_.calls k2 x8_2 true _ A15.out) ?_; rintro w' ⟨nd, rfl⟩; (try (rw [qce_ wr]; generalize hq_ : World.drewN wr _ = wr; have n0_ : qa_ (Kd.R Kd.string 9 wr w.heap.size (fun _ => True) u108001 x108001_2) := ⟨by rw [← hq_]; exact (rk_ HO_108001.out)⟩; have n1_ : qa_ (wr.heap[g106]? = some (.cells #[.string x107000_2, .slice none 0 0, .string x107002_2, .string x107003_2, .int .i64 x107004_2, .int .i64 x107005_2, .string x107006_2, .string x107007_2, .int .i64 x107008_2, .int .i64 x107009_2, .string x107010_2] 26 (0, 0))) := ⟨by rw [← hq_]; exact (bk_ K106.out)⟩; have n2_ : qa_ (wr.heap[g107]? = some (.cells #[.string t108, u108001, .string ⟨#[]⟩, .string ⟨#[]⟩, .int .i64 0, .int .i64 0, .string ⟨#[]⟩, .string ⟨#[]⟩, .int .i64 0, .int .i64 0, .string ⟨#[]⟩] 26 (0, 0))) := ⟨by rw [← hq_]; exact (bk_ K107.out)⟩; have n3_ : qa_ (Below w.heap.size w wr) := ⟨by rw [← hq_]; exact (hs_)⟩; clear HO_108001 K106 K107 HB hq_; have HO_108001 := n0_; have K106 := n1_; have K107 := n2_; have HB := n3_; clear n0_ n1_ n2_ n3_)); have hnb19 := N107_106.out; have hnc19 := N106_107.out; obtain ⟨Z20_0, Z20_1, Z20_2, Z20_3, Z20_4, Z20_5, Z20_6, Z20_7, Z20_8, Z20_9, Z20_10, F20⟩ := bc11 K107.out) | ((with_reducible refine qdp_ (b := .append) (xs := #[.tmp 51, .tmp 53]) rfl ?_); (try (refine qcy_ (by rfl) ?_; dsimp only)); at_builtin; refine Kd.R_append Kd.string (w0 := w) w.heap.size rfl (.tmp 51) (.tmp 53) 22 9 (.string ⟨#[]⟩) 16 rfl underlying22 info9 rfl (by decide) (by omega) u108001 x108001_2 x8_2 [.string x8_2] (fun _ => True) (fun _ => False) rfl rfl ?aP (fun _ hk => hk.elim) ?aF ?aO ?aB ?aS ?aL ?_; (case aP => exact rfl); (case aB => exact (hs_)); (case aF => exact (fun _ _ => trivial)); (case aO => exact (rk_ HO_108001.out)); (case aS => exact (qj_ (hs_))); (case aL => have := LMc17.out; omega); intro v117 w21 ho hb hg hat; rw [← Ny116.out] at ho; have n0_ := qa_.mk (qdd_ (g := g106) (o := .cells #[.string x107000_2, .slice none 0 0, .string x107002_2, .string x107003_2, .int .i64 x107004_2, .int .i64 x107005_2, .string x107006_2, .string x107007_2, .int .i64 x107008_2, .int .i64 x107009_2, .string x107010_2] 26 (0, 0)) (bk_ K106.out) hg (Kd.R_ne HO_108001.out K106.out (by decide))); have n1_ := qa_.mk (qdd_ (g := g107) (o := .cells #[.string t108, u108001, .string ⟨#[]⟩, .string ⟨#[]⟩, .int .i64 0, .int .i64 0, .string ⟨#[]⟩, .string ⟨#[]⟩, .int .i64 0, .int .i64 0, .string ⟨#[]⟩] 26 (0, 0)) (bk_ K107.out) hg (Kd.R_ne HO_108001.out K107.out (by decide))); have n2_ := qa_.mk (hb); have n3_ := qa_.mk (ho); clear K106; clear K107; clear HB; clear HO_108001; have K106 := n0_; have K107 := n1_; have HB := n2_; have HO118 := n3_; clear n0_ n1_ n2_ n3_; clear ho hb hg hat; obtain ⟨Ao22, co22, eo22⟩ := Kd.R_slice HO118.out; subst eo22; obtain ⟨Z23_0, Z23_1, Z23_2, Z23_3, Z23_4, Z23_5, Z23_6, Z23_7, Z23_8, Z23_9, Z23_10, F23⟩ := bc11 K107.out) | ((with_reducible refine qb_ (f := 75) rfl ?_); refine gl_ (some 60) func75 #[.string a0, .int .i64 x9_2, .string ⟨#[112, 97, 114, 101, 110, 116]⟩] ?_; refine cm_ (qba_.calls k2 a0 x9_2 ⟨#[112, 97, 114, 101, 110, 116]⟩ t119 t120 t121 _ A18.out) ?_; rintro w' ⟨nd, rfl⟩))
      go_roundg k2
      case measure => have := HJ2.out; have := HK2.out; omega
      case rel => exact ⟨(x9_2), (t119), (t120), (t121), (x107000_2), (x107002_2), (x107003_2), (x107004_2), (x107005_2), (x107006_2), (x107007_2), (x107008_2), (x107009_2), (x107010_2), (y116), (.slice Ao22 y116.length co22), z1_, z1_, z1_, z1_, H', ⟨by have := HJ2.out; have := HK2.out; omega⟩, ⟨by (with_reducible repeat (first | apply Kd.R_alloc | apply Kd.R_drewN | apply Kd.R_drew)); exact Kd.R_mono (Kd.R_far (p := ⟨g107, 1, none⟩) (Kd.R_types HO118.out K107.out (by decide)) (fun _ hk => hk.2) (.slice Ao22 y116.length co22)) (fun _ hk => trivial)⟩, ⟨by have b_ := K106; have f_ := N106_107; exact zb_⟩, ⟨by have b_ := K107; exact zb_⟩, ⟨hs_⟩⟩
     replace c14 := Bool.eq_false_iff.mpr c14; subst c14; rw [if_neg nft_] at H; obtain ⟨⟨t122, t123, t124⟩, A26, H⟩ := bx_ H; dsimp only at H; obtain ⟨⟨t125, t126, t127, t128, t129⟩, A27, H⟩ := bx_ H; dsimp only at H; obtain ⟨⟨t131, t132, t133⟩, A28, H⟩ := bx_ H; dsimp only at H; obtain ⟨⟨t134, t135, t136, t137, t138⟩, A29, H⟩ := bx_ H; dsimp only at H; have HC30 := qa_.mk H; clear H; go_upto_region 17 with (first | ((with_reducible refine qb_ (f := 75) rfl ?_); refine gl_ (some 67) func75 #[.string a0, .int .i64 x6_2, .string ⟨#[97, 117, 116, 104, 111, 114]⟩] ?_; refine cm_ (qba_.calls k2 a0 x6_2 ⟨#[97, 117, 116, 104, 111, 114]⟩ t122 t123 t124 _ A26.out) ?_; rintro w' ⟨nd, rfl⟩; (try (rw [qce_ wr]; generalize hq_ : World.drewN wr _ = wr; have n0_ : qa_ (Kd.R Kd.string 9 wr w.heap.size (fun _ => True) u108001 x108001_2) := ⟨by rw [← hq_]; exact (rk_ HO_108001.out)⟩; have n1_ : qa_ (wr.heap[g106]? = some (.cells #[.string x107000_2, .slice none 0 0, .string x107002_2, .string x107003_2, .int .i64 x107004_2, .int .i64 x107005_2, .string x107006_2, .string x107007_2, .int .i64 x107008_2, .int .i64 x107009_2, .string x107010_2] 26 (0, 0))) := ⟨by rw [← hq_]; exact (bk_ K106.out)⟩; have n2_ : qa_ (wr.heap[g107]? = some (.cells #[.string t108, u108001, .string ⟨#[]⟩, .string ⟨#[]⟩, .int .i64 0, .int .i64 0, .string ⟨#[]⟩, .string ⟨#[]⟩, .int .i64 0, .int .i64 0, .string ⟨#[]⟩] 26 (0, 0))) := ⟨by rw [← hq_]; exact (bk_ K107.out)⟩; have n3_ : qa_ (Below w.heap.size w wr) := ⟨by rw [← hq_]; exact (hs_)⟩; clear HO_108001 K106 K107 HB hq_; have HO_108001 := n0_; have K106 := n1_; have K107 := n2_; have HB := n3_; clear n0_ n1_ n2_ n3_))) | ((with_reducible refine qb_ (f := 76) rfl ?_); refine gl_ (some 74) func76 #[.string t122, .bool t124] ?_; refine cm_ (qca_.calls k2 t122 t124 t125 t126 t127 t128 t129 _ A27.out) fun w31 hb => ?_; replace HO_108001 := qa_.mk (Kd.R_below (rk_ HO_108001.out) hb); replace K106 := ab_ K106 hb; replace K107 := ab_ K107 hb; replace HB := hr_ hb; (try clear hb); (try clear hb2); (try clear hk); (try clear hi)) | ((with_reducible refine qh_ (N := 14) rfl ?_); (try (refine qcy_ (by rfl) ?_; dsimp only)); refine be_ (cs := #[.string ⟨#[]⟩, .string ⟨#[]⟩, .int .i64 0, .int .i64 0]) (t := 24) ?_; intro g130 hg w32 hbox hb; replace HO_108001 := qa_.mk (Kd.R_below (rk_ HO_108001.out) hb); have K130 := qa_.mk (hbox); have W130 := qa_.mk ((by rw [hg]; exact (qj_ (hs_)) : w.heap.size ≤ g130)); have E130 := qa_.mk ((by rw [hg]; exact (qj_ (hs_)) : w.heap.size ≤ g130)); replace HB := hr_ hb; have N106_130 := qa_.mk (nl2_ hg K106.out); have N130_106 := qa_.mk (ng2_ hg K106.out); replace K106 := ab_ K106 hb; have N107_130 := qa_.mk (nl2_ hg K107.out); have N130_107 := qa_.mk (ng2_ hg K107.out); replace K107 := ab_ K107 hb; clear hb hbox hg; have hnb33 := N130_106.out; have hnc33 := N106_130.out; have hnb34 := N130_107.out; have hnc34 := N107_130.out; obtain ⟨Z35_0, Z35_1, Z35_2, Z35_3, F35⟩ := bc4 K130.out) | ((with_reducible refine qb_ (f := 75) rfl ?_); refine gl_ (some 80) func75 #[.string a0, .int .i64 t123, .string ⟨#[99, 111, 109, 109, 105, 116, 116, 101, 114]⟩] ?_; refine cm_ (qba_.calls k2 a0 t123 ⟨#[99, 111, 109, 109, 105, 116, 116, 101, 114]⟩ t131 t132 t133 _ A28.out) ?_; rintro w' ⟨nd, rfl⟩) | ((with_reducible refine qb_ (f := 76) rfl ?_); refine gl_ (some 87) func76 #[.string t131, .bool t133] ?_; refine cm_ (qca_.calls k2 t131 t133 t134 t135 t136 t137 t138 _ A29.out) fun w36 hb => ?_; replace HO_108001 := qa_.mk (Kd.R_below (by (with_reducible repeat (first | apply Kd.R_alloc | apply Kd.R_drewN | apply Kd.R_drew)); exact (Kd.R_mono (Kd.R_far (p := ⟨g130, 3, none⟩) (Kd.R_far (p := ⟨g130, 2, none⟩) (Kd.R_far (p := ⟨g130, 1, none⟩) (Kd.R_far (p := ⟨g130, 0, none⟩) (Kd.R_types HO_108001.out K130.out (by decide)) (fun _ hk => hk.2) (.string t125)) (fun _ hk => hk.2) (.string t126)) (fun _ hk => hk.2) (.int .i64 t127)) (fun _ hk => hk.2) (.int .i64 t128)) (fun _ h_ => h_.1))) hb); replace K106 := qa_.mk (qbk_ (g := g106) (o := .cells #[.string x107000_2, .slice none 0 0, .string x107002_2, .string x107003_2, .int .i64 x107004_2, .int .i64 x107005_2, .string x107006_2, .string x107007_2, .int .i64 x107008_2, .int .i64 x107009_2, .string x107010_2] 26 (0, 0)) (by have b_ := K106; have f_ := N106_130; exact zb_) hb); replace K107 := qa_.mk (qbk_ (g := g107) (o := .cells #[.string t108, u108001, .string ⟨#[]⟩, .string ⟨#[]⟩, .int .i64 0, .int .i64 0, .string ⟨#[]⟩, .string ⟨#[]⟩, .int .i64 0, .int .i64 0, .string ⟨#[]⟩] 26 (0, 0)) (by have b_ := K107; have f_ := N107_130; exact zb_) hb); replace K130 := qa_.mk (qbk_ (g := g130) (o := .cells #[.string t125, .string t126, .int .i64 t127, .int .i64 t128] 24 (0, 0)) (by have b_ := K130; exact zb_) hb); replace HB := hr_ hb; (try clear hb); (try clear hb2); (try clear hk); (try clear hi)) | ((with_reducible refine qh_ (N := 19) rfl ?_); (try (refine qcy_ (by rfl) ?_; dsimp only)); refine be_ (cs := #[.string ⟨#[]⟩, .string ⟨#[]⟩, .int .i64 0, .int .i64 0]) (t := 24) ?_; intro g139 hg w37 hbox hb; replace HO_108001 := qa_.mk (Kd.R_below (rk_ HO_108001.out) hb); have K139 := qa_.mk (hbox); have W139 := qa_.mk ((by rw [hg]; exact (qj_ (hs_)) : w.heap.size ≤ g139)); have E139 := qa_.mk ((by rw [hg]; exact (qj_ (hs_)) : w.heap.size ≤ g139)); replace HB := hr_ hb; have N106_139 := qa_.mk (nl2_ hg K106.out); have N139_106 := qa_.mk (ng2_ hg K106.out); replace K106 := ab_ K106 hb; have N107_139 := qa_.mk (nl2_ hg K107.out); have N139_107 := qa_.mk (ng2_ hg K107.out); replace K107 := ab_ K107 hb; have N130_139 := qa_.mk (nl2_ hg K130.out); have N139_130 := qa_.mk (ng2_ hg K130.out); replace K130 := ab_ K130 hb; clear hb hbox hg; have hnb38 := N139_106.out; have hnc38 := N106_139.out; have hnb39 := N139_107.out; have hnc39 := N107_139.out; have hnb40 := N139_130.out; have hnc40 := N130_139.out; obtain ⟨Z41_0, Z41_1, Z41_2, Z41_3, F41⟩ := bc4 K139.out))
     (try simp only [Act.put, List.setIfInBounds_toArray, List.set_cons_zero, List.set_cons_succ])
     go_cut [107] (fun v107 wc => ∃ (kq : Nat) (x107_29 : Bool), v107 = .bool x107_29 ∧ qa_ (qk_.j2 kq a0 t129 t132 t138 x107_29 t108 x108001_2 ⟨#[]⟩ ⟨#[]⟩ 0 0 ⟨#[]⟩ ⟨#[]⟩ 0 0 ⟨#[]⟩ t125 t126 t127 t128 t134 t135 t136 t137 = some (r1, r2, r3, r4, r5, r6, r7, r8, r9, r10, r11, r12)) ∧ qa_ (kq ≤ k2) ∧ qa_ (Kd.R Kd.string 9 wc w.heap.size (fun _ => True) u108001 x108001_2) ∧ qa_ (wc.heap[g106]? = some (.cells #[.string x107000_2, (.slice none 0 0), .string x107002_2, .string x107003_2, .int .i64 x107004_2, .int .i64 x107005_2, .string x107006_2, .string x107007_2, .int .i64 x107008_2, .int .i64 x107009_2, .string x107010_2] 26 (0, 0))) ∧ qa_ (wc.heap[g107]? = some (.cells #[.string t108, u108001, .string ⟨#[]⟩, .string ⟨#[]⟩, .int .i64 0, .int .i64 0, .string ⟨#[]⟩, .string ⟨#[]⟩, .int .i64 0, .int .i64 0, .string ⟨#[]⟩] 26 (0, 0))) ∧ qa_ (wc.heap[g130]? = some (.cells #[.string t125, .string t126, .int .i64 t127, .int .i64 t128] 24 (0, 0))) ∧ qa_ (wc.heap[g139]? = some (.cells #[.string t134, .string t135, .int .i64 t136, .int .i64 t137] 24 (0, 0))) ∧ qa_ (Below w.heap.size w wc))
     case first =>
      have H := HC30.out; clear HC30; by_cases c42 : t129 = 0
      ·rw [if_pos c42] at H; have c42b0 := et_ c42; have c42b1 := nf_ c42; clear c42; (first | rw [c42b0] | (simp only [i64_w, i32_w]; rw [c42b0]) | skip); have H' := qa_.mk H; clear H; go_wp2
       go_meet
       case rel => exact ⟨_, (true), z1_, H', ⟨by have := HJ2.out; have := HK2.out; first | omega | exact Nat.le_refl _⟩, ⟨by (with_reducible repeat (first | apply Kd.R_alloc | apply Kd.R_drewN | apply Kd.R_drew)); exact Kd.R_mono (Kd.R_far (p := ⟨g139, 3, none⟩) (Kd.R_far (p := ⟨g139, 2, none⟩) (Kd.R_far (p := ⟨g139, 1, none⟩) (Kd.R_far (p := ⟨g139, 0, none⟩) (Kd.R_types HO_108001.out K139.out (by decide)) (fun _ hk => hk.2) (.string t134)) (fun _ hk => hk.2) (.string t135)) (fun _ hk => hk.2) (.int .i64 t136)) (fun _ hk => hk.2) (.int .i64 t137)) (fun _ hk => trivial)⟩, ⟨by have b_ := K106; have f_ := N106_139; exact zb_⟩, ⟨by have b_ := K107; have f_ := N107_139; exact zb_⟩, ⟨by have b_ := K130; have f_ := N130_139; exact zb_⟩, ⟨by have b_ := K139; exact zb_⟩, ⟨hs_⟩⟩
      rw [if_neg c42] at H; have c42b0 := ef_ c42; have c42b1 := nt_ c42; (first | rw [c42b0] | (simp only [i64_w, i32_w]; rw [c42b0]) | skip); by_cases c43 : t138 = 0
      ·rw [if_pos c43] at H; have c43b0 := et_ c43; have c43b1 := nf_ c43; clear c43; have H' := qa_.mk H; clear H; go_wp2
       go_meet
       case rel => exact ⟨_, (true), z1_, H', ⟨by have := HJ2.out; have := HK2.out; first | omega | exact Nat.le_refl _⟩, ⟨by (with_reducible repeat (first | apply Kd.R_alloc | apply Kd.R_drewN | apply Kd.R_drew)); exact Kd.R_mono (Kd.R_far (p := ⟨g139, 3, none⟩) (Kd.R_far (p := ⟨g139, 2, none⟩) (Kd.R_far (p := ⟨g139, 1, none⟩) (Kd.R_far (p := ⟨g139, 0, none⟩) (Kd.R_types HO_108001.out K139.out (by decide)) (fun _ hk => hk.2) (.string t134)) (fun _ hk => hk.2) (.string t135)) (fun _ hk => hk.2) (.int .i64 t136)) (fun _ hk => hk.2) (.int .i64 t137)) (fun _ hk => trivial)⟩, ⟨by have b_ := K106; have f_ := N106_139; exact zb_⟩, ⟨by have b_ := K107; have f_ := N107_139; exact zb_⟩, ⟨by have b_ := K130; have f_ := N130_139; exact zb_⟩, ⟨by have b_ := K139; exact zb_⟩, ⟨hs_⟩⟩
      rw [if_neg c43] at H; have c43b0 := ef_ c43; have c43b1 := nt_ c43; by_cases c44 : t132 ≥ (a0.size : Int)
      ·rw [if_pos c44] at H; have c44b0 := dt_ c44; clear c44; have H' := qa_.mk H; clear H; go_wp2
       go_meet
       case rel => exact ⟨_, (true), z1_, H', ⟨by have := HJ2.out; have := HK2.out; first | omega | exact Nat.le_refl _⟩, ⟨by (with_reducible repeat (first | apply Kd.R_alloc | apply Kd.R_drewN | apply Kd.R_drew)); exact Kd.R_mono (Kd.R_far (p := ⟨g139, 3, none⟩) (Kd.R_far (p := ⟨g139, 2, none⟩) (Kd.R_far (p := ⟨g139, 1, none⟩) (Kd.R_far (p := ⟨g139, 0, none⟩) (Kd.R_types HO_108001.out K139.out (by decide)) (fun _ hk => hk.2) (.string t134)) (fun _ hk => hk.2) (.string t135)) (fun _ hk => hk.2) (.int .i64 t136)) (fun _ hk => hk.2) (.int .i64 t137)) (fun _ hk => trivial)⟩, ⟨by have b_ := K106; have f_ := N106_139; exact zb_⟩, ⟨by have b_ := K107; have f_ := N107_139; exact zb_⟩, ⟨by have b_ := K130; have f_ := N130_139; exact zb_⟩, ⟨by have b_ := K139; exact zb_⟩, ⟨hs_⟩⟩
      rw [if_neg c44] at H; have c44b0 := df_ c44; clear c44; by_cases c45 : 0 ≤ t132; rotate_left
      ·rw [if_neg c45] at H; exact no_ H
      rw [if_pos c45] at H; have c45b0 := dt_ c45; clear c45; by_cases c46 : t132 < (a0.size : Int); rotate_left
      ·rw [if_neg c46] at H; exact no_ H
      rw [if_pos c46] at H; have c46b0 := dt_ c46; clear c46; have H' := qa_.mk H; clear H; have p47 : 0 ≤ (t132 : Int) := y0_; have q47 : t132 < (a0.size : Int) := y0_; have hx47 := bt_at a0 t132; replace p47 := eq_true p47; replace q47 := eq_true q47; go_wp2
      go_meet
      case rel => exact ⟨_, (((bt a0 t132) != 10)), z1_, H', ⟨by have := HJ2.out; have := HK2.out; first | omega | exact Nat.le_refl _⟩, ⟨by (with_reducible repeat (first | apply Kd.R_alloc | apply Kd.R_drewN | apply Kd.R_drew)); exact Kd.R_mono (Kd.R_far (p := ⟨g139, 3, none⟩) (Kd.R_far (p := ⟨g139, 2, none⟩) (Kd.R_far (p := ⟨g139, 1, none⟩) (Kd.R_far (p := ⟨g139, 0, none⟩) (Kd.R_types HO_108001.out K139.out (by decide)) (fun _ hk => hk.2) (.string t134)) (fun _ hk => hk.2) (.string t135)) (fun _ hk => hk.2) (.int .i64 t136)) (fun _ hk => hk.2) (.int .i64 t137)) (fun _ hk => trivial)⟩, ⟨by have b_ := K106; have f_ := N106_139; exact zb_⟩, ⟨by have b_ := K107; have f_ := N107_139; exact zb_⟩, ⟨by have b_ := K130; have f_ := N130_139; exact zb_⟩, ⟨by have b_ := K139; exact zb_⟩, ⟨hs_⟩⟩
     case rest =>
      clear HC30; try clear c1
      try clear c2
      try clear p2
      try clear c3
      try clear c4
      try clear p4
      try clear q4
      try clear hx4
      try clear c6
      try clear c7
      try clear c8
      try clear c9
      try clear c12
      try clear c14
      try clear c16
      try clear c17
      try clear c19
      try clear c22
      try clear c24
      try clear c33
      try clear c34
      try clear c38
      try clear c39
      try clear c40
      try clear c42
      try clear c42b0
      try clear c42b1
      try clear c43
      try clear c43b0
      try clear c43b1
      try clear c44
      try clear c44b0
      try clear c45
      try clear c45b0
      try clear c46
      try clear c46b0
      try clear p47
      try clear q47
      try clear hx47
      try clear Z10_0 Z10_1 Z10_10 Z10_2 Z10_3 Z10_4 Z10_5 Z10_6 Z10_7 Z10_8 Z10_9
      try clear Z13_0 Z13_1 Z13_10 Z13_2 Z13_3 Z13_4 Z13_5 Z13_6 Z13_7 Z13_8 Z13_9
      try clear Z20_0 Z20_1 Z20_10 Z20_2 Z20_3 Z20_4 Z20_5 Z20_6 Z20_7 Z20_8 Z20_9
      try clear Z23_0 Z23_1 Z23_10 Z23_2 Z23_3 Z23_4 Z23_5 Z23_6 Z23_7 Z23_8 Z23_9
      try clear Z25_0 Z25_1 Z25_10 Z25_2 Z25_3 Z25_4 Z25_5 Z25_6 Z25_7 Z25_8 Z25_9
      try clear Z35_0 Z35_1 Z35_2 Z35_3
      try clear Z41_0 Z41_1 Z41_2 Z41_3
      try clear F10
      try clear F13
      try clear F20
      try clear F23
      try clear F25
      try clear F35
      try clear F41
      try clear p2
      try clear p47
      try clear q47
      obtain ⟨kq, x107_29, rfl, HA, HJ29, HO_108001, K106, K107, K130, K139, HB⟩ := hcut
      cases kq with
      | zero => exact absurd HA.out (by simp [qk_.j2])
      | succ kj29 =>
       have H := HA.out; clear HA; simp only [qk_.j2] at H; by_cases c48 : x107_29 = true
       ·subst c48; rw [if_pos rfl] at H; obtain ⟨rfl, rfl, rfl, rfl, rfl, rfl, rfl, rfl, rfl, rfl, rfl, rfl⟩ := pj12_ H; have hnb49 := N106_107.out; have hnc49 := N107_106.out; have hnb50 := N106_130.out; have hnc50 := N130_106.out; have hnb51 := N106_139.out; have hnc51 := N139_106.out; obtain ⟨Z52_0, Z52_1, Z52_2, Z52_3, Z52_4, Z52_5, Z52_6, Z52_7, Z52_8, Z52_9, Z52_10, F52⟩ := bc11 K106.out; go_wp2
        refine bodyPost_ret (qcq_ rfl _ _ g106 26 #[.string ⟨#[]⟩, .slice none 0 0, .string ⟨#[]⟩, .string ⟨#[]⟩, .int .i64 0, .int .i64 0, .string ⟨#[]⟩, .string ⟨#[]⟩, .int .i64 0, .int .i64 0, .string ⟨#[]⟩] (0, 0) _ rfl (by have b_ := K106; exact zb_) underlying26 rfl (by kernel_rfl)) rfl ?_; exact ⟨_, z3_, z6_, hs_⟩
       replace c48 := Bool.eq_false_iff.mpr c48; subst c48; rw [if_neg nft_] at H; have HC53 := qa_.mk H; clear H; go_upto_region 19 with (fail)
       go_cut [114] (fun v114 wc => ∃ (kq : Nat) (x114_52 : Bool), v114 = .bool x114_52 ∧ qa_ (qk_.j3 kq a0 t132 x114_52 t108 x108001_2 ⟨#[]⟩ ⟨#[]⟩ 0 0 ⟨#[]⟩ ⟨#[]⟩ 0 0 ⟨#[]⟩ t125 t126 t127 t128 t134 t135 t136 t137 = some (r1, r2, r3, r4, r5, r6, r7, r8, r9, r10, r11, r12)) ∧ qa_ (kq ≤ kj29) ∧ qa_ (Kd.R Kd.string 9 wc w.heap.size (fun _ => True) u108001 x108001_2) ∧ qa_ (wc.heap[g106]? = some (.cells #[.string x107000_2, (.slice none 0 0), .string x107002_2, .string x107003_2, .int .i64 x107004_2, .int .i64 x107005_2, .string x107006_2, .string x107007_2, .int .i64 x107008_2, .int .i64 x107009_2, .string x107010_2] 26 (0, 0))) ∧ qa_ (wc.heap[g107]? = some (.cells #[.string t108, u108001, .string ⟨#[]⟩, .string ⟨#[]⟩, .int .i64 0, .int .i64 0, .string ⟨#[]⟩, .string ⟨#[]⟩, .int .i64 0, .int .i64 0, .string ⟨#[]⟩] 26 (0, 0))) ∧ qa_ (wc.heap[g130]? = some (.cells #[.string t125, .string t126, .int .i64 t127, .int .i64 t128] 24 (0, 0))) ∧ qa_ (wc.heap[g139]? = some (.cells #[.string t134, .string t135, .int .i64 t136, .int .i64 t137] 24 (0, 0))) ∧ qa_ (Below w.heap.size w wc))
       case first =>
        have H := HC53.out; clear HC53; by_cases c54 : t129 = 1; rotate_left
        ·rw [if_neg c54] at H; have c54b0 := ef_ c54; have c54b1 := nt_ c54; (first | rw [c54b0] | (simp only [i64_w, i32_w]; rw [c54b0]) | skip); have H' := qa_.mk H; clear H; go_wp2
         go_meet
         case rel => exact ⟨_, ((t138 == 1)), z1_, H', ⟨by have := HJ2.out; have := HK2.out; have := HJ29.out; first | omega | exact Nat.le_refl _⟩, ⟨by (with_reducible repeat (first | apply Kd.R_alloc | apply Kd.R_drewN | apply Kd.R_drew)); exact HO_108001.out⟩, ⟨bk_ K106.out⟩, ⟨bk_ K107.out⟩, ⟨bk_ K130.out⟩, ⟨bk_ K139.out⟩, ⟨hs_⟩⟩
        rw [if_pos c54] at H; have c54b0 := et_ c54; have c54b1 := nf_ c54; clear c54; (first | rw [c54b0] | (simp only [i64_w, i32_w]; rw [c54b0]) | skip); have H' := qa_.mk H; clear H; go_wp2
        go_meet
        case rel => exact ⟨_, (true), z1_, H', ⟨by have := HJ2.out; have := HK2.out; have := HJ29.out; first | omega | exact Nat.le_refl _⟩, ⟨by (with_reducible repeat (first | apply Kd.R_alloc | apply Kd.R_drewN | apply Kd.R_drew)); exact HO_108001.out⟩, ⟨bk_ K106.out⟩, ⟨bk_ K107.out⟩, ⟨bk_ K130.out⟩, ⟨bk_ K139.out⟩, ⟨hs_⟩⟩
       case rest =>
        clear HC53; try clear c1
        try clear c2
        try clear p2
        try clear c3
        try clear c4
        try clear p4
        try clear q4
        try clear hx4
        try clear c5
        try clear c6
        try clear c7
        try clear c8
        try clear c9
        try clear c12
        try clear c14
        try clear c16
        try clear c17
        try clear c19
        try clear c22
        try clear c24
        try clear c33
        try clear c34
        try clear c38
        try clear c39
        try clear c40
        try clear c42
        try clear c42b0
        try clear c42b1
        try clear c43
        try clear c43b0
        try clear c43b1
        try clear c44
        try clear c44b0
        try clear c45
        try clear c45b0
        try clear c46
        try clear c46b0
        try clear p47
        try clear q47
        try clear hx47
        try clear c48
        try clear c49
        try clear c50
        try clear c51
        try clear c54
        try clear c54b0
        try clear c54b1
        try clear Z10_0 Z10_1 Z10_10 Z10_2 Z10_3 Z10_4 Z10_5 Z10_6 Z10_7 Z10_8 Z10_9
        try clear Z13_0 Z13_1 Z13_10 Z13_2 Z13_3 Z13_4 Z13_5 Z13_6 Z13_7 Z13_8 Z13_9
        try clear Z20_0 Z20_1 Z20_10 Z20_2 Z20_3 Z20_4 Z20_5 Z20_6 Z20_7 Z20_8 Z20_9
        try clear Z23_0 Z23_1 Z23_10 Z23_2 Z23_3 Z23_4 Z23_5 Z23_6 Z23_7 Z23_8 Z23_9
        try clear Z25_0 Z25_1 Z25_10 Z25_2 Z25_3 Z25_4 Z25_5 Z25_6 Z25_7 Z25_8 Z25_9
        try clear Z35_0 Z35_1 Z35_2 Z35_3
        try clear Z41_0 Z41_1 Z41_2 Z41_3
        try clear Z52_0 Z52_1 Z52_10 Z52_2 Z52_3 Z52_4 Z52_5 Z52_6 Z52_7 Z52_8 Z52_9
        try clear F10
        try clear F13
        try clear F20
        try clear F23
        try clear F25
        try clear F35
        try clear F41
        try clear F52
        try clear p2
        try clear p4
        try clear p47
        try clear q4
        try clear q47
        obtain ⟨kq, x114_52, rfl, HA, HJ52, HO_108001, K106, K107, K130, K139, HB⟩ := hcut
        cases kq with
        | zero => exact absurd HA.out (by simp [qk_.j3])
        | succ kj52 =>
         have H := HA.out; clear HA; simp only [qk_.j3] at H; by_cases c55 : x114_52 = true
         ·subst c55; rw [if_pos rfl] at H; obtain ⟨rfl, rfl, rfl, rfl, rfl, rfl, rfl, rfl, rfl, rfl, rfl, rfl⟩ := pj12_ H; have hnb56 := N106_107.out; have hnc56 := N107_106.out; have hnb57 := N106_130.out; have hnc57 := N130_106.out; have hnb58 := N106_139.out; have hnc58 := N139_106.out; obtain ⟨Z59_0, Z59_1, Z59_2, Z59_3, Z59_4, Z59_5, Z59_6, Z59_7, Z59_8, Z59_9, Z59_10, F59⟩ := bc11 K106.out; go_wp2
          refine bodyPost_ret (qcq_ rfl _ _ g106 26 #[.string ⟨#[]⟩, .slice none 0 0, .string ⟨#[]⟩, .string ⟨#[]⟩, .int .i64 0, .int .i64 0, .string ⟨#[]⟩, .string ⟨#[]⟩, .int .i64 0, .int .i64 0, .string ⟨#[]⟩] (0, 0) _ rfl (by have b_ := K106; exact zb_) underlying26 rfl (by kernel_rfl)) rfl ?_; exact ⟨_, z3_, z6_, hs_⟩
         replace c55 := Bool.eq_false_iff.mpr c55; subst c55; rw [if_neg nft_] at H; obtain ⟨ji60, hji60⟩ : ∃ j_ : Int, (wrap64 (t132 + 1)) = j_ := ⟨_, rfl⟩; replace H : (if 0 ≤ (ji60) then (if (ji60) ≤ (a0.size : Int) then ((qf_.f kj52 t108 x108001_2 t125 t126 t127 t128 t134 t135 t136 t137 (a0.extract ((ji60) : Int).toNat a0.size)).bind fun t140 => (if t140 = 0 then (some (t108, x108001_2, t125, t126, t127, t128, t134, t135, t136, t137, a0.extract ((ji60) : Int).toNat a0.size, 0)) else (some ((⟨#[]⟩ : ByteArray), ([] : List ByteArray), (⟨#[]⟩ : ByteArray), (⟨#[]⟩ : ByteArray), 0, 0, (⟨#[]⟩ : ByteArray), (⟨#[]⟩ : ByteArray), 0, 0, (⟨#[]⟩ : ByteArray), t140)))) else (none)) else (none)) = some (r1, r2, r3, r4, r5, r6, r7, r8, r9, r10, r11, r12) := by first | (rw [hji60] at H; exact H) | (simp only [hji60] at H ⊢; exact H)
         have hji60w : (IntKind.i64.wrap (t132 + 1)) = ji60 := (i64_w _).trans hji60; by_cases c61 : 0 ≤ (ji60); rotate_left
         ·rw [if_neg c61] at H; exact no_ H
         rw [if_pos c61] at H; have c61b0 := eq_true c61; have c61b1 := dt_ c61; clear c61; by_cases c62 : (ji60) ≤ (a0.size : Int); rotate_left
         ·rw [if_neg c62] at H; exact no_ H
         rw [if_pos c62] at H; have c62b0 := eq_true c62; have c62b1 := dt_ c62; clear c62; obtain ⟨t140, A63, H⟩ := bx_ H; by_cases c64 : t140 = 0; rotate_left
         ·rw [if_neg c64] at H; have c64b0 := ef_ c64; have c64b1 := nt_ c64; obtain ⟨rfl, rfl, rfl, rfl, rfl, rfl, rfl, rfl, rfl, rfl, rfl, rfl⟩ := pj12_ H; have hnb78 := N130_106.out; have hnc78 := N106_130.out; have hnb79 := N130_107.out; have hnc79 := N107_130.out; have hnb80 := N130_139.out; have hnc80 := N139_130.out; obtain ⟨Z81_0, Z81_1, Z81_2, Z81_3, F81⟩ := bc4 K130.out; have hnb82 := N107_106.out; have hnc82 := N106_107.out; have hnb83 := N107_139.out; have hnc83 := N139_107.out; obtain ⟨Z84_0, Z84_1, Z84_2, Z84_3, Z84_4, Z84_5, Z84_6, Z84_7, Z84_8, Z84_9, Z84_10, F84⟩ := bc11 K107.out; have hnb85 := N139_106.out; have hnc85 := N106_139.out; obtain ⟨Z86_0, Z86_1, Z86_2, Z86_3, F86⟩ := bc4 K139.out; obtain ⟨Ao87, co87, eo87⟩ := Kd.R_slice HO_108001.out; subst eo87; go_wp2_with (first | ((with_reducible refine qb_ (f := 19) rfl ?_); refine goesL_ (some 126) rfl rfl func19 (by kernel_rfl) rfl #[.agg #[.string t108, .slice Ao87 x108001_2.length co87, .string t125, .string t126, .int .i64 t127, .int .i64 t128, .string t134, .string t135, .int .i64 t136, .int .i64 t137, .string (a0.extract ((ji60) : Int).toNat a0.size)]] rfl (by (try simp only [List.map_toArray, List.map_cons, List.map_nil]); first | done | (simp only [hji60]; rfl) | rfl | (simp only [List.length_drop, List.length_take]; rfl)) ?_; (with_reducible refine (qf_.calls kj52 t108 _ _ x108001_2 t125 t126 t127 t128 t134 t135 t136 t137 (a0.extract ((ji60) : Int).toNat a0.size) t140 _ ?side1 ?side2 A63.out).mono ?_); (case side1 => refine (Kd.R_reads' (e := 9) (base := w.heap.size) (ok := fun k_ => True) (n := x108001_2.length) (c := co87) ?_).2.2; exact (by (with_reducible repeat (first | apply Kd.R_alloc | apply Kd.R_drewN | apply Kd.R_drew)); exact (Kd.R_mono (Kd.R_far (p := ⟨g107, 10, none⟩) (Kd.R_far (p := ⟨g107, 9, none⟩) (Kd.R_far (p := ⟨g107, 8, none⟩) (Kd.R_far (p := ⟨g107, 7, none⟩) (Kd.R_far (p := ⟨g107, 6, none⟩) (Kd.R_far (p := ⟨g107, 5, none⟩) (Kd.R_far (p := ⟨g107, 4, none⟩) (Kd.R_far (p := ⟨g107, 3, none⟩) (Kd.R_far (p := ⟨g107, 2, none⟩) (Kd.R_types HO_108001.out K107.out (by decide)) (fun _ hk => hk.2) (.string t125)) (fun _ hk => hk.2) (.string t126)) (fun _ hk => hk.2) (.int .i64 t127)) (fun _ hk => hk.2) (.int .i64 t128)) (fun _ hk => hk.2) (.string t134)) (fun _ hk => hk.2) (.string t135)) (fun _ hk => hk.2) (.int .i64 t136)) (fun _ hk => hk.2) (.int .i64 t137)) (fun _ hk => hk.2) (.string (a0.extract ((ji60) : Int).toNat a0.size))) (fun _ h_ => h_.1)))); (case side2 => exact (Kd.R_reads' HO_108001.out).2.1); rintro e w88 ⟨rfl, hb⟩; refine ⟨_, rfl, ?_⟩; replace HO_108001 := qa_.mk (Kd.R_below (by (with_reducible repeat (first | apply Kd.R_alloc | apply Kd.R_drewN | apply Kd.R_drew)); exact (Kd.R_mono (Kd.R_far (p := ⟨g107, 10, none⟩) (Kd.R_far (p := ⟨g107, 9, none⟩) (Kd.R_far (p := ⟨g107, 8, none⟩) (Kd.R_far (p := ⟨g107, 7, none⟩) (Kd.R_far (p := ⟨g107, 6, none⟩) (Kd.R_far (p := ⟨g107, 5, none⟩) (Kd.R_far (p := ⟨g107, 4, none⟩) (Kd.R_far (p := ⟨g107, 3, none⟩) (Kd.R_far (p := ⟨g107, 2, none⟩) (Kd.R_types HO_108001.out K107.out (by decide)) (fun _ hk => hk.2) (.string t125)) (fun _ hk => hk.2) (.string t126)) (fun _ hk => hk.2) (.int .i64 t127)) (fun _ hk => hk.2) (.int .i64 t128)) (fun _ hk => hk.2) (.string t134)) (fun _ hk => hk.2) (.string t135)) (fun _ hk => hk.2) (.int .i64 t136)) (fun _ hk => hk.2) (.int .i64 t137)) (fun _ hk => hk.2) (.string (a0.extract ((ji60) : Int).toNat a0.size))) (fun _ h_ => h_.1))) hb); replace K106 := qa_.mk (qbk_ (g := g106) (o := .cells #[.string x107000_2, .slice none 0 0, .string x107002_2, .string x107003_2, .int .i64 x107004_2, .int .i64 x107005_2, .string x107006_2, .string x107007_2, .int .i64 x107008_2, .int .i64 x107009_2, .string x107010_2] 26 (0, 0)) (by have b_ := K106; have f_ := N106_107; exact zb_) hb); replace K107 := qa_.mk (qbk_ (g := g107) (o := .cells #[.string t108, .slice Ao87 x108001_2.length co87, .string t125, .string t126, .int .i64 t127, .int .i64 t128, .string t134, .string t135, .int .i64 t136, .int .i64 t137, .string (a0.extract ((ji60) : Int).toNat a0.size)] 26 (0, 0)) (by have b_ := K107; exact zb_) hb); replace K130 := qa_.mk (qbk_ (g := g130) (o := .cells #[.string t125, .string t126, .int .i64 t127, .int .i64 t128] 24 (0, 0)) (by have b_ := K130; have f_ := N130_107; exact zb_) hb); replace K139 := qa_.mk (qbk_ (g := g139) (o := .cells #[.string t134, .string t135, .int .i64 t136, .int .i64 t137] 24 (0, 0)) (by have b_ := K139; have f_ := N139_107; exact zb_) hb); replace HB := hr_ hb; (try clear hb); (try clear hb2); (try clear hk); (try clear hi); obtain ⟨Z89_0, Z89_1, Z89_2, Z89_3, Z89_4, Z89_5, Z89_6, Z89_7, Z89_8, Z89_9, Z89_10, F89⟩ := bc11 K106.out))
          refine bodyPost_ret (qcq_ rfl _ _ g106 26 #[.string ⟨#[]⟩, .slice none 0 0, .string ⟨#[]⟩, .string ⟨#[]⟩, .int .i64 0, .int .i64 0, .string ⟨#[]⟩, .string ⟨#[]⟩, .int .i64 0, .int .i64 0, .string ⟨#[]⟩] (0, 0) _ rfl (by have b_ := K106; exact zb_) underlying26 rfl (by kernel_rfl)) rfl ?_; exact ⟨_, by first | rfl | (simp [qbo_, qbp_] <;> rfl) | (simp only [← hji60]; first | rfl | (simp [qbo_, qbp_] <;> rfl)) | (simp [*, qbo_, qbp_] <;> rfl) | (simp [qby_]; done) | (simp [*, qby_]; done), z6_, hs_⟩
         rw [if_pos c64] at H; have c64b0 := et_ c64; have c64b1 := nf_ c64; clear c64; obtain ⟨rfl, rfl, rfl, rfl, rfl, rfl, rfl, rfl, rfl, rfl, rfl, rfl⟩ := pj12_ H; have hnb65 := N130_106.out; have hnc65 := N106_130.out; have hnb66 := N130_107.out; have hnc66 := N107_130.out; have hnb67 := N130_139.out; have hnc67 := N139_130.out; obtain ⟨Z68_0, Z68_1, Z68_2, Z68_3, F68⟩ := bc4 K130.out; have hnb69 := N107_106.out; have hnc69 := N106_107.out; have hnb70 := N107_139.out; have hnc70 := N139_107.out; obtain ⟨Z71_0, Z71_1, Z71_2, Z71_3, Z71_4, Z71_5, Z71_6, Z71_7, Z71_8, Z71_9, Z71_10, F71⟩ := bc11 K107.out; have hnb72 := N139_106.out; have hnc72 := N106_139.out; obtain ⟨Z73_0, Z73_1, Z73_2, Z73_3, F73⟩ := bc4 K139.out; obtain ⟨Ao74, co74, eo74⟩ := Kd.R_slice HO_108001.out; subst eo74; go_wp2_with (first | ((with_reducible refine qb_ (f := 19) rfl ?_); refine goesL_ (some 126) rfl rfl func19 (by kernel_rfl) rfl #[.agg #[.string t108, .slice Ao74 x108001_2.length co74, .string t125, .string t126, .int .i64 t127, .int .i64 t128, .string t134, .string t135, .int .i64 t136, .int .i64 t137, .string (a0.extract ((ji60) : Int).toNat a0.size)]] rfl (by (try simp only [List.map_toArray, List.map_cons, List.map_nil]); first | done | (simp only [hji60]; rfl) | rfl | (simp only [List.length_drop, List.length_take]; rfl)) ?_; (with_reducible refine (qf_.calls kj52 t108 _ _ x108001_2 t125 t126 t127 t128 t134 t135 t136 t137 (a0.extract ((ji60) : Int).toNat a0.size) t140 _ ?side1 ?side2 A63.out).mono ?_); (case side1 => refine (Kd.R_reads' (e := 9) (base := w.heap.size) (ok := fun k_ => True) (n := x108001_2.length) (c := co74) ?_).2.2; exact (by (with_reducible repeat (first | apply Kd.R_alloc | apply Kd.R_drewN | apply Kd.R_drew)); exact (Kd.R_mono (Kd.R_far (p := ⟨g107, 10, none⟩) (Kd.R_far (p := ⟨g107, 9, none⟩) (Kd.R_far (p := ⟨g107, 8, none⟩) (Kd.R_far (p := ⟨g107, 7, none⟩) (Kd.R_far (p := ⟨g107, 6, none⟩) (Kd.R_far (p := ⟨g107, 5, none⟩) (Kd.R_far (p := ⟨g107, 4, none⟩) (Kd.R_far (p := ⟨g107, 3, none⟩) (Kd.R_far (p := ⟨g107, 2, none⟩) (Kd.R_types HO_108001.out K107.out (by decide)) (fun _ hk => hk.2) (.string t125)) (fun _ hk => hk.2) (.string t126)) (fun _ hk => hk.2) (.int .i64 t127)) (fun _ hk => hk.2) (.int .i64 t128)) (fun _ hk => hk.2) (.string t134)) (fun _ hk => hk.2) (.string t135)) (fun _ hk => hk.2) (.int .i64 t136)) (fun _ hk => hk.2) (.int .i64 t137)) (fun _ hk => hk.2) (.string (a0.extract ((ji60) : Int).toNat a0.size))) (fun _ h_ => h_.1)))); (case side2 => exact (Kd.R_reads' HO_108001.out).2.1); rintro e w75 ⟨rfl, hb⟩; refine ⟨_, rfl, ?_⟩; replace HO_108001 := qa_.mk (Kd.R_below (by (with_reducible repeat (first | apply Kd.R_alloc | apply Kd.R_drewN | apply Kd.R_drew)); exact (Kd.R_mono (Kd.R_far (p := ⟨g107, 10, none⟩) (Kd.R_far (p := ⟨g107, 9, none⟩) (Kd.R_far (p := ⟨g107, 8, none⟩) (Kd.R_far (p := ⟨g107, 7, none⟩) (Kd.R_far (p := ⟨g107, 6, none⟩) (Kd.R_far (p := ⟨g107, 5, none⟩) (Kd.R_far (p := ⟨g107, 4, none⟩) (Kd.R_far (p := ⟨g107, 3, none⟩) (Kd.R_far (p := ⟨g107, 2, none⟩) (Kd.R_types HO_108001.out K107.out (by decide)) (fun _ hk => hk.2) (.string t125)) (fun _ hk => hk.2) (.string t126)) (fun _ hk => hk.2) (.int .i64 t127)) (fun _ hk => hk.2) (.int .i64 t128)) (fun _ hk => hk.2) (.string t134)) (fun _ hk => hk.2) (.string t135)) (fun _ hk => hk.2) (.int .i64 t136)) (fun _ hk => hk.2) (.int .i64 t137)) (fun _ hk => hk.2) (.string (a0.extract ((ji60) : Int).toNat a0.size))) (fun _ h_ => h_.1))) hb); replace K106 := qa_.mk (qbk_ (g := g106) (o := .cells #[.string x107000_2, .slice none 0 0, .string x107002_2, .string x107003_2, .int .i64 x107004_2, .int .i64 x107005_2, .string x107006_2, .string x107007_2, .int .i64 x107008_2, .int .i64 x107009_2, .string x107010_2] 26 (0, 0)) (by have b_ := K106; have f_ := N106_107; exact zb_) hb); replace K107 := qa_.mk (qbk_ (g := g107) (o := .cells #[.string t108, .slice Ao74 x108001_2.length co74, .string t125, .string t126, .int .i64 t127, .int .i64 t128, .string t134, .string t135, .int .i64 t136, .int .i64 t137, .string (a0.extract ((ji60) : Int).toNat a0.size)] 26 (0, 0)) (by have b_ := K107; exact zb_) hb); replace K130 := qa_.mk (qbk_ (g := g130) (o := .cells #[.string t125, .string t126, .int .i64 t127, .int .i64 t128] 24 (0, 0)) (by have b_ := K130; have f_ := N130_107; exact zb_) hb); replace K139 := qa_.mk (qbk_ (g := g139) (o := .cells #[.string t134, .string t135, .int .i64 t136, .int .i64 t137] 24 (0, 0)) (by have b_ := K139; have f_ := N139_107; exact zb_) hb); replace HB := hr_ hb; (try clear hb); (try clear hb2); (try clear hk); (try clear hi); obtain ⟨Z76_0, Z76_1, Z76_2, Z76_3, Z76_4, Z76_5, Z76_6, Z76_7, Z76_8, Z76_9, Z76_10, F76⟩ := bc11 K107.out; obtain ⟨Z77_0, Z77_1, Z77_2, Z77_3, Z77_4, Z77_5, Z77_6, Z77_7, Z77_8, Z77_9, Z77_10, F77⟩ := bc11 K106.out))
         refine bodyPost_ret (qcq_ rfl _ _ g106 26 #[.string t108, .slice Ao74 x108001_2.length co74, .string t125, .string t126, .int .i64 t127, .int .i64 t128, .string t134, .string t135, .int .i64 t136, .int .i64 t137, .string (a0.extract ((ji60) : Int).toNat a0.size)] (0, 0) _ rfl (by have b_ := K106; exact zb_) underlying26 rfl (by kernel_rfl)) rfl ?_; exact ⟨_, by first | rfl | (simp [qbo_, qbp_] <;> rfl) | (simp only [← hji60]; first | rfl | (simp [qbo_, qbp_] <;> rfl)) | (simp [*, qbo_, qbp_] <;> rfl) | (simp [qby_]; done) | (simp [*, qby_]; done), by (with_reducible repeat (first | apply Kd.R_alloc | apply Kd.R_drewN | apply Kd.R_drew)); exact Kd.R_mono (Kd.R_far (p := ⟨g106, 10, none⟩) (Kd.R_far (p := ⟨g106, 9, none⟩) (Kd.R_far (p := ⟨g106, 8, none⟩) (Kd.R_far (p := ⟨g106, 7, none⟩) (Kd.R_far (p := ⟨g106, 6, none⟩) (Kd.R_far (p := ⟨g106, 5, none⟩) (Kd.R_far (p := ⟨g106, 4, none⟩) (Kd.R_far (p := ⟨g106, 3, none⟩) (Kd.R_far (p := ⟨g106, 2, none⟩) (Kd.R_far (p := ⟨g106, 1, none⟩) (Kd.R_far (p := ⟨g106, 0, none⟩) (Kd.R_types HO_108001.out K106.out (by decide)) (fun _ hk => hk.2) (.string t108)) (fun _ hk => hk.2) (.slice Ao74 x108001_2.length co74)) (fun _ hk => hk.2) (.string t125)) (fun _ hk => hk.2) (.string t126)) (fun _ hk => hk.2) (.int .i64 t127)) (fun _ hk => hk.2) (.int .i64 t128)) (fun _ hk => hk.2) (.string t134)) (fun _ hk => hk.2) (.string t135)) (fun _ hk => hk.2) (.int .i64 t136)) (fun _ hk => hk.2) (.int .i64 t137)) (fun _ hk => hk.2) (.string (a0.extract ((ji60) : Int).toNat a0.size))) (fun _ hk => trivial), hs_⟩
def qci_.l0 : Nat → ByteArray → Int → Option (Int)
 | 0, _, _ => none
 | k + 1, x0, x3 => if x3 ≤ 4 then ((qcm_.f x3).bind fun t165 => (if t165.toList = x0.toList then (some x3) else (qci_.l0 k x0 (wrap64 (x3 + 1))))) else (some 0)
def qci_.f (k : Nat) (a0 : ByteArray) : Option (Int) := qci_.l0 k a0 1
theorem qci_.calls (k : Nat) (a0 : ByteArray) (r : Int) (w : World) (h : qci_.f k a0 = some r) :
  Calls Tryz.prog 78 #[.string a0] w fun e w' => e = .returned (.int .i64 r) ∧ Drawn0 w w' := by
 unfold qci_.f at h; have H := h; clear h; have H' := qa_.mk H; clear H; go_enter func78, ntmps78; go_wp2
 go_loopg [3] k (fun kq v3 w' => ∃ (x3_1 : Int), v3 = .int .i64 x3_1 ∧ qa_ (qci_.l0 kq a0 x3_1 = some r) ∧ qa_ (kq ≤ k) ∧ Drawn0 w w')
 case atStart => exact ⟨(1), z1_, H', ⟨Nat.le_refl _⟩, z2_⟩
 case round =>
  clear H'; obtain ⟨x3_1, rfl, HA, HK1, ⟨m1, rfl⟩⟩ := hrel
  cases gk with
  | zero => exact absurd HA.out (by simp [qci_.l0])
  | succ k1 =>
   have H := HA.out; clear HA; simp only [qci_.l0] at H; by_cases c2 : x3_1 ≤ 4; rotate_left
   ·rw [if_neg c2] at H; have c2b0 := df_ c2; clear c2; obtain rfl := oi_ H; go_wp2
    go_ret
    exact ⟨z1_, z2_⟩
   rw [if_pos c2] at H; have c2b0 := dt_ c2; clear c2; obtain ⟨t165, A3, H⟩ := bx_ H; by_cases c4 : t165.toList = a0.toList
   ·rw [if_pos c4] at H; have c4b0 := et_ c4; have c4b1 := nf_ c4; clear c4; obtain rfl := oi_ H; go_wp2_with (first | ((with_reducible refine qb_ (f := 80) rfl ?_); refine gl_ (some 9) func80 #[.int .i64 x3_1] ?_; refine cm_ (qcm_.calls x3_1 t165 _ A3.out) ?_; rintro w' ⟨nd, rfl⟩)); go_ret
    exact ⟨z1_, z2_⟩
   rw [if_neg c4] at H; have c4b0 := ef_ c4; have c4b1 := nt_ c4; have H' := qa_.mk H; clear H; go_wp2_with (first | ((with_reducible refine qb_ (f := 80) rfl ?_); refine gl_ (some 9) func80 #[.int .i64 x3_1] ?_; refine cm_ (qcm_.calls x3_1 t165 _ A3.out) ?_; rintro w' ⟨nd, rfl⟩)); go_roundg k1
   case measure => have := HK1.out; omega
   case rel => exact ⟨(wrap64 (x3_1 + 1)), z1_, H', ⟨by have := HK1.out; omega⟩, z2_⟩
mutual
def qu_.j0 : Nat → Bool → ByteArray → Int → ByteArray → ByteArray → ByteArray → Int → Int → ByteArray → Option (Int)
 | 0, _, _, _, _, _, _, _, _, _ => none
 | k + 1, x3, x111000, x111001, x111002, x111003, x111004, x111005, x111006, x111007 => qu_.l0 k x3 0 x111000 x111001 x111002 x111003 x111004 x111005 x111006 x111007
def qu_.l0 : Nat → Bool → Int → ByteArray → Int → ByteArray → ByteArray → ByteArray → Int → Int → ByteArray → Option (Int)
 | 0, _, _, _, _, _, _, _, _, _, _ => none
 | k + 1, x3, x4, x111000, x111001, x111002, x111003, x111004, x111005, x111006, x111007 => if x4 < (x111002.size : Int) then (if x3 = true then (qu_.l0 k true (wrap64 (x4 + 1)) x111000 x111001 x111002 x111003 x111004 x111005 x111006 x111007) else (if 0 ≤ x4 then (qu_.l0 k (decide ((bt x111002 x4) ≤ 32)) (wrap64 (x4 + 1)) x111000 x111001 x111002 x111003 x111004 x111005 x111006 x111007) else (none))) else (if x3 = true then (some 1) else (if (x111007.size : Int) > 4096 then (some 4) else (some 0)))
end
def qu_.f (k : Nat) (a0_0 : ByteArray) (a0_1 : Int) (a0_2 : ByteArray) (a0_3 : ByteArray) (a0_4 : ByteArray) (a0_5 : Int) (a0_6 : Int) (a0_7 : ByteArray) : Option (Int) := (qac_.f k a0_0).bind fun t111 => (if t111 = true then (if a0_1 < 1 then (qu_.j0 k true a0_0 a0_1 a0_2 a0_3 a0_4 a0_5 a0_6 a0_7) else (if a0_1 > 4 then (qu_.j0 k true a0_0 a0_1 a0_2 a0_3 a0_4 a0_5 a0_6 a0_7) else (if (a0_2.size : Int) < 1 then (qu_.j0 k true a0_0 a0_1 a0_2 a0_3 a0_4 a0_5 a0_6 a0_7) else (if (a0_2.size : Int) > 64 then (qu_.j0 k true a0_0 a0_1 a0_2 a0_3 a0_4 a0_5 a0_6 a0_7) else ((qaq_.f k a0_3 a0_4 a0_5 a0_6).bind fun t112 => (if t112 = true then ((qbx_.f k a0_7).bind fun t113 => (qu_.j0 k t113 a0_0 a0_1 a0_2 a0_3 a0_4 a0_5 a0_6 a0_7)) else (qu_.j0 k true a0_0 a0_1 a0_2 a0_3 a0_4 a0_5 a0_6 a0_7))))))) else (qu_.j0 k true a0_0 a0_1 a0_2 a0_3 a0_4 a0_5 a0_6 a0_7))
theorem qu_.calls (k : Nat) (a0_0 : ByteArray) (a0_1 : Int) (a0_2 : ByteArray) (a0_3 : ByteArray) (a0_4 : ByteArray) (a0_5 : Int) (a0_6 : Int) (a0_7 : ByteArray) (r : Int) (w : World) (h : qu_.f k a0_0 a0_1 a0_2 a0_3 a0_4 a0_5 a0_6 a0_7 = some r) :
  Calls Tryz.prog 28 #[.agg #[.string a0_0, .int .i64 a0_1, .string a0_2, .string a0_3, .string a0_4, .int .i64 a0_5, .int .i64 a0_6, .string a0_7]] w fun e w' => e = .returned (.int .i64 r) ∧ Below w.heap.size w w' := by
 have hu37 := underlying37; have hu24 := underlying24; have HB := qa_.mk (Below.refl w.heap.size w); unfold qu_.f at h; have H := h; clear h; have HC2 := qa_.mk H; clear H; go_enter func28, ntmps28; go_upto_region 1 with (first | ((with_reducible refine qh_ (N := 1) rfl ?_); (try (refine qcy_ (by rfl) ?_; dsimp only)); refine be_ (cs := #[.string a0_0, .int .i64 a0_1, .string a0_2, .string a0_3, .string a0_4, .int .i64 a0_5, .int .i64 a0_6, .string a0_7]) (t := 37) ?_; intro g110 hg w3 hbox hb; have K110 := qa_.mk (hbox); have W110 := ag_ hg HB; have E110 := ag_ hg HB; replace HB := ah_ HB hb; clear hb hbox hg)); (try simp only [Act.put, List.setIfInBounds_toArray, List.set_cons_zero, List.set_cons_succ])
 go_cut [3] (fun v3 wc => ∃ (kq : Nat) (x3_1 : Bool), v3 = .bool x3_1 ∧ qa_ (qu_.j0 kq x3_1 a0_0 a0_1 a0_2 a0_3 a0_4 a0_5 a0_6 a0_7 = some r) ∧ qa_ (kq ≤ k) ∧ qa_ (wc.heap[g110]? = some (.cells #[.string a0_0, .int .i64 a0_1, .string a0_2, .string a0_3, .string a0_4, .int .i64 a0_5, .int .i64 a0_6, .string a0_7] 37 (0, 0))) ∧ qa_ (Below w.heap.size w wc))
 case first =>
  have H := HC2.out; clear HC2; obtain ⟨t111, A4, H⟩ := bx_ H; by_cases c5 : t111 = true; rotate_left
  ·replace c5 := Bool.eq_false_iff.mpr c5; subst c5; rw [if_neg nft_] at H; have H' := qa_.mk H; clear H; obtain ⟨Z22_0, Z22_1, Z22_2, Z22_3, Z22_4, Z22_5, Z22_6, Z22_7, F22⟩ := bc8 K110.out; go_wp2_with (first | ((with_reducible refine qb_ (f := 61) rfl ?_); refine gl_ (some 7) func61 #[.string a0_0] ?_; refine cm_ (qac_.calls k a0_0 false _ A4.out) ?_; rintro w' ⟨nd, rfl⟩)); go_meet
   case rel => exact ⟨_, (true), z1_, H', ⟨z4_⟩, ⟨bk_ K110.out⟩, ⟨hs_⟩⟩
  subst c5; rw [if_pos rfl] at H; by_cases c6 : a0_1 < 1
  ·rw [if_pos c6] at H; have c6b0 := dt_ c6; clear c6; (first | rw [c6b0] | (simp only [i64_w, i32_w]; rw [c6b0]) | skip); have H' := qa_.mk H; clear H; obtain ⟨Z7_0, Z7_1, Z7_2, Z7_3, Z7_4, Z7_5, Z7_6, Z7_7, F7⟩ := bc8 K110.out; go_wp2_with (first | ((with_reducible refine qb_ (f := 61) rfl ?_); refine gl_ (some 7) func61 #[.string a0_0] ?_; refine cm_ (qac_.calls k a0_0 true _ A4.out) ?_; rintro w' ⟨nd, rfl⟩)); go_meet
   case rel => exact ⟨_, (true), z1_, H', ⟨z4_⟩, ⟨bk_ K110.out⟩, ⟨hs_⟩⟩
  rw [if_neg c6] at H; have c6b0 := df_ c6; clear c6; (first | rw [c6b0] | (simp only [i64_w, i32_w]; rw [c6b0]) | skip); by_cases c8 : a0_1 > 4
  ·rw [if_pos c8] at H; have c8b0 := dt_ c8; clear c8; have H' := qa_.mk H; clear H; obtain ⟨Z9_0, Z9_1, Z9_2, Z9_3, Z9_4, Z9_5, Z9_6, Z9_7, F9⟩ := bc8 K110.out; go_wp2_with (first | ((with_reducible refine qb_ (f := 61) rfl ?_); refine gl_ (some 7) func61 #[.string a0_0] ?_; refine cm_ (qac_.calls k a0_0 true _ A4.out) ?_; rintro w' ⟨nd, rfl⟩)); go_meet
   case rel => exact ⟨_, (true), z1_, H', ⟨z4_⟩, ⟨bk_ K110.out⟩, ⟨hs_⟩⟩
  rw [if_neg c8] at H; have c8b0 := df_ c8; clear c8; by_cases c10 : (a0_2.size : Int) < 1
  ·rw [if_pos c10] at H; have c10b0 := dt_ c10; have c10b1 : decide (a0_2.size < 1) = true := decide_eq_true (by omega); clear c10; have H' := qa_.mk H; clear H; obtain ⟨Z11_0, Z11_1, Z11_2, Z11_3, Z11_4, Z11_5, Z11_6, Z11_7, F11⟩ := bc8 K110.out; go_wp2_with (first | ((with_reducible refine qb_ (f := 61) rfl ?_); refine gl_ (some 7) func61 #[.string a0_0] ?_; refine cm_ (qac_.calls k a0_0 true _ A4.out) ?_; rintro w' ⟨nd, rfl⟩)); go_meet
   case rel => exact ⟨_, (true), z1_, H', ⟨z4_⟩, ⟨bk_ K110.out⟩, ⟨hs_⟩⟩
  rw [if_neg c10] at H; have c10b0 := df_ c10; have c10b1 : decide (a0_2.size < 1) = false := decide_eq_false (by omega); clear c10; by_cases c12 : (a0_2.size : Int) > 64
  ·rw [if_pos c12] at H; have c12b0 := dt_ c12; have c12b1 : decide (64 < a0_2.size) = true := decide_eq_true (by omega); clear c12; have H' := qa_.mk H; clear H; obtain ⟨Z13_0, Z13_1, Z13_2, Z13_3, Z13_4, Z13_5, Z13_6, Z13_7, F13⟩ := bc8 K110.out; go_wp2_with (first | ((with_reducible refine qb_ (f := 61) rfl ?_); refine gl_ (some 7) func61 #[.string a0_0] ?_; refine cm_ (qac_.calls k a0_0 true _ A4.out) ?_; rintro w' ⟨nd, rfl⟩)); go_meet
   case rel => exact ⟨_, (true), z1_, H', ⟨z4_⟩, ⟨bk_ K110.out⟩, ⟨hs_⟩⟩
  rw [if_neg c12] at H; have c12b0 := df_ c12; have c12b1 : decide (64 < a0_2.size) = false := decide_eq_false (by omega); clear c12; obtain ⟨t112, A14, H⟩ := bx_ H; by_cases c15 : t112 = true; rotate_left
  ·replace c15 := Bool.eq_false_iff.mpr c15; subst c15; rw [if_neg nft_] at H; have H' := qa_.mk H; clear H; obtain ⟨Z20_0, Z20_1, Z20_2, Z20_3, Z20_4, Z20_5, Z20_6, Z20_7, F20⟩ := bc8 K110.out; go_wp2_with (first | ((with_reducible refine qb_ (f := 61) rfl ?_); refine gl_ (some 7) func61 #[.string a0_0] ?_; refine cm_ (qac_.calls k a0_0 true _ A4.out) ?_; rintro w' ⟨nd, rfl⟩) | (go_at_call 32; (with_reducible refine (qaq_.calls k a0_3 a0_4 a0_5 a0_6 false _ A14.out).mono ?_); rintro e w21 ⟨rfl, hb⟩; replace K110 := ab_ K110 hb; replace HB := hr_ hb; (try clear hb); (try clear hb2); (try clear hk); (try clear hi)))
   go_meet
   case rel => exact ⟨_, (true), z1_, H', ⟨z4_⟩, ⟨bk_ K110.out⟩, ⟨hs_⟩⟩
  subst c15; rw [if_pos rfl] at H; obtain ⟨t113, A16, H⟩ := bx_ H; have H' := qa_.mk H; clear H; obtain ⟨Z17_0, Z17_1, Z17_2, Z17_3, Z17_4, Z17_5, Z17_6, Z17_7, F17⟩ := bc8 K110.out; go_wp2_with (first | ((with_reducible refine qb_ (f := 61) rfl ?_); refine gl_ (some 7) func61 #[.string a0_0] ?_; refine cm_ (qac_.calls k a0_0 true _ A4.out) ?_; rintro w' ⟨nd, rfl⟩) | (go_at_call 32; (with_reducible refine (qaq_.calls k a0_3 a0_4 a0_5 a0_6 true _ A14.out).mono ?_); rintro e w18 ⟨rfl, hb⟩; replace K110 := ab_ K110 hb; replace HB := hr_ hb; (try clear hb); (try clear hb2); (try clear hk); (try clear hi); obtain ⟨Z19_0, Z19_1, Z19_2, Z19_3, Z19_4, Z19_5, Z19_6, Z19_7, F19⟩ := bc8 K110.out) | (go_at_call 69; (with_reducible refine (qbx_.calls k a0_7 t113 _ A16.out).mono ?_); rintro e w' ⟨rfl, ⟨nd, rfl⟩⟩)); go_meet
  case rel => exact ⟨_, (t113), z1_, H', ⟨z4_⟩, ⟨bk_ K110.out⟩, ⟨hs_⟩⟩
 case rest =>
  clear HC2; try clear c1
  try clear c2
  try clear p2
  try clear c5
  try clear c6
  try clear c6b0
  try clear c8
  try clear c8b0
  try clear c10
  try clear c10b0
  try clear c10b1
  try clear c12
  try clear c12b0
  try clear c12b1
  try clear c15
  try clear Z11_0 Z11_1 Z11_2 Z11_3 Z11_4 Z11_5 Z11_6 Z11_7
  try clear Z13_0 Z13_1 Z13_2 Z13_3 Z13_4 Z13_5 Z13_6 Z13_7
  try clear Z17_0 Z17_1 Z17_2 Z17_3 Z17_4 Z17_5 Z17_6 Z17_7
  try clear Z19_0 Z19_1 Z19_2 Z19_3 Z19_4 Z19_5 Z19_6 Z19_7
  try clear Z20_0 Z20_1 Z20_2 Z20_3 Z20_4 Z20_5 Z20_6 Z20_7
  try clear Z22_0 Z22_1 Z22_2 Z22_3 Z22_4 Z22_5 Z22_6 Z22_7
  try clear Z7_0 Z7_1 Z7_2 Z7_3 Z7_4 Z7_5 Z7_6 Z7_7
  try clear Z9_0 Z9_1 Z9_2 Z9_3 Z9_4 Z9_5 Z9_6 Z9_7
  try clear F11
  try clear F13
  try clear F17
  try clear F19
  try clear F20
  try clear F22
  try clear F7
  try clear F9
  obtain ⟨kq, x3_1, rfl, HA, HJ1, K110, HB⟩ := hcut
  cases kq with
  | zero => exact absurd HA.out (by simp [qu_.j0])
  | succ kj1 =>
   have H := HA.out; clear HA; simp only [qu_.j0] at H; have H' := qa_.mk H; clear H; go_wp2
   go_loopg [3, 4] kj1 (fun kq v3 v4 w' => ∃ (x3_2 : Bool) (x4_2 : Int), v3 = .bool x3_2 ∧ v4 = .int .i64 x4_2 ∧ qa_ (qu_.l0 kq x3_2 x4_2 a0_0 a0_1 a0_2 a0_3 a0_4 a0_5 a0_6 a0_7 = some r) ∧ qa_ (kq ≤ kj1) ∧ qa_ (w'.heap[g110]? = some (.cells #[.string a0_0, .int .i64 a0_1, .string a0_2, .string a0_3, .string a0_4, .int .i64 a0_5, .int .i64 a0_6, .string a0_7] 37 (0, 0))) ∧ qa_ (Below w.heap.size w w'))
   case atStart => exact ⟨(x3_1), (0), z1_, z1_, H', ⟨Nat.le_refl _⟩, ⟨bk_ K110.out⟩, ⟨hs_⟩⟩
   case round =>
    clear H'; try clear c1
    try clear c2
    try clear p2
    try clear c5
    try clear c6
    try clear c6b0
    try clear c8
    try clear c8b0
    try clear c10
    try clear c10b0
    try clear c10b1
    try clear c12
    try clear c12b0
    try clear c12b1
    try clear c15
    try clear Z11_0 Z11_1 Z11_2 Z11_3 Z11_4 Z11_5 Z11_6 Z11_7
    try clear Z13_0 Z13_1 Z13_2 Z13_3 Z13_4 Z13_5 Z13_6 Z13_7
    try clear Z17_0 Z17_1 Z17_2 Z17_3 Z17_4 Z17_5 Z17_6 Z17_7
    try clear Z19_0 Z19_1 Z19_2 Z19_3 Z19_4 Z19_5 Z19_6 Z19_7
    try clear Z20_0 Z20_1 Z20_2 Z20_3 Z20_4 Z20_5 Z20_6 Z20_7
    try clear Z22_0 Z22_1 Z22_2 Z22_3 Z22_4 Z22_5 Z22_6 Z22_7
    try clear Z7_0 Z7_1 Z7_2 Z7_3 Z7_4 Z7_5 Z7_6 Z7_7
    try clear Z9_0 Z9_1 Z9_2 Z9_3 Z9_4 Z9_5 Z9_6 Z9_7
    try clear F11
    try clear F13
    try clear F17
    try clear F19
    try clear F20
    try clear F22
    try clear F7
    try clear F9
    try clear p2
    obtain ⟨x3_2, x4_2, rfl, rfl, HA, HK2, K110, HB⟩ := hrel
    cases gk with
    | zero => exact absurd HA.out (by simp [qu_.l0])
    | succ k2 =>
     have H := HA.out; clear HA; simp only [qu_.l0] at H; by_cases c23 : x4_2 < (a0_2.size : Int); rotate_left
     ·rw [if_neg c23] at H; have c23b0 := df_ c23; clear c23; by_cases c29 : x3_2 = true
      ·subst c29; rw [if_pos rfl] at H; obtain rfl := oi_ H; obtain ⟨Z30_0, Z30_1, Z30_2, Z30_3, Z30_4, Z30_5, Z30_6, Z30_7, F30⟩ := bc8 K110.out; go_wp2
       go_ret
       exact ⟨z3_, hs_⟩
      replace c29 := Bool.eq_false_iff.mpr c29; subst c29; rw [if_neg nft_] at H; by_cases c31 : (a0_7.size : Int) > 4096
      ·rw [if_pos c31] at H; have c31b0 := dt_ c31; have c31b1 : decide (4096 < a0_7.size) = true := decide_eq_true (by omega); clear c31; obtain rfl := oi_ H; obtain ⟨Z32_0, Z32_1, Z32_2, Z32_3, Z32_4, Z32_5, Z32_6, Z32_7, F32⟩ := bc8 K110.out; go_wp2
       go_ret
       exact ⟨z3_, hs_⟩
      rw [if_neg c31] at H; have c31b0 := df_ c31; have c31b1 : decide (4096 < a0_7.size) = false := decide_eq_false (by omega); clear c31; obtain rfl := oi_ H; obtain ⟨Z33_0, Z33_1, Z33_2, Z33_3, Z33_4, Z33_5, Z33_6, Z33_7, F33⟩ := bc8 K110.out; go_wp2
      go_ret
      exact ⟨z3_, hs_⟩
     rw [if_pos c23] at H; have c23b0 := dt_ c23; clear c23; by_cases c24 : x3_2 = true
     ·subst c24; rw [if_pos rfl] at H; have H' := qa_.mk H; clear H; obtain ⟨Z25_0, Z25_1, Z25_2, Z25_3, Z25_4, Z25_5, Z25_6, Z25_7, F25⟩ := bc8 K110.out; go_wp2
      go_roundg k2
      case measure => have := HJ1.out; have := HK2.out; omega
      case rel => exact ⟨(true), (wrap64 (x4_2 + 1)), z1_, z1_, H', ⟨by have := HJ1.out; have := HK2.out; omega⟩, ⟨bk_ K110.out⟩, ⟨hs_⟩⟩
     replace c24 := Bool.eq_false_iff.mpr c24; subst c24; rw [if_neg nft_] at H; by_cases c26 : 0 ≤ x4_2; rotate_left
     ·rw [if_neg c26] at H; exact no_ H
     rw [if_pos c26] at H; have c26b0 := dt_ c26; clear c26; have H' := qa_.mk H; clear H; obtain ⟨Z28_0, Z28_1, Z28_2, Z28_3, Z28_4, Z28_5, Z28_6, Z28_7, F28⟩ := bc8 K110.out; have p27 : 0 ≤ (x4_2 : Int) := y0_; have q27 : x4_2 < (a0_2.size : Int) := y0_; have hx27 := bt_at a0_2 x4_2; replace p27 := eq_true p27; replace q27 := eq_true q27; go_wp2
     go_roundg k2
     case measure => have := HJ1.out; have := HK2.out; omega
     case rel => exact ⟨(decide ((bt a0_2 x4_2) ≤ 32)), (wrap64 (x4_2 + 1)), z1_, z1_, H', ⟨by have := HJ1.out; have := HK2.out; omega⟩, ⟨bk_ K110.out⟩, ⟨hs_⟩⟩
def qab_.j0 : Nat → ByteArray → Int → Bool → ByteArray → Int → ByteArray → ByteArray → ByteArray → Int → Int → ByteArray → Option (ByteArray × Int × ByteArray × ByteArray × ByteArray × Int × Int × ByteArray × Int)
 | 0, _, _, _, _, _, _, _, _, _, _, _ => none
 | k + 1, x0, x14, x94, x162000, x162001, x162002, x162003, x162004, x162005, x162006, x162007 => if x94 = true then (some ((⟨#[]⟩ : ByteArray), 0, (⟨#[]⟩ : ByteArray), (⟨#[]⟩ : ByteArray), (⟨#[]⟩ : ByteArray), 0, 0, (⟨#[]⟩ : ByteArray), 2)) else (if 0 ≤ (wrap64 (x14 + 1)) then (if (wrap64 (x14 + 1)) ≤ (x0.size : Int) then ((qu_.f k x162000 x162001 x162002 x162003 x162004 x162005 x162006 (x0.extract ((wrap64 (x14 + 1)) : Int).toNat x0.size)).bind fun t163 => (if t163 = 0 then (some (x162000, x162001, x162002, x162003, x162004, x162005, x162006, x0.extract ((wrap64 (x14 + 1)) : Int).toNat x0.size, 0)) else (some ((⟨#[]⟩ : ByteArray), 0, (⟨#[]⟩ : ByteArray), (⟨#[]⟩ : ByteArray), (⟨#[]⟩ : ByteArray), 0, 0, (⟨#[]⟩ : ByteArray), t163)))) else (none)) else (none))
def qab_.f (k : Nat) (a0 : ByteArray) : Option (ByteArray × Int × ByteArray × ByteArray × ByteArray × Int × Int × ByteArray × Int) := (qba_.f k a0 0 ⟨#[111, 98, 106, 101, 99, 116]⟩).bind fun bt142 => ((qba_.f k a0 bt142.2.1 ⟨#[116, 121, 112, 101]⟩).bind fun bt145 => ((qba_.f k a0 bt145.2.1 ⟨#[116, 97, 103]⟩).bind fun bt148 => ((qba_.f k a0 bt148.2.1 ⟨#[116, 97, 103, 103, 101, 114]⟩).bind fun bt151 => ((qca_.f k bt151.1 bt151.2.2).bind fun bt154 => ((qci_.f k bt145.1).bind fun t160 => (if bt142.2.2 = true then (if bt145.2.2 = true then (if bt148.2.2 = true then (if bt154.2.2.2.2 = 0 then (qab_.j0 k a0 bt151.2.1 true bt142.1 t160 bt148.1 bt154.1 bt154.2.1 bt154.2.2.1 bt154.2.2.2.1 ⟨#[]⟩) else ((qac_.f k bt142.1).bind fun t162 => (if t162 = true then (if t160 = 0 then (qab_.j0 k a0 bt151.2.1 true bt142.1 t160 bt148.1 bt154.1 bt154.2.1 bt154.2.2.1 bt154.2.2.2.1 ⟨#[]⟩) else (if bt151.2.1 ≥ (a0.size : Int) then (qab_.j0 k a0 bt151.2.1 true bt142.1 t160 bt148.1 bt154.1 bt154.2.1 bt154.2.2.1 bt154.2.2.2.1 ⟨#[]⟩) else (if 0 ≤ bt151.2.1 then (if bt151.2.1 < (a0.size : Int) then (qab_.j0 k a0 bt151.2.1 ((bt a0 bt151.2.1) != 10) bt142.1 t160 bt148.1 bt154.1 bt154.2.1 bt154.2.2.1 bt154.2.2.2.1 ⟨#[]⟩) else (none)) else (none)))) else (qab_.j0 k a0 bt151.2.1 true bt142.1 t160 bt148.1 bt154.1 bt154.2.1 bt154.2.2.1 bt154.2.2.2.1 ⟨#[]⟩)))) else (qab_.j0 k a0 bt151.2.1 true bt142.1 t160 bt148.1 bt154.1 bt154.2.1 bt154.2.2.1 bt154.2.2.2.1 ⟨#[]⟩)) else (qab_.j0 k a0 bt151.2.1 true bt142.1 t160 bt148.1 bt154.1 bt154.2.1 bt154.2.2.1 bt154.2.2.2.1 ⟨#[]⟩)) else (qab_.j0 k a0 bt151.2.1 true bt142.1 t160 bt148.1 bt154.1 bt154.2.1 bt154.2.2.1 bt154.2.2.2.1 ⟨#[]⟩)))))))
def qab_.T6 : Bool × List (List Nat × List Nat) := (true, [([], []), ([], []), ([1], [1]), ([], []), ([], []), ([0, 2, 3, 4], [0, 2, 3, 4]), ([], []), ([6, 5, 2, 0, 1, 2, 3, 4, 5, 6], [5, 6])])
def qab_.B6 : List Nat := [0, 0, 2, 0, 0, 31, 0, 127]
theorem qab_.tab6 : rtab .any (opsOf Tryz.f24 6) = qab_.T6 := by kernel_rfl
theorem qab_.bits6 : qdu_ qab_.T6.2 qab_.B6 = true := by kernel_rfl
theorem qab_.calls (k : Nat) (a0 : ByteArray) (r1 : ByteArray) (r2 : Int) (r3 : ByteArray) (r4 : ByteArray) (r5 : ByteArray) (r6 : Int) (r7 : Int) (r8 : ByteArray) (r9 : Int) (w : World) (h : qab_.f k a0 = some (r1, r2, r3, r4, r5, r6, r7, r8, r9)) :
  Calls Tryz.prog 24 #[.string a0] w fun e w' => e = .returned (.tuple #[.agg #[.string r1, .int .i64 r2, .string r3, .string r4, .string r5, .int .i64 r6, .int .i64 r7, .string r8], .int .i64 r9]) ∧ Below w.heap.size w w' := by
 have hu37 := underlying37; have hu24 := underlying24; have HB := qa_.mk (Below.refl w.heap.size w); unfold qab_.f at h; have H := h; clear h; obtain ⟨⟨t142, t143, t144⟩, A2, H⟩ := bx_ H; dsimp only at H; obtain ⟨⟨t145, t146, t147⟩, A3, H⟩ := bx_ H; dsimp only at H; obtain ⟨⟨t148, t149, t150⟩, A4, H⟩ := bx_ H; dsimp only at H; obtain ⟨⟨t151, t152, t153⟩, A5, H⟩ := bx_ H; dsimp only at H; obtain ⟨⟨t154, t155, t156, t157, t158⟩, A6, H⟩ := bx_ H; dsimp only at H; obtain ⟨t160, A7, H⟩ := bx_ H; have HC8 := qa_.mk H; clear H; go_enter func24, ntmps24; try go_wp2_with (first | ((with_reducible refine qh_ (N := 2) rfl ?_); (try (refine qcy_ (by rfl) ?_; dsimp only)); refine be_ (cs := #[.string ⟨#[]⟩, .int .i64 0, .string ⟨#[]⟩, .string ⟨#[]⟩, .string ⟨#[]⟩, .int .i64 0, .int .i64 0, .string ⟨#[]⟩]) (t := 37) ?_; intro g141 hg w9 hbox hb; have K141 := qa_.mk (hbox); have W141 := ag_ hg HB; have E141 := ag_ hg HB; replace HB := ah_ HB hb; clear hb hbox hg) | ((with_reducible refine qb_ (f := 75) rfl ?_); refine gl_ (some 22) func75 #[.string a0, .int .i64 0, .string ⟨#[111, 98, 106, 101, 99, 116]⟩] ?_; refine cm_ (qba_.calls k a0 0 ⟨#[111, 98, 106, 101, 99, 116]⟩ t142 t143 t144 _ A2.out) ?_; rintro w' ⟨nd, rfl⟩; (try (rw [qce_ w9]; generalize hq_ : World.drewN w9 _ = w9; have n0_ : qa_ (w9.heap[g141]? = some (.cells #[.string ⟨#[]⟩, .int .i64 0, .string ⟨#[]⟩, .string ⟨#[]⟩, .string ⟨#[]⟩, .int .i64 0, .int .i64 0, .string ⟨#[]⟩] 37 (0, 0))) := ⟨by rw [← hq_]; exact (bk_ K141.out)⟩; have n1_ : qa_ (Below w.heap.size w w9) := ⟨by rw [← hq_]; exact (hs_)⟩; clear K141 HB hq_; have K141 := n0_; have HB := n1_; clear n0_ n1_))) | ((with_reducible refine qb_ (f := 75) rfl ?_); refine gl_ (some 29) func75 #[.string a0, .int .i64 t143, .string ⟨#[116, 121, 112, 101]⟩] ?_; refine cm_ (qba_.calls k a0 t143 ⟨#[116, 121, 112, 101]⟩ t145 t146 t147 _ A3.out) ?_; rintro w' ⟨nd, rfl⟩; (try (rw [qce_ w9]; generalize hq_ : World.drewN w9 _ = w9; have n0_ : qa_ (w9.heap[g141]? = some (.cells #[.string ⟨#[]⟩, .int .i64 0, .string ⟨#[]⟩, .string ⟨#[]⟩, .string ⟨#[]⟩, .int .i64 0, .int .i64 0, .string ⟨#[]⟩] 37 (0, 0))) := ⟨by rw [← hq_]; exact (bk_ K141.out)⟩; have n1_ : qa_ (Below w.heap.size w w9) := ⟨by rw [← hq_]; exact (hs_)⟩; clear K141 HB hq_; have K141 := n0_; have HB := n1_; clear n0_ n1_))) | ((with_reducible refine qb_ (f := 75) rfl ?_); refine gl_ (some 36) func75 #[.string a0, .int .i64 t146, .string ⟨#[116, 97, 103]⟩] ?_; refine cm_ (qba_.calls k a0 t146 ⟨#[116, 97, 103]⟩ t148 t149 t150 _ A4.out) ?_; rintro w' ⟨nd, rfl⟩; (try (rw [qce_ w9]; generalize hq_ : World.drewN w9 _ = w9; have n0_ : qa_ (w9.heap[g141]? = some (.cells #[.string ⟨#[]⟩, .int .i64 0, .string ⟨#[]⟩, .string ⟨#[]⟩, .string ⟨#[]⟩, .int .i64 0, .int .i64 0, .string ⟨#[]⟩] 37 (0, 0))) := ⟨by rw [← hq_]; exact (bk_ K141.out)⟩; have n1_ : qa_ (Below w.heap.size w w9) := ⟨by rw [← hq_]; exact (hs_)⟩; clear K141 HB hq_; have K141 := n0_; have HB := n1_; clear n0_ n1_))) | ((with_reducible refine qb_ (f := 75) rfl ?_); refine gl_ (some 43) func75 #[.string a0, .int .i64 t149, .string ⟨#[116, 97, 103, 103, 101, 114]⟩] ?_; refine cm_ (qba_.calls k a0 t149 ⟨#[116, 97, 103, 103, 101, 114]⟩ t151 t152 t153 _ A5.out) ?_; rintro w' ⟨nd, rfl⟩; (try (rw [qce_ w9]; generalize hq_ : World.drewN w9 _ = w9; have n0_ : qa_ (w9.heap[g141]? = some (.cells #[.string ⟨#[]⟩, .int .i64 0, .string ⟨#[]⟩, .string ⟨#[]⟩, .string ⟨#[]⟩, .int .i64 0, .int .i64 0, .string ⟨#[]⟩] 37 (0, 0))) := ⟨by rw [← hq_]; exact (bk_ K141.out)⟩; have n1_ : qa_ (Below w.heap.size w w9) := ⟨by rw [← hq_]; exact (hs_)⟩; clear K141 HB hq_; have K141 := n0_; have HB := n1_; clear n0_ n1_))) | ((with_reducible refine qb_ (f := 76) rfl ?_); refine gl_ (some 50) func76 #[.string t151, .bool t153] ?_; refine cm_ (qca_.calls k t151 t153 t154 t155 t156 t157 t158 _ A6.out) fun w10 hb => ?_; replace K141 := ab_ K141 hb; replace HB := hr_ hb; (try clear hb); (try clear hb2); (try clear hk); (try clear hi)) | ((with_reducible refine qh_ (N := 16) rfl ?_); (try (refine qcy_ (by rfl) ?_; dsimp only)); refine be_ (cs := #[.string ⟨#[]⟩, .string ⟨#[]⟩, .int .i64 0, .int .i64 0]) (t := 24) ?_; intro g159 hg w11 hbox hb; have K159 := qa_.mk (hbox); have W159 := qa_.mk ((by rw [hg]; exact (qj_ (hs_)) : w.heap.size ≤ g159)); have E159 := qa_.mk ((by rw [hg]; exact (qj_ (hs_)) : w.heap.size ≤ g159)); replace HB := hr_ hb; have N141_159 := qa_.mk (nl2_ hg K141.out); have N159_141 := qa_.mk (ng2_ hg K141.out); replace K141 := ab_ K141 hb; clear hb hbox hg; have hnb12 := N159_141.out; have hnc12 := N141_159.out; obtain ⟨Z13_0, Z13_1, Z13_2, Z13_3, F13⟩ := bc4 K159.out))
 have n0_ : qa_ (((((w11.setCell ⟨g159, 0, none⟩ (.string t154)).setCell ⟨g159, 1, none⟩ (.string t155)).setCell ⟨g159, 2, none⟩ (.int .i64 t156)).setCell ⟨g159, 3, none⟩ (.int .i64 t157)).heap[g141]? = some (.cells #[.string ⟨#[]⟩, .int .i64 0, .string ⟨#[]⟩, .string ⟨#[]⟩, .string ⟨#[]⟩, .int .i64 0, .int .i64 0, .string ⟨#[]⟩] 37 (0, 0))) := ⟨by have b_ := K141; have f_ := N141_159; exact zb_⟩; have n1_ : qa_ (((((w11.setCell ⟨g159, 0, none⟩ (.string t154)).setCell ⟨g159, 1, none⟩ (.string t155)).setCell ⟨g159, 2, none⟩ (.int .i64 t156)).setCell ⟨g159, 3, none⟩ (.int .i64 t157)).heap[g159]? = some (.cells #[.string t154, .string t155, .int .i64 t156, .int .i64 t157] 24 (0, 0))) := ⟨by have b_ := K159; exact zb_⟩; have n2_ : qa_ (Below w.heap.size w ((((w11.setCell ⟨g159, 0, none⟩ (.string t154)).setCell ⟨g159, 1, none⟩ (.string t155)).setCell ⟨g159, 2, none⟩ (.int .i64 t156)).setCell ⟨g159, 3, none⟩ (.int .i64 t157))) := ⟨hs_⟩; (try clear K141)
 (try clear K159)
 (try clear HB)
 generalize ((((w11.setCell ⟨g159, 0, none⟩ (.string t154)).setCell ⟨g159, 1, none⟩ (.string t155)).setCell ⟨g159, 2, none⟩ (.int .i64 t156)).setCell ⟨g159, 3, none⟩ (.int .i64 t157)) = w14 at n0_ n1_ n2_ ⊢; have K141 := n0_; have K159 := n1_; have HB := n2_; clear n0_ n1_ n2_; replace K141 := ad_ K141; replace K159 := ad_ K159; replace HB := hd_ HB; refine qdm_ (n := 8) (S := fun w' => w'.cell? ⟨g159, 0, none⟩ = some (.string t154) ∧ w'.cell? ⟨g159, 1, none⟩ = some (.string t155) ∧ w'.cell? ⟨g159, 2, none⟩ = some (.int .i64 t156) ∧ w'.cell? ⟨g159, 3, none⟩ = some (.int .i64 t157)) (ds := []) (bs 8 0) (by kernel_rfl) rfl rfl (bc4o K159.out) (fun qn_ => ?_); refine qdg_ qab_.tab6 qab_.bits6 (fun HT_ HW_ => ?_); generalize w14.drew = w15 at K141 K159 HB qn_ ⊢; refine pun_ 0 53 8 1 ?_; refine pun_ 1 54 8 3 ?_; refine pun_ 3 56 8 11 ?_; refine tkW4n_ 4 57 8 27 qn_ ?_; refine join_ (σ := Nat) 1 (bs 8 127) (fun s_ => [(55, .int .i64 t160), (18, .pointer (some ⟨s_, 0, none⟩)), (58, .agg #[.string t142, .int .i64 t160, .string t148, .string t154, .string t155, .int .i64 t156, .int .i64 t157, .string ⟨#[]⟩])]) (fun s_ w' => (w'.cell? ⟨g159, 0, none⟩ = some (.string t154) ∧ w'.cell? ⟨g159, 1, none⟩ = some (.string t155) ∧ w'.cell? ⟨g159, 2, none⟩ = some (.int .i64 t156) ∧ w'.cell? ⟨g159, 3, none⟩ = some (.int .i64 t157)) ∧ (w'.heap[g141]? = some (.cells #[.string ⟨#[]⟩, .int .i64 0, .string ⟨#[]⟩, .string ⟨#[]⟩, .string ⟨#[]⟩, .int .i64 0, .int .i64 0, .string ⟨#[]⟩] 37 (0, 0))) ∧ (w'.heap[g159]? = some (.cells #[.string t154, .string t155, .int .i64 t156, .int .i64 t157] 24 (0, 0))) ∧ (w'.heap[s_]? = some (.cells #[.string ⟨#[]⟩, .int .i64 0, .string ⟨#[]⟩, .string ⟨#[]⟩, .string ⟨#[]⟩, .int .i64 0, .int .i64 0, .string ⟨#[]⟩] 37 (0, 0))) ∧ (w.heap.size ≤ s_) ∧ (w.heap.size ≤ s_) ∧ (g141 ≠ s_) ∧ (s_ ≠ g141) ∧ (g159 ≠ s_) ∧ (s_ ≠ g159) ∧ (Below w.heap.size w w')) ?_ ?_; rotate_left
 ·intro hCont; refine two_ (i := 2) (j := 6) (Ni := some 55) (Nj := some 18) (bs 8 31) (bs 8 91) rfl rfl rfl rfl (two_of HT_.out (by kernel_rfl)) (by decide) (by decide) (fun K hK => ?_) (fun K hK => ?_)
  ·skip
   refine goes_ func78 (by kernel_rfl) rfl #[.string t145] (by rfl) rfl rfl z5_ ?_
   with_reducible refine (qci_.calls k t145 t160 _ A7.out).mono ?_
   rintro e w' ⟨rfl, ⟨nd, rfl⟩⟩; refine ⟨_, rfl, ?_⟩; refine hK.out _ _ (bc4o K159.out) (fun qn_ => ?_); clear hK K; refine nrm_ 55 ?_
   refine pun_ 5 58 8 63 ?_; refine on_ 6 18 8 127 (fun K hK => ?_); refine box_step ?hg (N := 18) ?hd (cs := #[.string ⟨#[]⟩, .int .i64 0, .string ⟨#[]⟩, .string ⟨#[]⟩, .string ⟨#[]⟩, .int .i64 0, .int .i64 0, .string ⟨#[]⟩]) (t := 37) ?hr ?_; (case hd => rfl); (case hg => rfl); (case hr => first | (go_simp; done) | (go_simp; rfl))
   intro g161 hg w16 hbox hb; have K161 := qa_.mk (hbox); have W161 := qa_.mk ((by rw [hg]; exact (qj_ (hs_)) : w.heap.size ≤ g161)); have E161 := qa_.mk ((by rw [hg]; exact (qj_ (hs_)) : w.heap.size ≤ g161)); replace HB := hr_ hb; have N141_161 := qa_.mk (nl2_ hg K141.out); have N161_141 := qa_.mk (ng2_ hg K141.out); replace K141 := ab_ K141 hb; have N159_161 := qa_.mk (nl2_ hg K159.out); have N161_159 := qa_.mk (ng2_ hg K159.out); replace K159 := ab_ K159 hb; clear hb hbox hg; refine hK.out _ _ (bc4o K159.out) (fun qn_ => ?_); clear hK K; refine nrm_ 18 ?_
   exact norm_ (by simp only [putAll, Act.put, List.setIfInBounds_toArray, List.set_cons_zero, List.set_cons_succ]) (hCont (g161) _ ⟨qn_, (bk_ K141.out), (bk_ K159.out), (bk_ K161.out), W161.out, E161.out, N141_161.out, N161_141.out, N159_161.out, N161_159.out, (hs_)⟩)
  ·skip
   refine box_step ?hg (N := 18) ?hd (cs := #[.string ⟨#[]⟩, .int .i64 0, .string ⟨#[]⟩, .string ⟨#[]⟩, .string ⟨#[]⟩, .int .i64 0, .int .i64 0, .string ⟨#[]⟩]) (t := 37) ?hr ?_; (case hd => rfl); (case hg => rfl); (case hr => first | (go_simp; done) | (go_simp; rfl))
   intro g161 hg w16 hbox hb; have K161 := qa_.mk (hbox); have W161 := qa_.mk ((by rw [hg]; exact (qj_ (hs_)) : w.heap.size ≤ g161)); have E161 := qa_.mk ((by rw [hg]; exact (qj_ (hs_)) : w.heap.size ≤ g161)); replace HB := hr_ hb; have N141_161 := qa_.mk (nl2_ hg K141.out); have N161_141 := qa_.mk (ng2_ hg K141.out); replace K141 := ab_ K141 hb; have N159_161 := qa_.mk (nl2_ hg K159.out); have N161_159 := qa_.mk (ng2_ hg K159.out); replace K159 := ab_ K159 hb; clear hb hbox hg; refine hK.out _ _ (bc4o K159.out) (fun qn_ => ?_); clear hK K; refine nrm_ 18 ?_
   refine on_ 2 55 8 95 (fun K hK => ?_); refine goes_ func78 (by kernel_rfl) rfl #[.string t145] (by rfl) rfl rfl z5_ ?_
   with_reducible refine (qci_.calls k t145 t160 _ A7.out).mono ?_
   rintro e w' ⟨rfl, ⟨nd, rfl⟩⟩; refine ⟨_, rfl, ?_⟩; refine hK.out _ _ (bc4o K159.out) (fun qn_ => ?_); clear hK K; refine nrm_ 55 ?_
   refine pun_ 5 58 8 127 ?_; exact norm_ (by simp only [putAll, Act.put, List.setIfInBounds_toArray, List.set_cons_zero, List.set_cons_succ]) (hCont (g161) _ ⟨qn_, (bk_ K141.out), (bk_ K159.out), (bk_ K161.out), W161.out, E161.out, N141_161.out, N161_141.out, N159_161.out, N161_159.out, (hs_)⟩)
 rintro g161 w17 ⟨hS_, h0_, h1_, h2_, h3_, h4_, h5_, h6_, h7_, h8_, h9_⟩; have n0_ : qa_ (w17.heap[g141]? = some (.cells #[.string ⟨#[]⟩, .int .i64 0, .string ⟨#[]⟩, .string ⟨#[]⟩, .string ⟨#[]⟩, .int .i64 0, .int .i64 0, .string ⟨#[]⟩] 37 (0, 0))) := ⟨h0_⟩; have n1_ : qa_ (w17.heap[g159]? = some (.cells #[.string t154, .string t155, .int .i64 t156, .int .i64 t157] 24 (0, 0))) := ⟨h1_⟩; have n2_ : qa_ (w17.heap[g161]? = some (.cells #[.string ⟨#[]⟩, .int .i64 0, .string ⟨#[]⟩, .string ⟨#[]⟩, .string ⟨#[]⟩, .int .i64 0, .int .i64 0, .string ⟨#[]⟩] 37 (0, 0))) := ⟨h2_⟩; have n3_ : qa_ (w.heap.size ≤ g161) := ⟨h3_⟩; have n4_ : qa_ (w.heap.size ≤ g161) := ⟨h4_⟩; have n5_ : qa_ (g141 ≠ g161) := ⟨h5_⟩; have n6_ : qa_ (g161 ≠ g141) := ⟨h6_⟩; have n7_ : qa_ (g159 ≠ g161) := ⟨h7_⟩; have n8_ : qa_ (g161 ≠ g159) := ⟨h8_⟩; have n9_ : qa_ (Below w.heap.size w w17) := ⟨h9_⟩; clear K141; clear K159; clear HB; clear h0_ h1_ h2_ h3_ h4_ h5_ h6_ h7_ h8_ h9_; have K141 := n0_; have K159 := n1_; have K161 := n2_; have W161 := n3_; have E161 := n4_; have N141_161 := n5_; have N161_141 := n6_; have N159_161 := n7_; have N161_159 := n8_; have HB := n9_; clear n0_ n1_ n2_ n3_ n4_ n5_ n6_ n7_ n8_ n9_; have qn_ : w17.cell? ⟨g159, 0, none⟩ = some (.string t154) ∧ w17.cell? ⟨g159, 1, none⟩ = some (.string t155) ∧ w17.cell? ⟨g159, 2, none⟩ = some (.int .i64 t156) ∧ w17.cell? ⟨g159, 3, none⟩ = some (.int .i64 t157) := hS_; refine norm_ (a' := ?_) ?_ ?_; rotate_left
 ·simp only [putAll, Act.put, List.setIfInBounds_toArray, List.set_cons_zero, List.set_cons_succ]; rfl
 refine one_ (i := 7) (N := none) (bs 8 255) rfl rfl (one_of HT_.out (by kernel_rfl)) (by decide) (fun K hK => ?_); have hs18 : w17.cell? ⟨g161, 0, none⟩ = some (.string ⟨#[]⟩) := (qc_ K161.out 0).trans rfl; have hfs18 := qp_ K161.out 0; have hns18_0 := N141_161.out; have hns18_1 := N159_161.out; have hms18_0 := N161_141.out; have hms18_1 := N161_159.out; have hs19 : w17.cell? ⟨g161, 1, none⟩ = some (.int .i64 0) := (qc_ K161.out 1).trans rfl; have hfs19 := qp_ K161.out 1; have hns19_0 := N141_161.out; have hns19_1 := N159_161.out; have hms19_0 := N161_141.out; have hms19_1 := N161_159.out; have hs20 : w17.cell? ⟨g161, 2, none⟩ = some (.string ⟨#[]⟩) := (qc_ K161.out 2).trans rfl; have hfs20 := qp_ K161.out 2; have hns20_0 := N141_161.out; have hns20_1 := N159_161.out; have hms20_0 := N161_141.out; have hms20_1 := N161_159.out; have hs21 : w17.cell? ⟨g161, 3, none⟩ = some (.string ⟨#[]⟩) := (qc_ K161.out 3).trans rfl; have hfs21 := qp_ K161.out 3; have hns21_0 := N141_161.out; have hns21_1 := N159_161.out; have hms21_0 := N161_141.out; have hms21_1 := N161_159.out; have hs22 : w17.cell? ⟨g161, 4, none⟩ = some (.string ⟨#[]⟩) := (qc_ K161.out 4).trans rfl; have hfs22 := qp_ K161.out 4; have hns22_0 := N141_161.out; have hns22_1 := N159_161.out; have hms22_0 := N161_141.out; have hms22_1 := N161_159.out; have hs23 : w17.cell? ⟨g161, 5, none⟩ = some (.int .i64 0) := (qc_ K161.out 5).trans rfl; have hfs23 := qp_ K161.out 5; have hns23_0 := N141_161.out; have hns23_1 := N159_161.out; have hms23_0 := N161_141.out; have hms23_1 := N161_159.out; have hs24 : w17.cell? ⟨g161, 6, none⟩ = some (.int .i64 0) := (qc_ K161.out 6).trans rfl; have hfs24 := qp_ K161.out 6; have hns24_0 := N141_161.out; have hns24_1 := N159_161.out; have hms24_0 := N161_141.out; have hms24_1 := N161_159.out; have hs25 : w17.cell? ⟨g161, 7, none⟩ = some (.string ⟨#[]⟩) := (qc_ K161.out 7).trans rfl; have hfs25 := qp_ K161.out 7; have hns25_0 := N141_161.out; have hns25_1 := N159_161.out; have hms25_0 := N161_141.out; have hms25_1 := N161_159.out; refine skip_ (w1 := ?_) (by rfl) rfl ?_ ?_; rotate_left
 ·go_simp
  rfl
 refine hK.out _ _ ⟨((qq_ (p := ⟨g161, _, none⟩) N159_161.out _).trans (((qq_ (p := ⟨g161, _, none⟩) N159_161.out _).trans (((qq_ (p := ⟨g161, _, none⟩) N159_161.out _).trans (((qq_ (p := ⟨g161, _, none⟩) N159_161.out _).trans (((qq_ (p := ⟨g161, _, none⟩) N159_161.out _).trans (((qq_ (p := ⟨g161, _, none⟩) N159_161.out _).trans (((qq_ (p := ⟨g161, _, none⟩) N159_161.out _).trans (((qq_ (p := ⟨g161, _, none⟩) N159_161.out _).trans (qn_.1)))))))))))))))), ((qq_ (p := ⟨g161, _, none⟩) N159_161.out _).trans (((qq_ (p := ⟨g161, _, none⟩) N159_161.out _).trans (((qq_ (p := ⟨g161, _, none⟩) N159_161.out _).trans (((qq_ (p := ⟨g161, _, none⟩) N159_161.out _).trans (((qq_ (p := ⟨g161, _, none⟩) N159_161.out _).trans (((qq_ (p := ⟨g161, _, none⟩) N159_161.out _).trans (((qq_ (p := ⟨g161, _, none⟩) N159_161.out _).trans (((qq_ (p := ⟨g161, _, none⟩) N159_161.out _).trans (qn_.2.1)))))))))))))))), ((qq_ (p := ⟨g161, _, none⟩) N159_161.out _).trans (((qq_ (p := ⟨g161, _, none⟩) N159_161.out _).trans (((qq_ (p := ⟨g161, _, none⟩) N159_161.out _).trans (((qq_ (p := ⟨g161, _, none⟩) N159_161.out _).trans (((qq_ (p := ⟨g161, _, none⟩) N159_161.out _).trans (((qq_ (p := ⟨g161, _, none⟩) N159_161.out _).trans (((qq_ (p := ⟨g161, _, none⟩) N159_161.out _).trans (((qq_ (p := ⟨g161, _, none⟩) N159_161.out _).trans (qn_.2.2.1)))))))))))))))), ((qq_ (p := ⟨g161, _, none⟩) N159_161.out _).trans (((qq_ (p := ⟨g161, _, none⟩) N159_161.out _).trans (((qq_ (p := ⟨g161, _, none⟩) N159_161.out _).trans (((qq_ (p := ⟨g161, _, none⟩) N159_161.out _).trans (((qq_ (p := ⟨g161, _, none⟩) N159_161.out _).trans (((qq_ (p := ⟨g161, _, none⟩) N159_161.out _).trans (((qq_ (p := ⟨g161, _, none⟩) N159_161.out _).trans (((qq_ (p := ⟨g161, _, none⟩) N159_161.out _).trans (qn_.2.2.2))))))))))))))))⟩ (fun qn_ => ?_); clear hK K; refine dn_ ?_; go_upto_region 7 with (fail)
 go_cut [94] (fun v94 wc => ∃ (kq : Nat) (x94_7 : Bool), v94 = .bool x94_7 ∧ qa_ (qab_.j0 kq a0 t152 x94_7 t142 t160 t148 t154 t155 t156 t157 ⟨#[]⟩ = some (r1, r2, r3, r4, r5, r6, r7, r8, r9)) ∧ qa_ (kq ≤ k) ∧ qa_ (wc.heap[g141]? = some (.cells #[.string ⟨#[]⟩, .int .i64 0, .string ⟨#[]⟩, .string ⟨#[]⟩, .string ⟨#[]⟩, .int .i64 0, .int .i64 0, .string ⟨#[]⟩] 37 (0, 0))) ∧ qa_ (wc.heap[g159]? = some (.cells #[.string t154, .string t155, .int .i64 t156, .int .i64 t157] 24 (0, 0))) ∧ qa_ (wc.heap[g161]? = some (.cells #[.string t142, .int .i64 t160, .string t148, .string t154, .string t155, .int .i64 t156, .int .i64 t157, .string ⟨#[]⟩] 37 (0, 0))) ∧ qa_ (Below w.heap.size w wc))
 case first =>
  have H := HC8.out; clear HC8; by_cases c26 : t144 = true; rotate_left
  ·replace c26 := Bool.eq_false_iff.mpr c26; subst c26; rw [if_neg nft_] at H; have H' := qa_.mk H; clear H; go_wp2
   go_meet
   case rel => exact ⟨_, (true), z1_, H', ⟨z4_⟩, ⟨by have b_ := K141; have f_ := N141_161; exact zb_⟩, ⟨by have b_ := K159; have f_ := N159_161; exact zb_⟩, ⟨by have b_ := K161; exact zb_⟩, ⟨hs_⟩⟩
  subst c26; rw [if_pos rfl] at H; by_cases c27 : t147 = true; rotate_left
  ·replace c27 := Bool.eq_false_iff.mpr c27; subst c27; rw [if_neg nft_] at H; have H' := qa_.mk H; clear H; go_wp2
   go_meet
   case rel => exact ⟨_, (true), z1_, H', ⟨z4_⟩, ⟨by have b_ := K141; have f_ := N141_161; exact zb_⟩, ⟨by have b_ := K159; have f_ := N159_161; exact zb_⟩, ⟨by have b_ := K161; exact zb_⟩, ⟨hs_⟩⟩
  subst c27; rw [if_pos rfl] at H; by_cases c28 : t150 = true; rotate_left
  ·replace c28 := Bool.eq_false_iff.mpr c28; subst c28; rw [if_neg nft_] at H; have H' := qa_.mk H; clear H; go_wp2
   go_meet
   case rel => exact ⟨_, (true), z1_, H', ⟨z4_⟩, ⟨by have b_ := K141; have f_ := N141_161; exact zb_⟩, ⟨by have b_ := K159; have f_ := N159_161; exact zb_⟩, ⟨by have b_ := K161; exact zb_⟩, ⟨hs_⟩⟩
  subst c28; rw [if_pos rfl] at H; by_cases c29 : t158 = 0
  ·rw [if_pos c29] at H; have c29b0 := et_ c29; have c29b1 := nf_ c29; clear c29; (first | rw [c29b0] | (simp only [i64_w, i32_w]; rw [c29b0]) | skip); have H' := qa_.mk H; clear H; go_wp2
   go_meet
   case rel => exact ⟨_, (true), z1_, H', ⟨z4_⟩, ⟨by have b_ := K141; have f_ := N141_161; exact zb_⟩, ⟨by have b_ := K159; have f_ := N159_161; exact zb_⟩, ⟨by have b_ := K161; exact zb_⟩, ⟨hs_⟩⟩
  rw [if_neg c29] at H; have c29b0 := ef_ c29; have c29b1 := nt_ c29; (first | rw [c29b0] | (simp only [i64_w, i32_w]; rw [c29b0]) | skip); obtain ⟨t162, A30, H⟩ := bx_ H; by_cases c31 : t162 = true; rotate_left
  ·replace c31 := Bool.eq_false_iff.mpr c31; subst c31; rw [if_neg nft_] at H; have H' := qa_.mk H; clear H; go_wp2_with (first | (go_at_call 61; (with_reducible refine (qac_.calls k t142 false _ A30.out).mono ?_); rintro e w' ⟨rfl, ⟨nd, rfl⟩⟩)); go_meet
   case rel => exact ⟨_, (true), z1_, H', ⟨z4_⟩, ⟨by have b_ := K141; have f_ := N141_161; exact zb_⟩, ⟨by have b_ := K159; have f_ := N159_161; exact zb_⟩, ⟨by have b_ := K161; exact zb_⟩, ⟨hs_⟩⟩
  subst c31; rw [if_pos rfl] at H; by_cases c32 : t160 = 0
  ·rw [if_pos c32] at H; have c32b0 := et_ c32; have c32b1 := nf_ c32; clear c32; have H' := qa_.mk H; clear H; go_wp2_with (first | (go_at_call 61; (with_reducible refine (qac_.calls k t142 true _ A30.out).mono ?_); rintro e w' ⟨rfl, ⟨nd, rfl⟩⟩; have hnb33 := N161_141.out; have hnc33 := N141_161.out; have hnb34 := N161_159.out; have hnc34 := N159_161.out; obtain ⟨Z35_0, Z35_1, Z35_2, Z35_3, Z35_4, Z35_5, Z35_6, Z35_7, F35⟩ := bc8 K161.out)); go_meet
   case rel => exact ⟨_, (true), z1_, H', ⟨z4_⟩, ⟨by have b_ := K141; have f_ := N141_161; exact zb_⟩, ⟨by have b_ := K159; have f_ := N159_161; exact zb_⟩, ⟨by have b_ := K161; exact zb_⟩, ⟨hs_⟩⟩
  rw [if_neg c32] at H; have c32b0 := ef_ c32; have c32b1 := nt_ c32; by_cases c36 : t152 ≥ (a0.size : Int)
  ·rw [if_pos c36] at H; have c36b0 := dt_ c36; clear c36; have H' := qa_.mk H; clear H; go_wp2_with (first | (go_at_call 61; (with_reducible refine (qac_.calls k t142 true _ A30.out).mono ?_); rintro e w' ⟨rfl, ⟨nd, rfl⟩⟩; have hnb37 := N161_141.out; have hnc37 := N141_161.out; have hnb38 := N161_159.out; have hnc38 := N159_161.out; obtain ⟨Z39_0, Z39_1, Z39_2, Z39_3, Z39_4, Z39_5, Z39_6, Z39_7, F39⟩ := bc8 K161.out)); go_meet
   case rel => exact ⟨_, (true), z1_, H', ⟨z4_⟩, ⟨by have b_ := K141; have f_ := N141_161; exact zb_⟩, ⟨by have b_ := K159; have f_ := N159_161; exact zb_⟩, ⟨by have b_ := K161; exact zb_⟩, ⟨hs_⟩⟩
  rw [if_neg c36] at H; have c36b0 := df_ c36; clear c36; by_cases c40 : 0 ≤ t152; rotate_left
  ·rw [if_neg c40] at H; exact no_ H
  rw [if_pos c40] at H; have c40b0 := dt_ c40; clear c40; by_cases c41 : t152 < (a0.size : Int); rotate_left
  ·rw [if_neg c41] at H; exact no_ H
  rw [if_pos c41] at H; have c41b0 := dt_ c41; clear c41; have H' := qa_.mk H; clear H; go_wp2_with (first | (go_at_call 61; (with_reducible refine (qac_.calls k t142 true _ A30.out).mono ?_); rintro e w' ⟨rfl, ⟨nd, rfl⟩⟩; have hnb43 := N161_141.out; have hnc43 := N141_161.out; have hnb44 := N161_159.out; have hnc44 := N159_161.out; obtain ⟨Z45_0, Z45_1, Z45_2, Z45_3, Z45_4, Z45_5, Z45_6, Z45_7, F45⟩ := bc8 K161.out; have p42 : 0 ≤ (t152 : Int) := y0_; have q42 : t152 < (a0.size : Int) := y0_; have hx42 := bt_at a0 t152; replace p42 := eq_true p42; replace q42 := eq_true q42)); go_meet
  case rel => exact ⟨_, (((bt a0 t152) != 10)), z1_, H', ⟨z4_⟩, ⟨by have b_ := K141; have f_ := N141_161; exact zb_⟩, ⟨by have b_ := K159; have f_ := N159_161; exact zb_⟩, ⟨by have b_ := K161; exact zb_⟩, ⟨hs_⟩⟩
 case rest =>
  clear HC8; try clear c1
  try clear c2
  try clear p2
  try clear c3
  try clear c4
  try clear p4
  try clear q4
  try clear hx4
  try clear c7
  try clear c12
  try clear c24
  try clear c26
  try clear c27
  try clear c28
  try clear c29
  try clear c29b0
  try clear c29b1
  try clear c31
  try clear c32
  try clear c32b0
  try clear c32b1
  try clear c33
  try clear c34
  try clear c36
  try clear c36b0
  try clear c37
  try clear c38
  try clear c40
  try clear c40b0
  try clear c41
  try clear c41b0
  try clear p42
  try clear q42
  try clear hx42
  try clear c43
  try clear c44
  try clear Z13_0 Z13_1 Z13_2 Z13_3
  try clear Z35_0 Z35_1 Z35_2 Z35_3 Z35_4 Z35_5 Z35_6 Z35_7
  try clear Z39_0 Z39_1 Z39_2 Z39_3 Z39_4 Z39_5 Z39_6 Z39_7
  try clear Z45_0 Z45_1 Z45_2 Z45_3 Z45_4 Z45_5 Z45_6 Z45_7
  try clear F13
  try clear F35
  try clear F39
  try clear F45
  try clear p42
  try clear q42
  obtain ⟨kq, x94_7, rfl, HA, HJ7, K141, K159, K161, HB⟩ := hcut
  cases kq with
  | zero => exact absurd HA.out (by simp [qab_.j0])
  | succ kj7 =>
   have H := HA.out; clear HA; simp only [qab_.j0] at H; by_cases c46 : x94_7 = true
   ·subst c46; rw [if_pos rfl] at H; obtain ⟨rfl, rfl, rfl, rfl, rfl, rfl, rfl, rfl, rfl⟩ := pj9_ H; have hnb47 := N141_159.out; have hnc47 := N159_141.out; have hnb48 := N141_161.out; have hnc48 := N161_141.out; obtain ⟨Z49_0, Z49_1, Z49_2, Z49_3, Z49_4, Z49_5, Z49_6, Z49_7, F49⟩ := bc8 K141.out; go_wp2
    refine bodyPost_ret (qcq_ rfl _ _ g141 37 #[.string ⟨#[]⟩, .int .i64 0, .string ⟨#[]⟩, .string ⟨#[]⟩, .string ⟨#[]⟩, .int .i64 0, .int .i64 0, .string ⟨#[]⟩] (0, 0) _ rfl (by have b_ := K141; exact zb_) underlying37 rfl (by kernel_rfl)) rfl ?_; exact ⟨z3_, hs_⟩
   replace c46 := Bool.eq_false_iff.mpr c46; subst c46; rw [if_neg nft_] at H; obtain ⟨ji50, hji50⟩ : ∃ j_ : Int, (wrap64 (t152 + 1)) = j_ := ⟨_, rfl⟩; replace H : (if 0 ≤ (ji50) then (if (ji50) ≤ (a0.size : Int) then ((qu_.f kj7 t142 t160 t148 t154 t155 t156 t157 (a0.extract ((ji50) : Int).toNat a0.size)).bind fun t163 => (if t163 = 0 then (some (t142, t160, t148, t154, t155, t156, t157, a0.extract ((ji50) : Int).toNat a0.size, 0)) else (some ((⟨#[]⟩ : ByteArray), 0, (⟨#[]⟩ : ByteArray), (⟨#[]⟩ : ByteArray), (⟨#[]⟩ : ByteArray), 0, 0, (⟨#[]⟩ : ByteArray), t163)))) else (none)) else (none)) = some (r1, r2, r3, r4, r5, r6, r7, r8, r9) := by first | (rw [hji50] at H; exact H) | (simp only [hji50] at H ⊢; exact H)
   have hji50w : (IntKind.i64.wrap (t152 + 1)) = ji50 := (i64_w _).trans hji50; by_cases c51 : 0 ≤ (ji50); rotate_left
   ·rw [if_neg c51] at H; exact no_ H
   rw [if_pos c51] at H; have c51b0 := eq_true c51; have c51b1 := dt_ c51; clear c51; by_cases c52 : (ji50) ≤ (a0.size : Int); rotate_left
   ·rw [if_neg c52] at H; exact no_ H
   rw [if_pos c52] at H; have c52b0 := eq_true c52; have c52b1 := dt_ c52; clear c52; obtain ⟨t163, A53, H⟩ := bx_ H; by_cases c54 : t163 = 0; rotate_left
   ·rw [if_neg c54] at H; have c54b0 := ef_ c54; have c54b1 := nt_ c54; obtain ⟨rfl, rfl, rfl, rfl, rfl, rfl, rfl, rfl, rfl⟩ := pj9_ H; have hnb62 := N161_141.out; have hnc62 := N141_161.out; have hnb63 := N161_159.out; have hnc63 := N159_161.out; obtain ⟨Z64_0, Z64_1, Z64_2, Z64_3, Z64_4, Z64_5, Z64_6, Z64_7, F64⟩ := bc8 K161.out; go_wp2_with (first | ((with_reducible refine qb_ (f := 28) rfl ?_); refine goesL_ (some 102) rfl rfl func28 (by kernel_rfl) rfl #[.agg #[.string t142, .int .i64 t160, .string t148, .string t154, .string t155, .int .i64 t156, .int .i64 t157, .string (a0.extract ((ji50) : Int).toNat a0.size)]] rfl (by (try simp only [List.map_toArray, List.map_cons, List.map_nil]); first | done | (simp only [hji50]; rfl) | rfl | (simp only [List.length_drop, List.length_take]; rfl)) ?_; refine cm_ (qu_.calls kj7 t142 t160 t148 t154 t155 t156 t157 (a0.extract ((ji50) : Int).toNat a0.size) t163 _ A53.out) fun w65 hb => ?_; replace K141 := qa_.mk (qbk_ (g := g141) (o := .cells #[.string ⟨#[]⟩, .int .i64 0, .string ⟨#[]⟩, .string ⟨#[]⟩, .string ⟨#[]⟩, .int .i64 0, .int .i64 0, .string ⟨#[]⟩] 37 (0, 0)) (by have b_ := K141; have f_ := N141_161; exact zb_) hb); replace K159 := qa_.mk (qbk_ (g := g159) (o := .cells #[.string t154, .string t155, .int .i64 t156, .int .i64 t157] 24 (0, 0)) (by have b_ := K159; have f_ := N159_161; exact zb_) hb); replace K161 := qa_.mk (qbk_ (g := g161) (o := .cells #[.string t142, .int .i64 t160, .string t148, .string t154, .string t155, .int .i64 t156, .int .i64 t157, .string (a0.extract ((ji50) : Int).toNat a0.size)] 37 (0, 0)) (by have b_ := K161; exact zb_) hb); replace HB := hr_ hb; (try clear hb); (try clear hb2); (try clear hk); (try clear hi); have hnb66 := N141_159.out; have hnc66 := N159_141.out; obtain ⟨Z67_0, Z67_1, Z67_2, Z67_3, Z67_4, Z67_5, Z67_6, Z67_7, F67⟩ := bc8 K141.out)); refine bodyPost_ret (qcq_ rfl _ _ g141 37 #[.string ⟨#[]⟩, .int .i64 0, .string ⟨#[]⟩, .string ⟨#[]⟩, .string ⟨#[]⟩, .int .i64 0, .int .i64 0, .string ⟨#[]⟩] (0, 0) _ rfl (by have b_ := K141; exact zb_) underlying37 rfl (by kernel_rfl)) rfl ?_; exact ⟨by first | rfl | (simp [qbo_, qbp_] <;> rfl) | (simp only [← hji50]; first | rfl | (simp [qbo_, qbp_] <;> rfl)) | (simp [*, qbo_, qbp_] <;> rfl) | (simp [qby_]; done) | (simp [*, qby_]; done), hs_⟩
   rw [if_pos c54] at H; have c54b0 := et_ c54; have c54b1 := nf_ c54; clear c54; obtain ⟨rfl, rfl, rfl, rfl, rfl, rfl, rfl, rfl, rfl⟩ := pj9_ H; have hnb55 := N161_141.out; have hnc55 := N141_161.out; have hnb56 := N161_159.out; have hnc56 := N159_161.out; obtain ⟨Z57_0, Z57_1, Z57_2, Z57_3, Z57_4, Z57_5, Z57_6, Z57_7, F57⟩ := bc8 K161.out; go_wp2_with (first | ((with_reducible refine qb_ (f := 28) rfl ?_); refine goesL_ (some 102) rfl rfl func28 (by kernel_rfl) rfl #[.agg #[.string t142, .int .i64 t160, .string t148, .string t154, .string t155, .int .i64 t156, .int .i64 t157, .string (a0.extract ((ji50) : Int).toNat a0.size)]] rfl (by (try simp only [List.map_toArray, List.map_cons, List.map_nil]); first | done | (simp only [hji50]; rfl) | rfl | (simp only [List.length_drop, List.length_take]; rfl)) ?_; refine cm_ (qu_.calls kj7 t142 t160 t148 t154 t155 t156 t157 (a0.extract ((ji50) : Int).toNat a0.size) t163 _ A53.out) fun w58 hb => ?_; replace K141 := qa_.mk (qbk_ (g := g141) (o := .cells #[.string ⟨#[]⟩, .int .i64 0, .string ⟨#[]⟩, .string ⟨#[]⟩, .string ⟨#[]⟩, .int .i64 0, .int .i64 0, .string ⟨#[]⟩] 37 (0, 0)) (by have b_ := K141; have f_ := N141_161; exact zb_) hb); replace K159 := qa_.mk (qbk_ (g := g159) (o := .cells #[.string t154, .string t155, .int .i64 t156, .int .i64 t157] 24 (0, 0)) (by have b_ := K159; have f_ := N159_161; exact zb_) hb); replace K161 := qa_.mk (qbk_ (g := g161) (o := .cells #[.string t142, .int .i64 t160, .string t148, .string t154, .string t155, .int .i64 t156, .int .i64 t157, .string (a0.extract ((ji50) : Int).toNat a0.size)] 37 (0, 0)) (by have b_ := K161; exact zb_) hb); replace HB := hr_ hb; (try clear hb); (try clear hb2); (try clear hk); (try clear hi); obtain ⟨Z59_0, Z59_1, Z59_2, Z59_3, Z59_4, Z59_5, Z59_6, Z59_7, F59⟩ := bc8 K161.out; have hnb60 := N141_159.out; have hnc60 := N159_141.out; obtain ⟨Z61_0, Z61_1, Z61_2, Z61_3, Z61_4, Z61_5, Z61_6, Z61_7, F61⟩ := bc8 K141.out)); refine bodyPost_ret (qcq_ rfl _ _ g141 37 #[.string t142, .int .i64 t160, .string t148, .string t154, .string t155, .int .i64 t156, .int .i64 t157, .string (a0.extract ((ji50) : Int).toNat a0.size)] (0, 0) _ rfl (by have b_ := K141; exact zb_) underlying37 rfl (by kernel_rfl)) rfl ?_; exact ⟨by first | rfl | (simp [qbo_, qbp_] <;> rfl) | (simp only [← hji50]; first | rfl | (simp [qbo_, qbp_] <;> rfl)) | (simp [*, qbo_, qbp_] <;> rfl) | (simp [qby_]; done) | (simp [*, qby_]; done), hs_⟩
def qcb_.f (a0 : Int) : Option (ByteArray) := if a0 = 1 then (some (⟨#[49, 48, 48, 54, 52, 52, 32]⟩ : ByteArray)) else (if a0 = 2 then (some (⟨#[49, 48, 48, 55, 53, 53, 32]⟩ : ByteArray)) else (if a0 = 3 then (some (⟨#[49, 50, 48, 48, 48, 48, 32]⟩ : ByteArray)) else (some (⟨#[52, 48, 48, 48, 48, 32]⟩ : ByteArray))))
theorem qcb_.calls (a0 : Int) (r : ByteArray) (w : World) (h : qcb_.f a0 = some r) :
  Calls Tryz.prog 195 #[.int .i64 a0] w fun e w' => e = .returned (.string r) ∧ Drawn0 w w' := by
 unfold qcb_.f at h; have H := h; clear h; by_cases c2 : a0 = 1
 ·rw [if_pos c2] at H; have c2b0 := et_ c2; have c2b1 := nf_ c2; clear c2; obtain rfl := oi_ H; go_enter func195, ntmps195; go_wp2
  go_ret
  exact ⟨z1_, z2_⟩
 rw [if_neg c2] at H; have c2b0 := ef_ c2; have c2b1 := nt_ c2; by_cases c3 : a0 = 2
 ·rw [if_pos c3] at H; have c3b0 := et_ c3; have c3b1 := nf_ c3; clear c3; obtain rfl := oi_ H; go_enter func195, ntmps195; go_wp2
  go_ret
  exact ⟨z1_, z2_⟩
 rw [if_neg c3] at H; have c3b0 := ef_ c3; have c3b1 := nt_ c3; by_cases c4 : a0 = 3; rotate_left
 ·rw [if_neg c4] at H; have c4b0 := ef_ c4; have c4b1 := nt_ c4; obtain rfl := oi_ H; go_enter func195, ntmps195; go_wp2
  go_ret
  exact ⟨z1_, z2_⟩
 rw [if_pos c4] at H; have c4b0 := et_ c4; have c4b1 := nf_ c4; clear c4; obtain rfl := oi_ H; go_enter func195, ntmps195; go_wp2
 go_ret
 exact ⟨z1_, z2_⟩
def qak_.l0 : Nat → ByteArray → Int → Int → Option (Int)
 | 0, _, _, _ => none
 | k + 1, x0, x1, x7 => if x7 < (x0.size : Int) then (if 0 ≤ x7 then (if (bt x0 x7) = x1 then (some x7) else (qak_.l0 k x0 x1 (wrap64 (x7 + 1)))) else (none)) else (some (-1))
def qak_.f (k : Nat) (a0 : ByteArray) (a1 : Int) (a2 : Int) : Option (Int) := qak_.l0 k a0 a1 a2
theorem qak_.mono_l : ∀ k, (∀ y0 y1 y2, LeO (qak_.l0 k y0 y1 y2) (qak_.l0 (k + 1) y0 y1 y2))
 | 0 => fun _ _ _ r h => by simp [qak_.l0] at h
 | k + 1 => by
  have ih0 := qak_.mono_l k
  ·intro y0 y1 y2
   unfold qak_.l0
   have m0_ := @ih0
   exact mz_
theorem qak_.mono : ∀ a0 a1 a2 k, LeO (qak_.f k a0 a1 a2) (qak_.f (k + 1) a0 a1 a2) := by
 intro a0 a1 a2 k; have ih0 := qak_.mono_l k; unfold qak_.f; have m0_ := @ih0; exact mz_
theorem qak_.calls (k : Nat) (a0 : ByteArray) (a1 : Int) (a2 : Int) (r : Int) (w : World) (h : qak_.f k a0 a1 a2 = some r) :
  Calls Tryz.prog 196 #[.string a0, .int .u8 a1, .int .i64 a2] w fun e w' => e = .returned (.int .i64 r) ∧ Drawn0 w w' := by
 unfold qak_.f at h; have H := h; clear h; have H' := qa_.mk H; clear H; go_enter func196, ntmps196; go_wp2
 go_loopg [7] k (fun kq v7 w' => ∃ (x7_1 : Int), v7 = .int .i64 x7_1 ∧ qa_ (qak_.l0 kq a0 a1 x7_1 = some r) ∧ qa_ (kq ≤ k) ∧ Drawn0 w w')
 case atStart => exact ⟨(a2), z1_, H', ⟨Nat.le_refl _⟩, z2_⟩
 case round =>
  clear H'; try clear c1
  try clear p2
  obtain ⟨x7_1, rfl, HA, HK1, ⟨m1, rfl⟩⟩ := hrel
  cases gk with
  | zero => exact absurd HA.out (by simp [qak_.l0])
  | succ k1 =>
   have H := HA.out; clear HA; simp only [qak_.l0] at H; by_cases c4 : x7_1 < (a0.size : Int); rotate_left
   ·rw [if_neg c4] at H; have c4b0 := df_ c4; clear c4; obtain rfl := oi_ H; go_wp2
    go_ret
    exact ⟨z1_, z2_⟩
   rw [if_pos c4] at H; have c4b0 := dt_ c4; clear c4; by_cases c5 : 0 ≤ x7_1; rotate_left
   ·rw [if_neg c5] at H; exact no_ H
   rw [if_pos c5] at H; have c5b0 := dt_ c5; clear c5; by_cases c7 : (bt a0 x7_1) = a1
   ·rw [if_pos c7] at H; have c7b0 := et_ c7; have c7b1 := nf_ c7; clear c7; obtain rfl := oi_ H; have p6 : 0 ≤ (x7_1 : Int) := y0_; have q6 : x7_1 < (a0.size : Int) := y0_; have hx6 := bt_at a0 x7_1; replace p6 := eq_true p6; replace q6 := eq_true q6; go_wp2
    go_ret
    exact ⟨z1_, z2_⟩
   rw [if_neg c7] at H; have c7b0 := ef_ c7; have c7b1 := nt_ c7; have H' := qa_.mk H; clear H; have p6 : 0 ≤ (x7_1 : Int) := y0_; have q6 : x7_1 < (a0.size : Int) := y0_; have hx6 := bt_at a0 x7_1; replace p6 := eq_true p6; replace q6 := eq_true q6; go_wp2
   go_roundg k1
   case measure => have := HK1.out; omega
   case rel => exact ⟨(wrap64 (x7_1 + 1)), z1_, H', ⟨by have := HK1.out; omega⟩, z2_⟩
end
section
open Go.Lib
section
variable {P : Program}
end
theorem qhn_ {α : Type} {R : α → List Value → Prop} {size : Nat} {ps qs : List α} {cs ds : List Value} (h : Reps R size ps cs) (k : Reps R size qs ds) : Reps R size (ps ++ qs) (cs ++ ds) := by
  refine ⟨by rw [List.length_append, List.length_append, h.1, k.1, Nat.add_mul], fun j p hj => ?_⟩
  rcases Nat.lt_or_ge j ps.length with hlt | hge
  · rw [List.getElem?_append_left hlt] at hj
    have hle : j * size + size ≤ cs.length := by rw [h.1, ← Nat.succ_mul]; exact Nat.mul_le_mul_right _ hlt
    rw [List.drop_append_of_le_length (by omega), List.take_append_of_le_length (by rw [List.length_drop]; omega)]
    exact h.2 j p hj
  · rw [List.getElem?_append_right hge] at hj
    have e : j * size = cs.length + (j - ps.length) * size := by rw [h.1, ← Nat.add_mul]; congr 1; omega
    rw [e, List.drop_append, List.drop_of_length_le (by omega : cs.length ≤ cs.length + (j - ps.length) * size), List.nil_append]
    rw [show cs.length + (j - ps.length) * size - cs.length = (j - ps.length) * size by omega]
    exact k.2 _ p hj
theorem u8w_ (x : Int) : IntKind.u8.wrap x = x % 256 := by rw [IntKind.wrap]; simp [IntKind.signed, IntKind.bits]
section
variable {P : Program} {ops : Array Oper} {rest : List Oper} {o : Oper} {a : Act} {Q : Exit → Act → World → Prop} {α : Type}
theorem R_makecap (d : Kd α) {w0 W : World} (base e : Nat) (hgd : o.guard = none) {N : Tmp} (_hd : o.dst = some N) (t : TypeId) (x y : Operand) (ho : o.op = .makeSlice t x y) (n : Int) (hx : a.eval x = .int .i64 0) (hy : a.eval y = .int .i64 n)
    (ht : P.underlying t = some (.slice e)) (z : Value) (bytes : Nat) (hinfo : (P.info? e).map (fun i => (i.zero, i.size, i.bytes)) = some (some z, d.sz, bytes)) (hz : z.cells.size = d.sz) (hb0 : 0 < bytes)
    {ok : Nat → Prop} (hfresh : ok W.heap.size) (h0 : 0 ≤ n) (hl : n.toNat * bytes ≤ 281474976710656) (HB : Below base w0 W) (hbase : base ≤ W.heap.size)
    (h : ∀ v1 w1, d.R e w1 base ok v1 [] → Below base w0 w1 → W.grownBy w1 none → (∃ b, v1.ownBlock = some b ∧ W.heap.size ≤ b) → wpList P ops Q rest (a.put o.dst v1) w1) : wpList P ops Q (o :: rest) a W := by
  obtain ⟨m, rfl⟩ := Int.eq_ofNat_of_zero_le h0
  simp only [Int.toNat_natCast] at hl
  obtain ⟨i0, hi, hzz⟩ := Option.map_eq_some_iff.1 hinfo
  simp only [Prod.mk.injEq] at hzz
  obtain ⟨hz0, hz1, hz2⟩ := hzz
  have hm : m ≤ 281474976710656 := Nat.le_trans (Nat.le_mul_of_pos_right _ hb0) hl
  have hr := run_make (P := P) W t e i0 z ht hi hz0 .i64 .i64 0 (m : Int) (by omega) (by omega)
    (by
      have h3 : ((i0.bytes * m : Nat) : Int) ≤ 281474976710656 := by rw [hz2, Nat.mul_comm]; omega
      rwa [Int.natCast_mul] at h3) (by omega)
  simp only [Int.toNat_natCast] at hr
  rw [hz1] at hr
  refine Kd.event_run hgd (v := .slice (some ⟨W.heap.size, 0, none⟩) 0 m) (w1 := W.alloc (.cells (madeCells z.cells (m * d.sz)) e)) (by simp [execOp, ho, hx, hy, hr]) (h _ _ ⟨fun k hk => ?_, [], ?_, ⟨by simp, fun j p hj => by simp at hj⟩⟩ (HB.alloc hbase _) (World.grownBy_alloc W _ none) ⟨W.heap.size, by simp [Value.ownBlock], Nat.le_refl _⟩)
  · have : W.heap.size = k := by simpa [Value.ownBlock] using hk
    subst this
    exact hfresh
  · exact World.ownsRow_made W (madeCells z.cells (m * d.sz)) m hbase (by unfold maxLen; omega) (by simp [madeCells])
end
section
variable {P : Program} {ops : Array Oper} {o : Oper} {a : Act} {Q : Exit → Act → World → Prop} {Kc : Act → World → Prop}
end
end
section
attribute [local go_sem] qen_ qem_ qey_ qex_ qee_ qeg_ qel_ qek_
def qx_.l0 : Nat → ByteArray → ByteArray → List Int → Int → Option (ByteArray)
 | 0, _, _, _, _ => none
 | k + 1, x0, x3, x4, x5 => if x5 < (x0.size : Int) then (if 0 ≤ x5 then (if 0 ≤ ((Int.tdiv (bt x0 x5) 16) % 256) then (if ((Int.tdiv (bt x0 x5) 16) % 256) < (x3.size : Int) then (if 0 ≤ (Int.tmod (bt x0 x5) 16) then (if (Int.tmod (bt x0 x5) 16) < (x3.size : Int) then ((some (([bt x3 ((Int.tdiv (bt x0 x5) 16) % 256), bt x3 (Int.tmod (bt x0 x5) 16)] : List Int) : List Int)).bind fun y199 => (if x4.length + y199.length < 140737488355328 then (qx_.l0 k x0 x3 (x4 ++ y199) (wrap64 (x5 + 1))) else (none))) else (none)) else (none)) else (none)) else (none)) else (none)) else (some (strOfNums x4))
def qx_.f (k : Nat) (a0 : ByteArray) : Option (ByteArray) := qx_.l0 k a0 ⟨#[48, 49, 50, 51, 52, 53, 54, 55, 56, 57, 97, 98, 99, 100, 101, 102]⟩ (([] : List Int)) 0
theorem qx_.mono_l : ∀ k, (∀ y0 y1 y2 y3, LeO (qx_.l0 k y0 y1 y2 y3) (qx_.l0 (k + 1) y0 y1 y2 y3))
 | 0 => fun _ _ _ _ r h => by simp [qx_.l0] at h
 | k + 1 => by
  have ih0 := qx_.mono_l k
  ·intro y0 y1 y2 y3
   unfold qx_.l0
   have m0_ := @ih0
   exact mz_
theorem qx_.mono : ∀ a0 k, LeO (qx_.f k a0) (qx_.f (k + 1) a0) := by
 intro a0 k; have ih0 := qx_.mono_l k; unfold qx_.f; have m0_ := @ih0; exact mz_
def qx_.T6 : Bool × List (List Nat × List Nat) := (true, [([], []), ([], []), ([], []), ([], []), ([2, 3], [2, 3]), ([4], [4]), ([1, 5], [1, 5]), ([], []), ([], []), ([], []), ([8, 9], [8, 9]), ([10], [10]), ([7, 11], [7, 11]), ([6, 12], [6, 12]), ([0, 13], [0, 13]), ([14, 14, 0, 1, 2, 3, 4, 5, 6, 7, 8, 9, 10, 11, 12, 13, 14], [0, 14])])
def qx_.B6 : List Nat := [0, 0, 0, 0, 12, 28, 62, 0, 0, 0, 768, 1792, 3968, 8190, 16383, 32767]
theorem qx_.tab6 : rtab .any (opsOf Tryz.f197 6) = qx_.T6 := by kernel_rfl
theorem qx_.bits6 : qdu_ qx_.T6.2 qx_.B6 = true := by kernel_rfl
theorem qx_.calls (k : Nat) (a0 : ByteArray) (r : ByteArray) (w : World) (h : qx_.f k a0 = some r) :
  Calls Tryz.prog 197 #[.string a0] w fun e w' => e = .returned (.string r) ∧ Below w.heap.size w w' := by
 have HB := qa_.mk (Below.refl w.heap.size w); unfold qx_.f at h; have H := h; clear h; obtain ⟨y196, hy196⟩ : ∃ y_ : List Int, y_ = (([] : List Int)) := ⟨_, rfl⟩; replace H : (qx_.l0 k a0 ⟨#[48, 49, 50, 51, 52, 53, 54, 55, 56, 57, 97, 98, 99, 100, 101, 102]⟩ y196 0) = some r := by first | (rw [hy196]; with_reducible exact H) | (have H2_ := (Option.bind_some _ _).symm.trans H; rw [hy196]; with_reducible exact H2_) | (have H2_ := (Option.bind_some _ _).symm.trans H; with_reducible exact H2_) | with_reducible exact H | (rw [hy196]; exact H) | exact H
 have Ny196 := qa_.mk hy196; clear hy196; have H' := qa_.mk H; clear H; go_enter func197, ntmps197; go_wp2_with (first | ((with_reducible refine qh_ (N := 6) rfl ?_); refine Kd.R_lit (Kd.int .u8) _ 5 ?hg (N := 6) ?hd (xs := ([] : List Int)) (inner := []) (ok := fun _ => True) (okp := fun _ => True) ?hr ?hp (fun _ hk => hk) trivial (Below.refl _ _) (Nat.le_refl _) (by simp) ?_; (case hd => rfl); (case hg => rfl); (case hr => first | (go_simp; done) | (go_simp; rfl)); (case hp => exact (Reps.none _ _)); intro v197 w2 ho3 hb hg_ hnew_; clear hg_ hnew_; (first | rw [← Ny196.out] at ho3 | (simp only [Int.reduceToNat] at ho3; rw [← Ny196.out] at ho3)); have HO198 := qa_.mk (Kd.R_lower ho3 (qj_ (hb_ HB.out))); replace HB := ah_ HB hb; clear hb ho3)); go_loopg [4, 5] k (fun kq v4 v5 w' => ∃ (x4_1 : List Int) (x5_1 : Int), v5 = .int .i64 x5_1 ∧ qa_ (qx_.l0 kq a0 ⟨#[48, 49, 50, 51, 52, 53, 54, 55, 56, 57, 97, 98, 99, 100, 101, 102]⟩ x4_1 x5_1 = some r) ∧ qa_ (kq ≤ k) ∧ qa_ (Kd.R (Kd.int .u8) 5 w' w.heap.size (fun _ => True) v4 x4_1) ∧ qa_ (Below w.heap.size w w'))
 case atStart => exact ⟨(y196), (0), z1_, H', ⟨Nat.le_refl _⟩, ⟨by (with_reducible repeat (first | apply Kd.R_alloc | apply Kd.R_drewN | apply Kd.R_drew)); exact HO198.out⟩, ⟨hb_ HB.out⟩⟩
 case round =>
  clear H'; try clear c1
  try clear p2
  obtain ⟨x4_1, x5_1, rfl, HA, HK1, HO_4, HB⟩ := hrel
  cases gk with
  | zero => exact absurd HA.out (by simp [qx_.l0])
  | succ k1 =>
   have H := HA.out; clear HA; simp only [qx_.l0] at H; by_cases c4 : x5_1 < (a0.size : Int); rotate_left
   ·rw [if_neg c4] at H; have c4b0 := df_ c4; clear c4; obtain rfl := oi_ H; have hcv22 := qgv_ (P := Tryz.prog) underlying103 underlying5 underlying9 (Kd.own_of_R HO_4.out); go_wp2
    go_ret
    exact ⟨z3_, hb_ HB.out⟩
   rw [if_pos c4] at H; have c4b0 := dt_ c4; clear c4; by_cases c5 : 0 ≤ x5_1; rotate_left
   ·rw [if_neg c5] at H; exact no_ H
   rw [if_pos c5] at H; have c5b0 := dt_ c5; clear c5; obtain ⟨ji7, hji7⟩ : ∃ j_ : Int, ((Int.tdiv (bt a0 x5_1) 16) % 256) = j_ := ⟨_, rfl⟩; replace H : (if 0 ≤ (ji7) then (if (ji7) < ((⟨#[48, 49, 50, 51, 52, 53, 54, 55, 56, 57, 97, 98, 99, 100, 101, 102]⟩ : ByteArray).size : Int) then (if 0 ≤ (Int.tmod (bt a0 x5_1) 16) then (if (Int.tmod (bt a0 x5_1) 16) < ((⟨#[48, 49, 50, 51, 52, 53, 54, 55, 56, 57, 97, 98, 99, 100, 101, 102]⟩ : ByteArray).size : Int) then ((some (([bt ⟨#[48, 49, 50, 51, 52, 53, 54, 55, 56, 57, 97, 98, 99, 100, 101, 102]⟩ (ji7), bt ⟨#[48, 49, 50, 51, 52, 53, 54, 55, 56, 57, 97, 98, 99, 100, 101, 102]⟩ (Int.tmod (bt a0 x5_1) 16)] : List Int) : List Int)).bind fun y199 => (if x4_1.length + y199.length < 140737488355328 then (qx_.l0 k1 a0 ⟨#[48, 49, 50, 51, 52, 53, 54, 55, 56, 57, 97, 98, 99, 100, 101, 102]⟩ (x4_1 ++ y199) (wrap64 (x5_1 + 1))) else (none))) else (none)) else (none)) else (none)) else (none)) = some r := by first | (rw [hji7] at H; exact H) | (simp only [hji7] at H ⊢; exact H)
   have hji7w : (IntKind.u8.wrap (Int.tdiv (bt a0 x5_1) 16)) = ji7 := by first | exact hji7 | (rw [u8w_]; exact hji7)
   by_cases c8 : 0 ≤ (ji7); rotate_left
   ·rw [if_neg c8] at H; exact no_ H
   rw [if_pos c8] at H; have c8b0 := dt_ c8; clear c8; by_cases c9 : (ji7) < ((⟨#[48, 49, 50, 51, 52, 53, 54, 55, 56, 57, 97, 98, 99, 100, 101, 102]⟩ : ByteArray).size : Int); rotate_left
   ·rw [if_neg c9] at H; exact no_ H
   rw [if_pos c9] at H; have c9b0 := dt_ c9; clear c9; obtain ⟨ji12, hji12⟩ : ∃ j_ : Int, (Int.tmod (bt a0 x5_1) 16) = j_ := ⟨_, rfl⟩; replace H : (if 0 ≤ (ji12) then (if (ji12) < ((⟨#[48, 49, 50, 51, 52, 53, 54, 55, 56, 57, 97, 98, 99, 100, 101, 102]⟩ : ByteArray).size : Int) then ((some (([bt ⟨#[48, 49, 50, 51, 52, 53, 54, 55, 56, 57, 97, 98, 99, 100, 101, 102]⟩ (ji7), bt ⟨#[48, 49, 50, 51, 52, 53, 54, 55, 56, 57, 97, 98, 99, 100, 101, 102]⟩ (ji12)] : List Int) : List Int)).bind fun y199 => (if x4_1.length + y199.length < 140737488355328 then (qx_.l0 k1 a0 ⟨#[48, 49, 50, 51, 52, 53, 54, 55, 56, 57, 97, 98, 99, 100, 101, 102]⟩ (x4_1 ++ y199) (wrap64 (x5_1 + 1))) else (none))) else (none)) else (none)) = some r := by first | (rw [hji12] at H; exact H) | (simp only [hji12] at H ⊢; exact H)
   by_cases c13 : 0 ≤ (ji12); rotate_left
   ·rw [if_neg c13] at H; exact no_ H
   rw [if_pos c13] at H; have c13b0 := dt_ c13; clear c13; by_cases c14 : (ji12) < ((⟨#[48, 49, 50, 51, 52, 53, 54, 55, 56, 57, 97, 98, 99, 100, 101, 102]⟩ : ByteArray).size : Int); rotate_left
   ·rw [if_neg c14] at H; exact no_ H
   rw [if_pos c14] at H; have c14b0 := dt_ c14; clear c14; obtain ⟨y199, hy199⟩ : ∃ y_ : List Int, y_ = (([bt ⟨#[48, 49, 50, 51, 52, 53, 54, 55, 56, 57, 97, 98, 99, 100, 101, 102]⟩ (ji7), bt ⟨#[48, 49, 50, 51, 52, 53, 54, 55, 56, 57, 97, 98, 99, 100, 101, 102]⟩ (ji12)] : List Int)) := ⟨_, rfl⟩; replace H : (if x4_1.length + y199.length < 140737488355328 then (qx_.l0 k1 a0 ⟨#[48, 49, 50, 51, 52, 53, 54, 55, 56, 57, 97, 98, 99, 100, 101, 102]⟩ (x4_1 ++ y199) (wrap64 (x5_1 + 1))) else (none)) = some r := by first | (rw [hy199]; with_reducible exact H) | (have H2_ := (Option.bind_some _ _).symm.trans H; rw [hy199]; with_reducible exact H2_) | (have H2_ := (Option.bind_some _ _).symm.trans H; with_reducible exact H2_) | with_reducible exact H | (rw [hy199]; exact H) | exact H
   have Ny199 := qa_.mk hy199; clear hy199; by_cases c16 : x4_1.length + y199.length < 140737488355328; rotate_left
   ·rw [if_neg c16] at H; exact no_ H
   rw [if_pos c16] at H; have LMc16 := qa_.mk c16; clear c16; obtain ⟨y202, hy202⟩ : ∃ y_ : List Int, y_ = (x4_1 ++ y199) := ⟨_, rfl⟩; replace H : (qx_.l0 k1 a0 ⟨#[48, 49, 50, 51, 52, 53, 54, 55, 56, 57, 97, 98, 99, 100, 101, 102]⟩ y202 (wrap64 (x5_1 + 1))) = some r := by first | (rw [hy202]; with_reducible exact H) | (have H2_ := (Option.bind_some _ _).symm.trans H; rw [hy202]; with_reducible exact H2_) | (have H2_ := (Option.bind_some _ _).symm.trans H; with_reducible exact H2_) | with_reducible exact H | (rw [hy202]; exact H) | exact H
   have Ny202 := qa_.mk hy202; clear hy202; have H' := qa_.mk H; clear H; try go_wp2
   replace HO_4 := qa_.mk (Kd.R_drew HO_4.out); replace HB := hd_ HB; have p6 : 0 ≤ (x5_1 : Int) := y0_; have q6 : x5_1 < (a0.size : Int) := y0_; have hx6 := bt_at a0 x5_1; replace p6 := eq_true p6; replace q6 := eq_true q6; have p10 : 0 ≤ ((ji7) : Int) := y0_; have q10 : (ji7) < (16 : Int) := y0_; have hx10 := bt_at ⟨#[48, 49, 50, 51, 52, 53, 54, 55, 56, 57, 97, 98, 99, 100, 101, 102]⟩ (ji7); replace p10 := eq_true p10; replace q10 := eq_true q10; have p11 : 0 ≤ (x5_1 : Int) := y0_; have q11 : x5_1 < (a0.size : Int) := y0_; have hx11 := bt_at a0 x5_1; replace p11 := eq_true p11; replace q11 := eq_true q11; have p15 : 0 ≤ ((ji12) : Int) := y0_; have q15 : (ji12) < (16 : Int) := y0_; have hx15 := bt_at ⟨#[48, 49, 50, 51, 52, 53, 54, 55, 56, 57, 97, 98, 99, 100, 101, 102]⟩ (ji12); replace p15 := eq_true p15; replace q15 := eq_true q15; refine qdm_ (n := 16) (S := fun w' => True) (ds := []) (bs 16 0) (by kernel_rfl) rfl rfl trivial (fun qn_ => ?_); refine qdg_ qx_.tab6 qx_.bits6 (fun HT_ HW_ => ?_); generalize wr.drew = w17 at HO_4 HB qn_ ⊢; refine pun_ 0 13 16 1 ?_; refine pun_ 1 14 16 3 ?_; refine pun_ 2 15 16 7 ?_; refine pun_ 3 16 16 15 ?_; refine pun_ 7 20 16 143 ?_; refine pun_ 8 21 16 399 ?_; refine pun_ 9 22 16 911 ?_; refine tkW0n_ 4 17 16 927 qn_ ?_; refine pun_ 5 18 16 959 ?_; refine tkW0n_ 6 19 16 1023 qn_ ?_; refine tkW0n_ 10 23 16 2047 qn_ ?_; refine pun_ 11 24 16 4095 ?_; refine tkW0n_ 12 25 16 8191 qn_ ?_; refine on_ 13 26 16 16383 (fun K hK => ?_); refine Kd.R_lit_step (Kd.int .u8) _ 5 ?hg (N := 26) ?hd (xs := ([bt ⟨#[48, 49, 50, 51, 52, 53, 54, 55, 56, 57, 97, 98, 99, 100, 101, 102]⟩ (ji7), bt ⟨#[48, 49, 50, 51, 52, 53, 54, 55, 56, 57, 97, 98, 99, 100, 101, 102]⟩ (ji12)] : List Int)) (inner := [.int .u8 (bt ⟨#[48, 49, 50, 51, 52, 53, 54, 55, 56, 57, 97, 98, 99, 100, 101, 102]⟩ (ji7)), .int .u8 (bt ⟨#[48, 49, 50, 51, 52, 53, 54, 55, 56, 57, 97, 98, 99, 100, 101, 102]⟩ (ji12))]) (ok := fun _ => True) (okp := fun _ => True) ?hr ?hp (fun _ hk => hk) trivial (Below.refl _ _) (Nat.le_refl _) (by simp) ?_; (case hd => rfl); (case hg => rfl); (case hr => first | (go_simp; done) | (go_simp; rfl)); (case hp => exact (Reps.one (show Kd.M (Kd.int .u8) _ _ _ (bt ⟨#[48, 49, 50, 51, 52, 53, 54, 55, 56, 57, 97, 98, 99, 100, 101, 102]⟩ (ji7)) [.int .u8 (bt ⟨#[48, 49, 50, 51, 52, 53, 54, 55, 56, 57, 97, 98, 99, 100, 101, 102]⟩ (ji7))] from rfl) (Reps.one (show Kd.M (Kd.int .u8) _ _ _ (bt ⟨#[48, 49, 50, 51, 52, 53, 54, 55, 56, 57, 97, 98, 99, 100, 101, 102]⟩ (ji12)) [.int .u8 (bt ⟨#[48, 49, 50, 51, 52, 53, 54, 55, 56, 57, 97, 98, 99, 100, 101, 102]⟩ (ji12))] from rfl) (Reps.none _ _))))
   intro v200 w18 ho19 hb hg_ hnew_; clear hg_ hnew_; (first | rw [← Ny199.out] at ho19 | (simp only [Int.reduceToNat] at ho19; rw [← Ny199.out] at ho19)); have HO201 := qa_.mk (Kd.R_lower (Kd.R_new' ho19 (Kd.R_lt (rk_ HO_4.out))) (qj_ (hb_ HB.out))); replace HO_4 := qa_.mk (Kd.R_elder' (rk_ HO_4.out) (Kd.R_base ho19) hb); replace HB := ah_ HB hb; clear hb ho19; obtain ⟨Ao21, co21, eo21⟩ := Kd.R_slice HO201.out; (first | subst eo21 | (injection eo21 with f1_ f2_ f3_; have f4_ := f1_.symm; have f5_ := f3_.symm; clear f1_ f2_ f3_; subst f4_; subst f5_)); refine hK.out _ _ trivial (fun qn_ => ?_); clear hK K; refine nrm_ 26 ?_
   refine on_ 14 27 16 32767 (fun K hK => ?_); refine Kd.R_append_rows_step (Kd.int .u8) (w0 := w) w.heap.size (by rfl) (.tmp 13) (.tmp 26) 103 5 (.int .u8 0) 1 rfl underlying103 info5 rfl (by decide) (by omega) u4 x4_1 y199 _ _ _ (fun k_ => some k_ ≠ (.slice Ao21 y199.length co21 : Value).ownBlock) (fun _ => False) rfl rfl ?aO ?aR (fun _ _ h => h) (fun _ h => h.elim) ?aF ?aB ?aS ?aL ?_; (case aR => repeat (first | exact (Kd.R_reads' HO201.out).2.2 | (with_reducible refine Kd.C_alloc ?_ _) | (with_reducible refine Kd.C_drewN ?_ _) | (with_reducible refine Kd.C_drew ?_)))
   (case aB => exact (hb_ HB.out))
   (case aF => exact (fun k_ hk => Kd.fresh' (Kd.R_lt (rk_ HO201.out)) k_ hk))
   (case aO => exact (by (with_reducible repeat (first | apply Kd.R_alloc | apply Kd.R_drewN | apply Kd.R_drew)); exact Kd.R_mono HO_4.out (fun _ hk => hk.2)))
   (case aS => exact (qj_ (hb_ HB.out)))
   (case aL => have := LMc16.out; omega)
   intro v203 w20 ho hb hg hat; rw [← Ny202.out] at ho; have n0_ := qa_.mk (Kd.R_after (ok := (fun _ => True)) (rk_ HO201.out) hg hat); have n1_ := qa_.mk (hb); have n2_ := qa_.mk (ho); clear HO201; clear HB; clear HO_4; have HO201 := n0_; have HB := n1_; have HO204 := n2_; clear n0_ n1_ n2_; clear ho hb hg hat; refine hK.out _ _ trivial (fun qn_ => ?_); clear hK K; refine nrm_ 27 ?_
   refine pun_ 15 4 16 65535 ?_; refine dn_ ?_; try go_wp2
   go_roundg k1
   case measure => have := HK1.out; omega
   case rel => exact ⟨(y202), (wrap64 (x5_1 + 1)), z1_, H', ⟨by have := HK1.out; omega⟩, ⟨by (with_reducible repeat (first | apply Kd.R_alloc | apply Kd.R_drewN | apply Kd.R_drew)); exact Kd.R_mono HO204.out (fun _ hk => trivial)⟩, ⟨hb_ HB.out⟩⟩
def qcx_.f (a0 : ByteArray) (a1 : ByteArray) : Option (Bool) := if (a0.size : Int) ≥ (a1.size : Int) then (if 0 ≤ (a1.size : Int) then (if (a1.size : Int) ≤ (a0.size : Int) then (some ((a0.extract 0 a1.size).toList == a1.toList)) else (none)) else (none)) else (some false)
theorem qcx_.calls (a0 : ByteArray) (a1 : ByteArray) (r : Bool) (w : World) (h : qcx_.f a0 a1 = some r) :
  Calls Tryz.prog 232 #[.string a0, .string a1] w fun e w' => e = .returned (.bool r) ∧ Drawn0 w w' := by
 unfold qcx_.f at h; have H := h; clear h; by_cases c3 : (a0.size : Int) ≥ (a1.size : Int); rotate_left
 ·rw [if_neg c3] at H; have c3b0 := df_ c3; have c3b1 : decide (a1.size ≤ a0.size) = false := decide_eq_false (fun h => c3 (Int.ofNat_le.mpr h)); clear c3; obtain rfl := oi_ H; go_enter func232, ntmps232; go_wp2
  go_ret
  exact ⟨z1_, z2_⟩
 rw [if_pos c3] at H; have c3b0 := dt_ c3; have c3b1 : decide (a1.size ≤ a0.size) = true := decide_eq_true (Int.ofNat_le.mp c3); clear c3; by_cases c4 : 0 ≤ (a1.size : Int); rotate_left
 ·rw [if_neg c4] at H; exact no_ H
 rw [if_pos c4] at H; have c4b0 := eq_true c4; have c4b1 := dt_ c4; clear c4; by_cases c5 : (a1.size : Int) ≤ (a0.size : Int); rotate_left
 ·rw [if_neg c5] at H; exact no_ H
 rw [if_pos c5] at H; have c5b0 := eq_true c5; have c5b1 := dt_ c5; clear c5; obtain rfl := oi_ H; go_enter func232, ntmps232; go_wp2
 go_ret
 exact ⟨z1_, z2_⟩
mutual
def qr_.l0 : Nat → ByteArray → Int → Option (Int)
 | 0, _, _ => none
 | k + 1, x0, x3 => if x3 ≤ 4 then ((qcb_.f x3).bind fun t179 => ((qcx_.f x0 t179).bind fun t180 => (if t180 = true then (some x3) else (qr_.l0 k x0 (wrap64 (x3 + 1)))))) else (qr_.l1 k x0 1)
def qr_.l1 : Nat → ByteArray → Int → Option (Int)
 | 0, _, _ => none
 | k + 1, x0, x4 => if x4 ≤ 4 then ((qcb_.f x4).bind fun t181 => ((qcx_.f t181 x0).bind fun t182 => (if t182 = true then (some (-1)) else (qr_.l1 k x0 (wrap64 (x4 + 1)))))) else (some 0)
end
def qr_.f (k : Nat) (a0 : ByteArray) : Option (Int) := qr_.l0 k a0 1
theorem qr_.mono_l : ∀ k, (∀ y0 y1, LeO (qr_.l0 k y0 y1) (qr_.l0 (k + 1) y0 y1)) ∧ (∀ y0 y1, LeO (qr_.l1 k y0 y1) (qr_.l1 (k + 1) y0 y1))
 | 0 => ⟨fun _ _ r h => by simp [qr_.l0] at h, fun _ _ r h => by simp [qr_.l1] at h⟩
 | k + 1 => by
  obtain ⟨ih0, ih1⟩ := qr_.mono_l k
  refine ⟨?_, ?_⟩
  ·intro y0 y1
   unfold qr_.l0
   have m0_ := @ih0
   have m1_ := @ih1
   exact mz_
  ·intro y0 y1
   unfold qr_.l1
   have m0_ := @ih0
   have m1_ := @ih1
   exact mz_
theorem qr_.mono : ∀ a0 k, LeO (qr_.f k a0) (qr_.f (k + 1) a0) := by
 intro a0 k; obtain ⟨ih0, ih1⟩ := qr_.mono_l k; unfold qr_.f; have m0_ := @ih0; have m1_ := @ih1; exact mz_
theorem qr_.calls (k : Nat) (a0 : ByteArray) (r : Int) (w : World) (h : qr_.f k a0 = some r) :
  Calls Tryz.prog 194 #[.string a0] w fun e w' => e = .returned (.int .i64 r) ∧ Drawn0 w w' := by
 unfold qr_.f at h; have H := h; clear h; have H' := qa_.mk H; clear H; go_enter func194, ntmps194; go_wp2
 go_loopg [3] k (fun kq v3 w' => ∃ (x3_1 : Int), v3 = .int .i64 x3_1 ∧ qa_ (qr_.l0 kq a0 x3_1 = some r) ∧ qa_ (kq ≤ k) ∧ Drawn0 w w')
 case atStart => exact ⟨(1), z1_, H', ⟨Nat.le_refl _⟩, z2_⟩
 case round =>
  clear H'; try clear c1
  obtain ⟨x3_1, rfl, HA, HK1, ⟨m1, rfl⟩⟩ := hrel
  cases gk with
  | zero => exact absurd HA.out (by simp [qr_.l0])
  | succ k1 =>
   have H := HA.out; clear HA; simp only [qr_.l0] at H; by_cases c2 : x3_1 ≤ 4
   ·rw [if_pos c2] at H; have c2b0 := dt_ c2; clear c2; obtain ⟨t179, A3, H⟩ := bx_ H; obtain ⟨t180, A4, H⟩ := bx_ H; by_cases c5 : t180 = true
    ·subst c5; rw [if_pos rfl] at H; obtain rfl := oi_ H; go_wp2_with (first | ((with_reducible refine qb_ (f := 195) rfl ?_); refine gl_ (some 11) func195 #[.int .i64 x3_1] ?_; refine cm_ (qcb_.calls x3_1 t179 _ A3.out) ?_; rintro w' ⟨nd, rfl⟩) | ((with_reducible refine qb_ (f := 232) rfl ?_); refine gl_ (some 12) func232 #[.string a0, .string t179] ?_; refine cm_ (qcx_.calls a0 t179 true _ A4.out) ?_; rintro w' ⟨nd, rfl⟩)); go_ret
     exact ⟨z1_, z2_⟩
    replace c5 := Bool.eq_false_iff.mpr c5; subst c5; rw [if_neg nft_] at H; have H' := qa_.mk H; clear H; go_wp2_with (first | ((with_reducible refine qb_ (f := 195) rfl ?_); refine gl_ (some 11) func195 #[.int .i64 x3_1] ?_; refine cm_ (qcb_.calls x3_1 t179 _ A3.out) ?_; rintro w' ⟨nd, rfl⟩) | ((with_reducible refine qb_ (f := 232) rfl ?_); refine gl_ (some 12) func232 #[.string a0, .string t179] ?_; refine cm_ (qcx_.calls a0 t179 false _ A4.out) ?_; rintro w' ⟨nd, rfl⟩)); go_roundg k1
    case measure => have := HK1.out; omega
    case rel => exact ⟨(wrap64 (x3_1 + 1)), z1_, H', ⟨by have := HK1.out; omega⟩, z2_⟩
   rw [if_neg c2] at H; have c2b0 := df_ c2; clear c2; have H' := qa_.mk H; clear H; go_wp2
   go_loopg [4] k1 (fun kq v4 w' => ∃ (x4_2 : Int), v4 = .int .i64 x4_2 ∧ qa_ (qr_.l1 kq a0 x4_2 = some r) ∧ qa_ (kq ≤ k1) ∧ Drawn0 w w')
   case atStart => exact ⟨(1), z1_, H', ⟨Nat.le_refl _⟩, z2_⟩
   case round =>
    clear H'; try clear c1
    try clear c2
    try clear c2b0
    try clear p2
    try clear c5
    obtain ⟨x4_2, rfl, HA, HK2, ⟨m2, rfl⟩⟩ := hrel
    cases gk with
    | zero => exact absurd HA.out (by simp [qr_.l1])
    | succ k2 =>
     have H := HA.out; clear HA; simp only [qr_.l1] at H; by_cases c6 : x4_2 ≤ 4; rotate_left
     ·rw [if_neg c6] at H; have c6b0 := df_ c6; clear c6; obtain rfl := oi_ H; go_wp2
      go_ret
      exact ⟨z1_, z2_⟩
     rw [if_pos c6] at H; have c6b0 := dt_ c6; clear c6; obtain ⟨t181, A7, H⟩ := bx_ H; obtain ⟨t182, A8, H⟩ := bx_ H; by_cases c9 : t182 = true
     ·subst c9; rw [if_pos rfl] at H; obtain rfl := oi_ H; go_wp2_with (first | ((with_reducible refine qb_ (f := 195) rfl ?_); refine gl_ (some 19) func195 #[.int .i64 x4_2] ?_; refine cm_ (qcb_.calls x4_2 t181 _ A7.out) ?_; rintro w' ⟨nd, rfl⟩) | ((with_reducible refine qb_ (f := 232) rfl ?_); refine gl_ (some 21) func232 #[.string t181, .string a0] ?_; refine cm_ (qcx_.calls t181 a0 true _ A8.out) ?_; rintro w' ⟨nd, rfl⟩)); go_ret
      exact ⟨z1_, z2_⟩
     replace c9 := Bool.eq_false_iff.mpr c9; subst c9; rw [if_neg nft_] at H; have H' := qa_.mk H; clear H; go_wp2_with (first | ((with_reducible refine qb_ (f := 195) rfl ?_); refine gl_ (some 19) func195 #[.int .i64 x4_2] ?_; refine cm_ (qcb_.calls x4_2 t181 _ A7.out) ?_; rintro w' ⟨nd, rfl⟩) | ((with_reducible refine qb_ (f := 232) rfl ?_); refine gl_ (some 21) func232 #[.string t181, .string a0] ?_; refine cm_ (qcx_.calls t181 a0 false _ A8.out) ?_; rintro w' ⟨nd, rfl⟩)); go_roundg k2
     case measure => have := HK1.out; have := HK2.out; omega
     case rel => exact ⟨(wrap64 (x4_2 + 1)), z1_, H', ⟨by have := HK1.out; have := HK2.out; omega⟩, z2_⟩
def qcj_.f (k : Nat) (a0 : ByteArray) : Option (Int × ByteArray × ByteArray × Int × Int) := (qr_.f k a0).bind fun t138 => (if t138 < 0 then (some (0, (⟨#[]⟩ : ByteArray), (⟨#[]⟩ : ByteArray), 0, 3)) else (if t138 = 0 then (some (0, (⟨#[]⟩ : ByteArray), (⟨#[]⟩ : ByteArray), 0, 2)) else ((qcb_.f t138).bind fun t139 => ((qak_.f k a0 0 (t139.size : Int)).bind fun t140 => (if t140 < 0 then (some (0, (⟨#[]⟩ : ByteArray), (⟨#[]⟩ : ByteArray), 0, 3)) else (if (wrap64 ((a0.size : Int) - t140)) < 21 then (some (0, (⟨#[]⟩ : ByteArray), (⟨#[]⟩ : ByteArray), 0, 3)) else (if 0 ≤ (t139.size : Int) then (if (t139.size : Int) ≤ t140 then (if t140 ≤ (a0.size : Int) then (if 0 ≤ (wrap64 (t140 + 1)) then (if (wrap64 (t140 + 1)) ≤ (wrap64 (t140 + 21)) then (if (wrap64 (t140 + 21)) ≤ (a0.size : Int) then ((qx_.f k (a0.extract ((wrap64 (t140 + 1)) : Int).toNat ((wrap64 (t140 + 21)) : Int).toNat)).bind fun t141 => (some (t138, a0.extract t139.size (t140 : Int).toNat, t141, wrap64 (t140 + 21), 0))) else (none)) else (none)) else (none)) else (none)) else (none)) else (none))))))))
def qcj_.T10 : Bool × List (List Nat × List Nat) := (true, [([], []), ([], []), ([], []), ([], []), ([1, 2, 3], [1, 2, 3]), ([], []), ([], []), ([6], [6]), ([], []), ([8], [8]), ([5, 7, 9], [5, 7, 9]), ([10], [10]), ([0, 4, 11], [0, 4, 11]), ([], []), ([13], [13]), ([12, 11, 0, 1, 2, 3, 4, 5, 6, 7, 8, 9, 10, 11, 12], [12]), ([14, 15, 0, 1, 2, 3, 4, 5, 6, 7, 8, 9, 10, 11, 12, 13, 14, 15], [14]), ([16, 0, 1, 2, 3, 4, 5, 6, 7, 8, 9, 10, 11, 12, 13, 14, 15, 16], [])])
def qcj_.B10 : List Nat := [0, 0, 0, 0, 14, 0, 0, 64, 0, 256, 992, 2016, 4095, 0, 8192, 8191, 65535, 131071]
theorem qcj_.tab10 : rtab .any (opsOf Tryz.f152 10) = qcj_.T10 := by kernel_rfl
theorem qcj_.bits10 : qdu_ qcj_.T10.2 qcj_.B10 = true := by kernel_rfl
theorem qcj_.calls (k : Nat) (a0 : ByteArray) (r1 : Int) (r2 : ByteArray) (r3 : ByteArray) (r4 : Int) (r5 : Int) (w : World) (h : qcj_.f k a0 = some (r1, r2, r3, r4, r5)) :
  Calls Tryz.prog 152 #[.string a0] w fun e w' => e = .returned (.tuple #[.agg #[.int .i64 r1, .string r2, .string r3], .int .i64 r4, .int .i64 r5]) ∧ Below w.heap.size w w' := by
 have hu108 := underlying108; have HB := qa_.mk (Below.refl w.heap.size w); unfold qcj_.f at h; have H := h; clear h; obtain ⟨t138, A2, H⟩ := bx_ H; by_cases c3 : t138 < 0
 ·rw [if_pos c3] at H; have c3b0 := dt_ c3; clear c3; obtain ⟨rfl, rfl, rfl, rfl, rfl⟩ := pj5_ H; go_enter func152, ntmps152; go_wp2_with (first | ((with_reducible refine qh_ (N := 2) rfl ?_); (try (refine qcy_ (by rfl) ?_; dsimp only)); refine be_ (cs := #[.int .i64 0, .string ⟨#[]⟩, .string ⟨#[]⟩]) (t := 108) ?_; intro g137 hg w4 hbox hb; have K137 := qa_.mk (hbox); have W137 := ag_ hg HB; have E137 := ag_ hg HB; replace HB := ah_ HB hb; clear hb hbox hg) | ((with_reducible refine qb_ (f := 194) rfl ?_); refine gl_ (some 9) func194 #[.string a0] ?_; refine cm_ (qr_.calls k a0 t138 _ A2.out) ?_; rintro w' ⟨nd, rfl⟩; (try (rw [qce_ w4]; generalize hq_ : World.drewN w4 _ = w4; have n0_ : qa_ (w4.heap[g137]? = some (.cells #[.int .i64 0, .string ⟨#[]⟩, .string ⟨#[]⟩] 108 (0, 0))) := ⟨by rw [← hq_]; exact (bk_ K137.out)⟩; have n1_ : qa_ (Below w.heap.size w w4) := ⟨by rw [← hq_]; exact (hs_)⟩; clear K137 HB hq_; have K137 := n0_; have HB := n1_; clear n0_ n1_)); obtain ⟨Z5_0, Z5_1, Z5_2, F5⟩ := bc3 K137.out)); refine bodyPost_ret (qfv_ rfl _ _ g137 108 #[.int .i64 0, .string ⟨#[]⟩, .string ⟨#[]⟩] (0, 0) _ rfl (by have b_ := K137; exact zb_) underlying108 rfl (by kernel_rfl)) rfl ?_; exact ⟨z3_, hs_⟩
 rw [if_neg c3] at H; have c3b0 := df_ c3; clear c3; by_cases c6 : t138 = 0
 ·rw [if_pos c6] at H; have c6b0 := et_ c6; have c6b1 := nf_ c6; clear c6; obtain ⟨rfl, rfl, rfl, rfl, rfl⟩ := pj5_ H; go_enter func152, ntmps152; go_wp2_with (first | ((with_reducible refine qh_ (N := 2) rfl ?_); (try (refine qcy_ (by rfl) ?_; dsimp only)); refine be_ (cs := #[.int .i64 0, .string ⟨#[]⟩, .string ⟨#[]⟩]) (t := 108) ?_; intro g137 hg w7 hbox hb; have K137 := qa_.mk (hbox); have W137 := ag_ hg HB; have E137 := ag_ hg HB; replace HB := ah_ HB hb; clear hb hbox hg) | ((with_reducible refine qb_ (f := 194) rfl ?_); refine gl_ (some 9) func194 #[.string a0] ?_; refine cm_ (qr_.calls k a0 t138 _ A2.out) ?_; rintro w' ⟨nd, rfl⟩; (try (rw [qce_ w7]; generalize hq_ : World.drewN w7 _ = w7; have n0_ : qa_ (w7.heap[g137]? = some (.cells #[.int .i64 0, .string ⟨#[]⟩, .string ⟨#[]⟩] 108 (0, 0))) := ⟨by rw [← hq_]; exact (bk_ K137.out)⟩; have n1_ : qa_ (Below w.heap.size w w7) := ⟨by rw [← hq_]; exact (hs_)⟩; clear K137 HB hq_; have K137 := n0_; have HB := n1_; clear n0_ n1_)); obtain ⟨Z8_0, Z8_1, Z8_2, F8⟩ := bc3 K137.out)); refine bodyPost_ret (qfv_ rfl _ _ g137 108 #[.int .i64 0, .string ⟨#[]⟩, .string ⟨#[]⟩] (0, 0) _ rfl (by have b_ := K137; exact zb_) underlying108 rfl (by kernel_rfl)) rfl ?_; exact ⟨z3_, hs_⟩
 rw [if_neg c6] at H; have c6b0 := ef_ c6; have c6b1 := nt_ c6; obtain ⟨t139, A9, H⟩ := bx_ H; obtain ⟨t140, A10, H⟩ := bx_ H; by_cases c11 : t140 < 0
 ·rw [if_pos c11] at H; have c11b0 := dt_ c11; clear c11; obtain ⟨rfl, rfl, rfl, rfl, rfl⟩ := pj5_ H; go_enter func152, ntmps152; go_wp2_with (first | ((with_reducible refine qh_ (N := 2) rfl ?_); (try (refine qcy_ (by rfl) ?_; dsimp only)); refine be_ (cs := #[.int .i64 0, .string ⟨#[]⟩, .string ⟨#[]⟩]) (t := 108) ?_; intro g137 hg w12 hbox hb; have K137 := qa_.mk (hbox); have W137 := ag_ hg HB; have E137 := ag_ hg HB; replace HB := ah_ HB hb; clear hb hbox hg) | ((with_reducible refine qb_ (f := 194) rfl ?_); refine gl_ (some 9) func194 #[.string a0] ?_; refine cm_ (qr_.calls k a0 t138 _ A2.out) ?_; rintro w' ⟨nd, rfl⟩; (try (rw [qce_ w12]; generalize hq_ : World.drewN w12 _ = w12; have n0_ : qa_ (w12.heap[g137]? = some (.cells #[.int .i64 0, .string ⟨#[]⟩, .string ⟨#[]⟩] 108 (0, 0))) := ⟨by rw [← hq_]; exact (bk_ K137.out)⟩; have n1_ : qa_ (Below w.heap.size w w12) := ⟨by rw [← hq_]; exact (hs_)⟩; clear K137 HB hq_; have K137 := n0_; have HB := n1_; clear n0_ n1_))) | ((with_reducible refine qb_ (f := 195) rfl ?_); refine gl_ (some 17) func195 #[.int .i64 t138] ?_; refine cm_ (qcb_.calls t138 t139 _ A9.out) ?_; rintro w' ⟨nd, rfl⟩; (try (rw [qce_ w12]; generalize hq_ : World.drewN w12 _ = w12; have n0_ : qa_ (w12.heap[g137]? = some (.cells #[.int .i64 0, .string ⟨#[]⟩, .string ⟨#[]⟩] 108 (0, 0))) := ⟨by rw [← hq_]; exact (bk_ K137.out)⟩; have n1_ : qa_ (Below w.heap.size w w12) := ⟨by rw [← hq_]; exact (hs_)⟩; clear K137 HB hq_; have K137 := n0_; have HB := n1_; clear n0_ n1_))) | ((with_reducible refine qb_ (f := 196) rfl ?_); refine gl_ (some 21) func196 #[.string a0, .int .u8 0, .int .i64 (t139.size : Int)] ?_; refine cm_ (qak_.calls k a0 0 (t139.size : Int) t140 _ A10.out) ?_; rintro w' ⟨nd, rfl⟩; (try (rw [qce_ w12]; generalize hq_ : World.drewN w12 _ = w12; have n0_ : qa_ (w12.heap[g137]? = some (.cells #[.int .i64 0, .string ⟨#[]⟩, .string ⟨#[]⟩] 108 (0, 0))) := ⟨by rw [← hq_]; exact (bk_ K137.out)⟩; have n1_ : qa_ (Below w.heap.size w w12) := ⟨by rw [← hq_]; exact (hs_)⟩; clear K137 HB hq_; have K137 := n0_; have HB := n1_; clear n0_ n1_)); obtain ⟨Z13_0, Z13_1, Z13_2, F13⟩ := bc3 K137.out)); refine bodyPost_ret (qfv_ rfl _ _ g137 108 #[.int .i64 0, .string ⟨#[]⟩, .string ⟨#[]⟩] (0, 0) _ rfl (by have b_ := K137; exact zb_) underlying108 rfl (by kernel_rfl)) rfl ?_; exact ⟨z3_, hs_⟩
 rw [if_neg c11] at H; have c11b0 := df_ c11; clear c11; by_cases c14 : (wrap64 ((a0.size : Int) - t140)) < 21
 ·rw [if_pos c14] at H; have c14b0 := dt_ c14; clear c14; obtain ⟨rfl, rfl, rfl, rfl, rfl⟩ := pj5_ H; go_enter func152, ntmps152; go_wp2_with (first | ((with_reducible refine qh_ (N := 2) rfl ?_); (try (refine qcy_ (by rfl) ?_; dsimp only)); refine be_ (cs := #[.int .i64 0, .string ⟨#[]⟩, .string ⟨#[]⟩]) (t := 108) ?_; intro g137 hg w15 hbox hb; have K137 := qa_.mk (hbox); have W137 := ag_ hg HB; have E137 := ag_ hg HB; replace HB := ah_ HB hb; clear hb hbox hg) | ((with_reducible refine qb_ (f := 194) rfl ?_); refine gl_ (some 9) func194 #[.string a0] ?_; refine cm_ (qr_.calls k a0 t138 _ A2.out) ?_; rintro w' ⟨nd, rfl⟩; (try (rw [qce_ w15]; generalize hq_ : World.drewN w15 _ = w15; have n0_ : qa_ (w15.heap[g137]? = some (.cells #[.int .i64 0, .string ⟨#[]⟩, .string ⟨#[]⟩] 108 (0, 0))) := ⟨by rw [← hq_]; exact (bk_ K137.out)⟩; have n1_ : qa_ (Below w.heap.size w w15) := ⟨by rw [← hq_]; exact (hs_)⟩; clear K137 HB hq_; have K137 := n0_; have HB := n1_; clear n0_ n1_))) | ((with_reducible refine qb_ (f := 195) rfl ?_); refine gl_ (some 17) func195 #[.int .i64 t138] ?_; refine cm_ (qcb_.calls t138 t139 _ A9.out) ?_; rintro w' ⟨nd, rfl⟩; (try (rw [qce_ w15]; generalize hq_ : World.drewN w15 _ = w15; have n0_ : qa_ (w15.heap[g137]? = some (.cells #[.int .i64 0, .string ⟨#[]⟩, .string ⟨#[]⟩] 108 (0, 0))) := ⟨by rw [← hq_]; exact (bk_ K137.out)⟩; have n1_ : qa_ (Below w.heap.size w w15) := ⟨by rw [← hq_]; exact (hs_)⟩; clear K137 HB hq_; have K137 := n0_; have HB := n1_; clear n0_ n1_))) | ((with_reducible refine qb_ (f := 196) rfl ?_); refine gl_ (some 21) func196 #[.string a0, .int .u8 0, .int .i64 (t139.size : Int)] ?_; refine cm_ (qak_.calls k a0 0 (t139.size : Int) t140 _ A10.out) ?_; rintro w' ⟨nd, rfl⟩; (try (rw [qce_ w15]; generalize hq_ : World.drewN w15 _ = w15; have n0_ : qa_ (w15.heap[g137]? = some (.cells #[.int .i64 0, .string ⟨#[]⟩, .string ⟨#[]⟩] 108 (0, 0))) := ⟨by rw [← hq_]; exact (bk_ K137.out)⟩; have n1_ : qa_ (Below w.heap.size w w15) := ⟨by rw [← hq_]; exact (hs_)⟩; clear K137 HB hq_; have K137 := n0_; have HB := n1_; clear n0_ n1_)); obtain ⟨Z16_0, Z16_1, Z16_2, F16⟩ := bc3 K137.out)); refine bodyPost_ret (qfv_ rfl _ _ g137 108 #[.int .i64 0, .string ⟨#[]⟩, .string ⟨#[]⟩] (0, 0) _ rfl (by have b_ := K137; exact zb_) underlying108 rfl (by kernel_rfl)) rfl ?_; exact ⟨z3_, hs_⟩
 rw [if_neg c14] at H; have c14b0 := df_ c14; clear c14; by_cases c17 : 0 ≤ (t139.size : Int); rotate_left
 ·rw [if_neg c17] at H; exact no_ H
 rw [if_pos c17] at H; have c17b0 := eq_true c17; have c17b1 := dt_ c17; clear c17; by_cases c18 : (t139.size : Int) ≤ t140; rotate_left
 ·rw [if_neg c18] at H; exact no_ H
 rw [if_pos c18] at H; have c18b0 := eq_true c18; have c18b1 := dt_ c18; clear c18; by_cases c19 : t140 ≤ (a0.size : Int); rotate_left
 ·rw [if_neg c19] at H; exact no_ H
 rw [if_pos c19] at H; have c19b0 := eq_true c19; have c19b1 := dt_ c19; clear c19; obtain ⟨ji20, hji20⟩ : ∃ j_ : Int, (wrap64 (t140 + 1)) = j_ := ⟨_, rfl⟩; replace H : (if 0 ≤ (ji20) then (if (ji20) ≤ (wrap64 (t140 + 21)) then (if (wrap64 (t140 + 21)) ≤ (a0.size : Int) then ((qx_.f k (a0.extract ((ji20) : Int).toNat ((wrap64 (t140 + 21)) : Int).toNat)).bind fun t141 => (some (t138, a0.extract t139.size (t140 : Int).toNat, t141, wrap64 (t140 + 21), 0))) else (none)) else (none)) else (none)) = some (r1, r2, r3, r4, r5) := by first | (rw [hji20] at H; exact H) | (simp only [hji20] at H ⊢; exact H)
 (try rw [hji20] at A2)
 (try rw [hji20] at A9)
 (try rw [hji20] at A10)
 have hji20w : (IntKind.i64.wrap (t140 + 1)) = ji20 := (i64_w _).trans hji20; by_cases c21 : 0 ≤ (ji20); rotate_left
 ·rw [if_neg c21] at H; exact no_ H
 rw [if_pos c21] at H; have c21b0 := eq_true c21; have c21b1 := dt_ c21; clear c21; by_cases c22 : (ji20) ≤ (wrap64 (t140 + 21)); rotate_left
 ·rw [if_neg c22] at H; exact no_ H
 rw [if_pos c22] at H; have c22b0 := eq_true c22; have c22b1 := dt_ c22; by_cases c23 : (wrap64 (t140 + 21)) ≤ (a0.size : Int); rotate_left
 ·rw [if_neg c23] at H; exact no_ H
 rw [if_pos c23] at H; have c23b0 := eq_true c23; have c23b1 := dt_ c23; obtain ⟨t141, A24, H⟩ := bx_ H; obtain ⟨rfl, rfl, rfl, rfl, rfl⟩ := pj5_ H; go_enter func152, ntmps152; try go_wp2_with (first | ((with_reducible refine qh_ (N := 2) rfl ?_); (try (refine qcy_ (by rfl) ?_; dsimp only)); refine be_ (cs := #[.int .i64 0, .string ⟨#[]⟩, .string ⟨#[]⟩]) (t := 108) ?_; intro g137 hg w25 hbox hb; have K137 := qa_.mk (hbox); have W137 := ag_ hg HB; have E137 := ag_ hg HB; replace HB := ah_ HB hb; clear hb hbox hg) | ((with_reducible refine qb_ (f := 194) rfl ?_); refine gl_ (some 9) func194 #[.string a0] ?_; refine cm_ (qr_.calls k a0 t138 _ A2.out) ?_; rintro w' ⟨nd, rfl⟩; (try (rw [qce_ w25]; generalize hq_ : World.drewN w25 _ = w25; have n0_ : qa_ (w25.heap[g137]? = some (.cells #[.int .i64 0, .string ⟨#[]⟩, .string ⟨#[]⟩] 108 (0, 0))) := ⟨by rw [← hq_]; exact (bk_ K137.out)⟩; have n1_ : qa_ (Below w.heap.size w w25) := ⟨by rw [← hq_]; exact (hs_)⟩; clear K137 HB hq_; have K137 := n0_; have HB := n1_; clear n0_ n1_))) | ((with_reducible refine qb_ (f := 195) rfl ?_); refine gl_ (some 17) func195 #[.int .i64 t138] ?_; refine cm_ (qcb_.calls t138 t139 _ A9.out) ?_; rintro w' ⟨nd, rfl⟩; (try (rw [qce_ w25]; generalize hq_ : World.drewN w25 _ = w25; have n0_ : qa_ (w25.heap[g137]? = some (.cells #[.int .i64 0, .string ⟨#[]⟩, .string ⟨#[]⟩] 108 (0, 0))) := ⟨by rw [← hq_]; exact (bk_ K137.out)⟩; have n1_ : qa_ (Below w.heap.size w w25) := ⟨by rw [← hq_]; exact (hs_)⟩; clear K137 HB hq_; have K137 := n0_; have HB := n1_; clear n0_ n1_))) | ((with_reducible refine qb_ (f := 196) rfl ?_); refine gl_ (some 21) func196 #[.string a0, .int .u8 0, .int .i64 (t139.size : Int)] ?_; refine cm_ (qak_.calls k a0 0 (t139.size : Int) t140 _ A10.out) ?_; rintro w' ⟨nd, rfl⟩; (try (rw [qce_ w25]; generalize hq_ : World.drewN w25 _ = w25; have n0_ : qa_ (w25.heap[g137]? = some (.cells #[.int .i64 0, .string ⟨#[]⟩, .string ⟨#[]⟩] 108 (0, 0))) := ⟨by rw [← hq_]; exact (bk_ K137.out)⟩; have n1_ : qa_ (Below w.heap.size w w25) := ⟨by rw [← hq_]; exact (hs_)⟩; clear K137 HB hq_; have K137 := n0_; have HB := n1_; clear n0_ n1_)))); replace K137 := ad_ K137; replace HB := hd_ HB; refine qdm_ (n := 18) (S := fun w' => True) (ds := []) (bs 18 0) (by kernel_rfl) rfl rfl trivial (fun qn_ => ?_); refine qdg_ qcj_.tab10 qcj_.bits10 (fun HT_ HW_ => ?_); generalize w25.drew = w26 at K137 HB qn_ ⊢; refine pun_ 0 32 18 1 ?_; refine pun_ 1 33 18 3 ?_; refine pun_ 2 34 18 7 ?_; refine pun_ 3 35 18 15 ?_; refine pun_ 4 36 18 31 ?_; refine pun_ 5 37 18 63 ?_; refine pun_ 6 38 18 127 ?_; refine pun_ 7 39 18 255 ?_; refine pun_ 8 40 18 511 ?_; refine pun_ 9 41 18 1023 ?_; refine pun_ 10 42 18 2047 ?_; refine pun_ 13 45 18 10239 ?_; refine pun_ 14 46 18 26623 ?_; refine on_ 11 43 18 28671 (fun K hK => ?_)
 refine goes_ func197 (by kernel_rfl) rfl #[.string (a0.extract ((ji20) : Int).toNat ((wrap64 (t140 + 21)) : Int).toNat)] (by rfl) rfl rfl (by (try simp only [List.map_toArray, List.map_cons, List.map_nil]); first | done | (simp only [hji20]; rfl) | rfl | (simp only [List.length_drop, List.length_take]; rfl)) ?_
 with_reducible refine (qx_.calls k (a0.extract ((ji20) : Int).toNat ((wrap64 (t140 + 21)) : Int).toNat) t141 _ A24.out).mono ?_
 rintro e w27 ⟨rfl, hb⟩; refine ⟨_, rfl, ?_⟩; replace K137 := ab_ K137 hb; replace HB := hr_ hb; (try clear hb)
 (try clear hb2)
 (try clear hk)
 (try clear hi)
 refine hK.out _ _ trivial (fun qn_ => ?_); clear hK K; refine nrm_ 43 ?_
 refine pun_ 12 44 18 32767 ?_; refine one_ (i := 15) (N := none) (bs 18 65535) rfl rfl (one_of HT_.out (by kernel_rfl)) (by decide) (fun K hK => ?_); have hs28 : w27.cell? ⟨g137, 0, none⟩ = some (.int .i64 0) := (qc_ K137.out 0).trans rfl; have hfs28 := qp_ K137.out 0; have hs29 : w27.cell? ⟨g137, 1, none⟩ = some (.string ⟨#[]⟩) := (qc_ K137.out 1).trans rfl; have hfs29 := qp_ K137.out 1; have hs30 : w27.cell? ⟨g137, 2, none⟩ = some (.string ⟨#[]⟩) := (qc_ K137.out 2).trans rfl; have hfs30 := qp_ K137.out 2; refine skip_ (w1 := ?_) (by rfl) rfl ?_ ?_; rotate_left
 ·go_simp
  rfl
 refine hK.out _ _ trivial (fun qn_ => ?_); clear hK K; refine pun_ 16 3 18 131071 ?_; refine pun_ 17 4 18 262143 ?_; refine dn_ ?_; try go_wp2
 refine bodyPost_ret (qfv_ rfl _ _ g137 108 #[.int .i64 t138, .string (a0.extract t139.size (t140 : Int).toNat), .string t141] (0, 0) _ rfl (by have b_ := K137; exact zb_) underlying108 rfl (by kernel_rfl)) rfl ?_; exact ⟨by first | rfl | (simp [qbo_, qbp_] <;> rfl) | (simp only [← hji20]; first | rfl | (simp [qbo_, qbp_] <;> rfl)) | (simp [*, qbo_, qbp_] <;> rfl) | (simp [qby_]; done) | (simp [*, qby_]; done), hs_⟩
def qdz_.f (a0_0 : Int) (a0_1 : ByteArray) (a0_2 : ByteArray) : Option (ByteArray) := if a0_0 = 4 then (if a0_1.size + 1 ≤ 9223372036854775807 then (some (a0_1 ++ (⟨#[47]⟩ : ByteArray))) else (none)) else (some a0_1)
theorem qdz_.calls (a0_0 : Int) (a0_1 : ByteArray) (a0_2 : ByteArray) (r : ByteArray) (w : World) (h : qdz_.f a0_0 a0_1 a0_2 = some r) :
  Calls Tryz.prog 233 #[.agg #[.int .i64 a0_0, .string a0_1, .string a0_2]] w fun e w' => e = .returned (.string r) ∧ Below w.heap.size w w' := by
 have hu108 := underlying108; have HB := qa_.mk (Below.refl w.heap.size w); unfold qdz_.f at h; have H := h; clear h; by_cases c2 : a0_0 = 4; rotate_left
 ·rw [if_neg c2] at H; have c2b0 := ef_ c2; have c2b1 := nt_ c2; obtain rfl := oi_ H; go_enter func233, ntmps233; go_wp2_with (first | ((with_reducible refine qh_ (N := 1) rfl ?_); refine be_ (cs := #[.int .i64 a0_0, .string a0_1, .string a0_2]) (t := 108) ?_; intro g206 hg w6 hbox hb; have K206 := qa_.mk (hbox); have W206 := ag_ hg HB; have E206 := ag_ hg HB; replace HB := ah_ HB hb; clear hb hbox hg; obtain ⟨Z7_0, Z7_1, Z7_2, F7⟩ := bc3 K206.out)); go_ret
  exact ⟨z3_, hs_⟩
 rw [if_pos c2] at H; have c2b0 := et_ c2; have c2b1 := nf_ c2; clear c2; by_cases c3 : a0_1.size + 1 ≤ 9223372036854775807; rotate_left
 ·rw [if_neg c3] at H; exact no_ H
 rw [if_pos c3] at H; have c3b0 := eq_true c3; have c3b1 := dt_ c3; try have c3b2 := nl_ c3
 obtain rfl := oi_ H; go_enter func233, ntmps233; go_wp2_with (first | ((with_reducible refine qh_ (N := 1) rfl ?_); refine be_ (cs := #[.int .i64 a0_0, .string a0_1, .string a0_2]) (t := 108) ?_; intro g206 hg w4 hbox hb; have K206 := qa_.mk (hbox); have W206 := ag_ hg HB; have E206 := ag_ hg HB; replace HB := ah_ HB hb; clear hb hbox hg; obtain ⟨Z5_0, Z5_1, Z5_2, F5⟩ := bc3 K206.out)); go_ret
 exact ⟨z3_, hs_⟩
def qds_.f (a0_0 : Int) (a0_1 : ByteArray) (a0_2 : ByteArray) (a1_0 : Int) (a1_1 : ByteArray) (a1_2 : ByteArray) : Option (Bool) := (qdz_.f a0_0 a0_1 a0_2).bind fun t185 => ((qdz_.f a1_0 a1_1 a1_2).bind fun t186 => (some (Op.bytesLess t185.toList t186.toList)))
theorem qds_.calls (a0_0 : Int) (a0_1 : ByteArray) (a0_2 : ByteArray) (a1_0 : Int) (a1_1 : ByteArray) (a1_2 : ByteArray) (r : Bool) (w : World) (h : qds_.f a0_0 a0_1 a0_2 a1_0 a1_1 a1_2 = some r) :
  Calls Tryz.prog 199 #[.agg #[.int .i64 a0_0, .string a0_1, .string a0_2], .agg #[.int .i64 a1_0, .string a1_1, .string a1_2]] w fun e w' => e = .returned (.bool r) ∧ Below w.heap.size w w' := by
 have hu108 := underlying108; have HB := qa_.mk (Below.refl w.heap.size w); unfold qds_.f at h; have H := h; clear h; obtain ⟨t185, A3, H⟩ := bx_ H; obtain ⟨t186, A4, H⟩ := bx_ H; obtain rfl := oi_ H; go_enter func199, ntmps199; try go_wp2_with (first | ((with_reducible refine qh_ (N := 2) rfl ?_); refine be_ (cs := #[.int .i64 a0_0, .string a0_1, .string a0_2]) (t := 108) ?_; intro g183 hg w5 hbox hb; have K183 := qa_.mk (hbox); have W183 := ag_ hg HB; have E183 := ag_ hg HB; replace HB := ah_ HB hb; clear hb hbox hg) | ((with_reducible refine qh_ (N := 3) rfl ?_); refine be_ (cs := #[.int .i64 a1_0, .string a1_1, .string a1_2]) (t := 108) ?_; intro g184 hg w6 hbox hb; have K184 := qa_.mk (hbox); have W184 := qa_.mk ((by rw [hg]; exact (qj_ (hs_)) : w.heap.size ≤ g184)); have E184 := qa_.mk ((by rw [hg]; exact (qj_ (hs_)) : w.heap.size ≤ g184)); replace HB := hr_ hb; have N183_184 := qa_.mk (nl2_ hg K183.out); have N184_183 := qa_.mk (ng2_ hg K183.out); replace K183 := ab_ K183 hb; clear hb hbox hg)); replace K183 := ad_ K183; replace K184 := ad_ K184; replace HB := hd_ HB; refine qdm_ (n := 6) (S := fun w' => w'.cell? ⟨g183, 0, none⟩ = some (.int .i64 a0_0) ∧ w'.cell? ⟨g183, 1, none⟩ = some (.string a0_1) ∧ w'.cell? ⟨g183, 2, none⟩ = some (.string a0_2) ∧ w'.cell? ⟨g184, 0, none⟩ = some (.int .i64 a1_0) ∧ w'.cell? ⟨g184, 1, none⟩ = some (.string a1_1) ∧ w'.cell? ⟨g184, 2, none⟩ = some (.string a1_2)) (ds := []) (bs 6 0) (by kernel_rfl) rfl rfl ⟨(qc_ K183.out 0).trans rfl, (qc_ K183.out 1).trans rfl, (qc_ K183.out 2).trans rfl, (qc_ K184.out 0).trans rfl, (qc_ K184.out 1).trans rfl, (qc_ K184.out 2).trans rfl⟩ (fun qn_ => ?_); generalize w6.drew = w7 at K183 K184 HB qn_ ⊢; refine tkK6n_ 0 5 6 1 qn_ ?_; refine tkK6n_ 2 7 6 5 qn_ ?_; refine one_ (i := 1) (N := some 6) (bs 6 7) rfl rfl (by kernel_rfl) (by decide) (fun K hK => ?_); refine goes_ func233 (by kernel_rfl) rfl #[.agg #[.int .i64 a0_0, .string a0_1, .string a0_2]] (by rfl) rfl rfl z5_ ?_
 with_reducible refine (qdz_.calls a0_0 a0_1 a0_2 t185 _ A3.out).mono ?_
 rintro e w8 ⟨rfl, hb⟩; refine ⟨_, rfl, ?_⟩; replace K183 := ab_ K183 hb; replace K184 := ab_ K184 hb; replace HB := hr_ hb; (try clear hb)
 (try clear hb2)
 (try clear hk)
 (try clear hi)
 refine hK.out _ _ ⟨(qc_ K183.out 0).trans rfl, (qc_ K183.out 1).trans rfl, (qc_ K183.out 2).trans rfl, (qc_ K184.out 0).trans rfl, (qc_ K184.out 1).trans rfl, (qc_ K184.out 2).trans rfl⟩ (fun qn_ => ?_); clear hK K; refine nrm_ 6 ?_
 refine one_ (i := 3) (N := some 8) (bs 6 15) rfl rfl (by kernel_rfl) (by decide) (fun K hK => ?_); refine goes_ func233 (by kernel_rfl) rfl #[.agg #[.int .i64 a1_0, .string a1_1, .string a1_2]] (by rfl) rfl rfl z5_ ?_
 with_reducible refine (qdz_.calls a1_0 a1_1 a1_2 t186 _ A4.out).mono ?_
 rintro e w9 ⟨rfl, hb⟩; refine ⟨_, rfl, ?_⟩; replace K183 := ab_ K183 hb; replace K184 := ab_ K184 hb; replace HB := hr_ hb; (try clear hb)
 (try clear hb2)
 (try clear hk)
 (try clear hi)
 refine hK.out _ _ ⟨(qc_ K183.out 0).trans rfl, (qc_ K183.out 1).trans rfl, (qc_ K183.out 2).trans rfl, (qc_ K184.out 0).trans rfl, (qc_ K184.out 1).trans rfl, (qc_ K184.out 2).trans rfl⟩ (fun qn_ => ?_); clear hK K; refine nrm_ 8 ?_
 refine pkn_ 4 9 6 31 ?_; refine pkn_ 5 4 6 63 ?_; refine done_ (by kernel_rfl) ?_; try go_wp2
 go_ret
 exact ⟨z3_, hs_⟩
def qah_.l0 : Nat → ByteArray → List ByteArray → Int → Int → Option (List ByteArray)
 | 0, _, _, _, _ => none
 | k + 1, x0, x3, x4, x5 => if x5 < (x0.size : Int) then (if 0 ≤ x5 then (if (bt x0 x5) = 47 then (if 0 ≤ x4 then (if x4 ≤ x5 then (if x5 ≤ (x0.size : Int) then (if x3.length < 8796093022208 then (qah_.l0 k x0 (x3 ++ [x0.extract (x4 : Int).toNat (x5 : Int).toNat]) (wrap64 (x5 + 1)) (wrap64 (x5 + 1))) else (none)) else (none)) else (none)) else (none)) else (qah_.l0 k x0 x3 x4 (wrap64 (x5 + 1)))) else (none)) else (if 0 ≤ x4 then (if x4 ≤ (x0.size : Int) then (if x3.length < 8796093022208 then (some (x3 ++ [x0.extract (x4 : Int).toNat x0.size])) else (none)) else (none)) else (none))
def qah_.f (k : Nat) (a0 : ByteArray) : Option (List ByteArray) := if a0.toList = ([] : List UInt8) then (some ([] : List ByteArray)) else (qah_.l0 k a0 ([] : List ByteArray) 0 0)
theorem qah_.mono_l : ∀ k, (∀ y0 y1 y2 y3, LeO (qah_.l0 k y0 y1 y2 y3) (qah_.l0 (k + 1) y0 y1 y2 y3))
 | 0 => fun _ _ _ _ r h => by simp [qah_.l0] at h
 | k + 1 => by
  have ih0 := qah_.mono_l k
  ·intro y0 y1 y2 y3
   unfold qah_.l0
   have m0_ := @ih0
   exact mz_
theorem qah_.mono : ∀ a0 k, LeO (qah_.f k a0) (qah_.f (k + 1) a0) := by
 intro a0 k; have ih0 := qah_.mono_l k; unfold qah_.f; have m0_ := @ih0; exact mz_
theorem qah_.calls (k : Nat) (a0 : ByteArray) (r : List ByteArray) (w : World) (h : qah_.f k a0 = some r) :
  Calls Tryz.prog 134 #[.string a0] w fun e w' => ∃ v0_ : Value, e = .returned (v0_) ∧ Kd.R Kd.string 9 w' w.heap.size (fun _ => True) v0_ r ∧ Below w.heap.size w w' := by
 have HB := qa_.mk (Below.refl w.heap.size w); unfold qah_.f at h; have H := h; clear h; by_cases c2 : a0.toList = ([] : List UInt8)
 ·rw [if_pos c2] at H; have c2b0 := et_ c2; have c2b1 := nf_ c2; clear c2; obtain rfl := oi_ H; go_enter func134, ntmps134; go_wp2
  go_ret
  exact ⟨_, z3_, z6_, hb_ HB.out⟩
 rw [if_neg c2] at H; have c2b0 := ef_ c2; have c2b1 := nt_ c2; have H' := qa_.mk H; clear H; go_enter func134, ntmps134; go_wp2
 go_loopg [3, 4, 5] k (fun kq v3 v4 v5 w' => ∃ (x3_1 : List ByteArray) (x4_1 : Int) (x5_1 : Int), v4 = .int .i64 x4_1 ∧ v5 = .int .i64 x5_1 ∧ qa_ (qah_.l0 kq a0 x3_1 x4_1 x5_1 = some r) ∧ qa_ (kq ≤ k) ∧ qa_ (Kd.R Kd.string 9 w' w.heap.size (fun _ => True) v3 x3_1) ∧ qa_ (Below w.heap.size w w'))
 case atStart => exact ⟨(([] : List ByteArray)), (0), (0), z1_, z1_, H', ⟨Nat.le_refl _⟩, ⟨z6_⟩, ⟨hb_ HB.out⟩⟩
 case round =>
  clear H'; try clear c1
  try clear c2
  try clear c2b0
  try clear c2b1
  try clear p2
  obtain ⟨x3_1, x4_1, x5_1, rfl, rfl, HA, HK1, HO_3, HB⟩ := hrel
  cases gk with
  | zero => exact absurd HA.out (by simp [qah_.l0])
  | succ k1 =>
   have H := HA.out; clear HA; simp only [qah_.l0] at H; by_cases c3 : x5_1 < (a0.size : Int); rotate_left
   ·rw [if_neg c3] at H; have c3b0 := df_ c3; clear c3; by_cases c12 : 0 ≤ x4_1; rotate_left
    ·rw [if_neg c12] at H; exact no_ H
    rw [if_pos c12] at H; have c12b0 := eq_true c12; have c12b1 := dt_ c12; clear c12; by_cases c13 : x4_1 ≤ (a0.size : Int); rotate_left
    ·rw [if_neg c13] at H; exact no_ H
    rw [if_pos c13] at H; have c13b0 := eq_true c13; have c13b1 := dt_ c13; clear c13; by_cases c14 : x3_1.length < 8796093022208; rotate_left
    ·rw [if_neg c14] at H; exact no_ H
    rw [if_pos c14] at H; have LMc14 := qa_.mk c14; clear c14; obtain ⟨y178, hy178⟩ : ∃ y_ : List ByteArray, y_ = (x3_1 ++ [a0.extract (x4_1 : Int).toNat a0.size]) := ⟨_, rfl⟩; replace H : (some y178) = some r := by first | (rw [hy178]; with_reducible exact H) | (have H2_ := (Option.bind_some _ _).symm.trans H; rw [hy178]; with_reducible exact H2_) | (have H2_ := (Option.bind_some _ _).symm.trans H; with_reducible exact H2_) | with_reducible exact H | (rw [hy178]; exact H) | exact H
    have Ny178 := qa_.mk hy178; clear hy178; obtain rfl := oi_ H; go_wp2_with (first | ((with_reducible refine qdp_ (b := .append) (xs := #[.tmp 27, .tmp 31]) rfl ?_); at_builtin; refine Kd.R_append Kd.string (w0 := w) w.heap.size rfl (.tmp 27) (.tmp 31) 22 9 (.string ⟨#[]⟩) 16 rfl underlying22 info9 rfl (by decide) (by omega) u3 x3_1 (a0.extract (x4_1 : Int).toNat a0.size) [.string (a0.extract (x4_1 : Int).toNat a0.size)] (fun _ => True) (fun _ => False) rfl rfl ?aP (fun _ hk => hk.elim) ?aF ?aO ?aB ?aS ?aL ?_; (case aP => exact rfl); (case aB => exact (hb_ HB.out)); (case aF => exact (fun _ _ => trivial)); (case aO => exact (rk_ HO_3.out)); (case aS => exact (qj_ (hb_ HB.out))); (case aL => have := LMc14.out; omega); intro v179 w15 ho hb hg hat; rw [← Ny178.out] at ho; have n0_ := qa_.mk (hb); have n1_ := qa_.mk (ho); clear HB; clear HO_3; have HB := n0_; have HO180 := n1_; clear n0_ n1_; clear ho hb hg hat)); go_ret
    exact ⟨_, z3_, rk_ HO180.out, hb_ HB.out⟩
   rw [if_pos c3] at H; have c3b0 := dt_ c3; clear c3; by_cases c4 : 0 ≤ x5_1; rotate_left
   ·rw [if_neg c4] at H; exact no_ H
   rw [if_pos c4] at H; have c4b0 := dt_ c4; clear c4; by_cases c6 : (bt a0 x5_1) = 47; rotate_left
   ·rw [if_neg c6] at H; have c6b0 := ef_ c6; have c6b1 := nt_ c6; have H' := qa_.mk H; clear H; have p5 : 0 ≤ (x5_1 : Int) := y0_; have q5 : x5_1 < (a0.size : Int) := y0_; have hx5 := bt_at a0 x5_1; replace p5 := eq_true p5; replace q5 := eq_true q5; go_wp2
    go_roundg k1
    case measure => have := HK1.out; omega
    case rel => exact ⟨(x3_1), (x4_1), (wrap64 (x5_1 + 1)), z1_, z1_, H', ⟨by have := HK1.out; omega⟩, ⟨z15_⟩, ⟨hb_ HB.out⟩⟩
   rw [if_pos c6] at H; have c6b0 := et_ c6; have c6b1 := nf_ c6; clear c6; by_cases c7 : 0 ≤ x4_1; rotate_left
   ·rw [if_neg c7] at H; exact no_ H
   rw [if_pos c7] at H; have c7b0 := eq_true c7; have c7b1 := dt_ c7; clear c7; by_cases c8 : x4_1 ≤ x5_1; rotate_left
   ·rw [if_neg c8] at H; exact no_ H
   rw [if_pos c8] at H; have c8b0 := eq_true c8; have c8b1 := dt_ c8; clear c8; by_cases c9 : x5_1 ≤ (a0.size : Int); rotate_left
   ·rw [if_neg c9] at H; exact no_ H
   rw [if_pos c9] at H; have c9b0 := eq_true c9; have c9b1 := dt_ c9; clear c9; by_cases c10 : x3_1.length < 8796093022208; rotate_left
   ·rw [if_neg c10] at H; exact no_ H
   rw [if_pos c10] at H; have LMc10 := qa_.mk c10; clear c10; obtain ⟨y175, hy175⟩ : ∃ y_ : List ByteArray, y_ = (x3_1 ++ [a0.extract (x4_1 : Int).toNat (x5_1 : Int).toNat]) := ⟨_, rfl⟩; replace H : (qah_.l0 k1 a0 y175 (wrap64 (x5_1 + 1)) (wrap64 (x5_1 + 1))) = some r := by first | (rw [hy175]; with_reducible exact H) | (have H2_ := (Option.bind_some _ _).symm.trans H; rw [hy175]; with_reducible exact H2_) | (have H2_ := (Option.bind_some _ _).symm.trans H; with_reducible exact H2_) | with_reducible exact H | (rw [hy175]; exact H) | exact H
   have Ny175 := qa_.mk hy175; clear hy175; have H' := qa_.mk H; clear H; have p5 : 0 ≤ (x5_1 : Int) := y0_; have q5 : x5_1 < (a0.size : Int) := y0_; have hx5 := bt_at a0 x5_1; replace p5 := eq_true p5; replace q5 := eq_true q5; go_wp2_with (first | ((with_reducible refine qdp_ (b := .append) (xs := #[.tmp 18, .tmp 23]) rfl ?_); at_builtin; refine Kd.R_append Kd.string (w0 := w) w.heap.size rfl (.tmp 18) (.tmp 23) 22 9 (.string ⟨#[]⟩) 16 rfl underlying22 info9 rfl (by decide) (by omega) u3 x3_1 (a0.extract (x4_1 : Int).toNat (x5_1 : Int).toNat) [.string (a0.extract (x4_1 : Int).toNat (x5_1 : Int).toNat)] (fun _ => True) (fun _ => False) rfl rfl ?aP (fun _ hk => hk.elim) ?aF ?aO ?aB ?aS ?aL ?_; (case aP => exact rfl); (case aB => exact (hb_ HB.out)); (case aF => exact (fun _ _ => trivial)); (case aO => exact (rk_ HO_3.out)); (case aS => exact (qj_ (hb_ HB.out))); (case aL => have := LMc10.out; omega); intro v176 w11 ho hb hg hat; rw [← Ny175.out] at ho; have n0_ := qa_.mk (hb); have n1_ := qa_.mk (ho); clear HB; clear HO_3; have HB := n0_; have HO177 := n1_; clear n0_ n1_; clear ho hb hg hat)); go_roundg k1
   case measure => have := HK1.out; omega
   case rel => exact ⟨(y175), (wrap64 (x5_1 + 1)), (wrap64 (x5_1 + 1)), z1_, z1_, H', ⟨by have := HK1.out; omega⟩, ⟨by (with_reducible repeat (first | apply Kd.R_alloc | apply Kd.R_drewN | apply Kd.R_drew)); exact HO177.out⟩, ⟨hb_ HB.out⟩⟩
mutual
def qo_.j0 : Nat → ByteArray → Bool → Option (Bool)
 | 0, _, _ => none
 | k + 1, x0, x23 => if x23 = true then (some false) else (qo_.l0 k x0 0)
def qo_.l0 : Nat → ByteArray → Int → Option (Bool)
 | 0, _, _ => none
 | k + 1, x0, x3 => if x3 < (x0.size : Int) then (if 0 ≤ x3 then (if (bt x0 x3) < 32 then (some false) else (if (bt x0 x3) = 47 then (some false) else (qo_.l0 k x0 (wrap64 (x3 + 1))))) else (none)) else (some true)
end
def qo_.f (k : Nat) (a0 : ByteArray) : Option (Bool) := if (a0.size : Int) < 1 then (qo_.j0 k a0 true) else (if (a0.size : Int) > 64 then (qo_.j0 k a0 true) else (if a0.toList = ([46] : List UInt8) then (qo_.j0 k a0 true) else (if a0.toList = ([46, 46] : List UInt8) then (qo_.j0 k a0 true) else (qo_.j0 k a0 (a0.toList == ([46, 103, 114, 97, 102, 116] : List UInt8))))))
theorem qo_.mono_l : ∀ k, (∀ y0 y1, LeO (qo_.j0 k y0 y1) (qo_.j0 (k + 1) y0 y1)) ∧ (∀ y0 y1, LeO (qo_.l0 k y0 y1) (qo_.l0 (k + 1) y0 y1))
 | 0 => ⟨fun _ _ r h => by simp [qo_.j0] at h, fun _ _ r h => by simp [qo_.l0] at h⟩
 | k + 1 => by
  obtain ⟨ih0, ih1⟩ := qo_.mono_l k
  refine ⟨?_, ?_⟩
  ·intro y0 y1
   unfold qo_.j0
   have m0_ := @ih0
   have m1_ := @ih1
   exact mz_
  ·intro y0 y1
   unfold qo_.l0
   have m0_ := @ih0
   have m1_ := @ih1
   exact mz_
theorem qo_.mono : ∀ a0 k, LeO (qo_.f k a0) (qo_.f (k + 1) a0) := by
 intro a0 k; obtain ⟨ih0, ih1⟩ := qo_.mono_l k; unfold qo_.f; have m0_ := @ih0; have m1_ := @ih1; exact mz_
theorem qo_.calls (k : Nat) (a0 : ByteArray) (r : Bool) (w : World) (h : qo_.f k a0 = some r) :
  Calls Tryz.prog 178 #[.string a0] w fun e w' => e = .returned (.bool r) ∧ Drawn0 w w' := by
 unfold qo_.f at h; have H := h; clear h; have HC2 := qa_.mk H; clear H; go_enter func178, ntmps178; go_upto_region 1 with (fail)
 go_cut [23] (fun v23 wc => ∃ (kq : Nat) (x23_1 : Bool), v23 = .bool x23_1 ∧ qa_ (qo_.j0 kq a0 x23_1 = some r) ∧ qa_ (kq ≤ k) ∧ Drawn0 w wc)
 case first =>
  have H := HC2.out; clear HC2; by_cases c3 : (a0.size : Int) < 1
  ·rw [if_pos c3] at H; have c3b0 := dt_ c3; have c3b1 : decide (a0.size < 1) = true := decide_eq_true (by omega); clear c3; (first | rw [c3b0] | (simp only [i64_w, i32_w]; rw [c3b0]) | skip); have H' := qa_.mk H; clear H; go_wp2
   go_meet
   case rel => exact ⟨_, (true), z1_, H', ⟨z4_⟩, z2_⟩
  rw [if_neg c3] at H; have c3b0 := df_ c3; have c3b1 : decide (a0.size < 1) = false := decide_eq_false (by omega); clear c3; (first | rw [c3b0] | (simp only [i64_w, i32_w]; rw [c3b0]) | skip); by_cases c4 : (a0.size : Int) > 64
  ·rw [if_pos c4] at H; have c4b0 := dt_ c4; have c4b1 : decide (64 < a0.size) = true := decide_eq_true (by omega); clear c4; have H' := qa_.mk H; clear H; go_wp2
   go_meet
   case rel => exact ⟨_, (true), z1_, H', ⟨z4_⟩, z2_⟩
  rw [if_neg c4] at H; have c4b0 := df_ c4; have c4b1 : decide (64 < a0.size) = false := decide_eq_false (by omega); clear c4; by_cases c5 : a0.toList = ([46] : List UInt8)
  ·rw [if_pos c5] at H; have c5b0 := et_ c5; have c5b1 := nf_ c5; clear c5; have H' := qa_.mk H; clear H; go_wp2
   go_meet
   case rel => exact ⟨_, (true), z1_, H', ⟨z4_⟩, z2_⟩
  rw [if_neg c5] at H; have c5b0 := ef_ c5; have c5b1 := nt_ c5; by_cases c6 : a0.toList = ([46, 46] : List UInt8)
  ·rw [if_pos c6] at H; have c6b0 := et_ c6; have c6b1 := nf_ c6; clear c6; have H' := qa_.mk H; clear H; go_wp2
   go_meet
   case rel => exact ⟨_, (true), z1_, H', ⟨z4_⟩, z2_⟩
  rw [if_neg c6] at H; have c6b0 := ef_ c6; have c6b1 := nt_ c6; have H' := qa_.mk H; clear H; go_wp2
  go_meet
  case rel => exact ⟨_, ((a0.toList == ([46, 103, 114, 97, 102, 116] : List UInt8))), z1_, H', ⟨z4_⟩, z2_⟩
 case rest =>
  clear HC2; try clear c1
  try clear p2
  try clear c3
  try clear c3b0
  try clear c3b1
  try clear c4
  try clear c4b0
  try clear c4b1
  try clear c5
  try clear c5b0
  try clear c5b1
  try clear c6
  try clear c6b0
  try clear c6b1
  obtain ⟨kq, x23_1, rfl, HA, HJ1, ⟨mc1, rfl⟩⟩ := hcut
  cases kq with
  | zero => exact absurd HA.out (by simp [qo_.j0])
  | succ kj1 =>
   have H := HA.out; clear HA; simp only [qo_.j0] at H; by_cases c7 : x23_1 = true
   ·subst c7; rw [if_pos rfl] at H; obtain rfl := oi_ H; go_wp2
    go_ret
    exact ⟨z1_, z2_⟩
   replace c7 := Bool.eq_false_iff.mpr c7; subst c7; rw [if_neg nft_] at H; have H' := qa_.mk H; clear H; go_wp2
   go_loopg [3] kj1 (fun kq v3 w' => ∃ (x3_2 : Int), v3 = .int .i64 x3_2 ∧ qa_ (qo_.l0 kq a0 x3_2 = some r) ∧ qa_ (kq ≤ kj1) ∧ Drawn0 w w')
   case atStart => exact ⟨(0), z1_, H', ⟨Nat.le_refl _⟩, z2_⟩
   case round =>
    clear H'; try clear c1
    try clear p2
    try clear c3
    try clear c3b0
    try clear c3b1
    try clear c4
    try clear c4b0
    try clear c4b1
    try clear c5
    try clear c5b0
    try clear c5b1
    try clear c6
    try clear c6b0
    try clear c6b1
    try clear c7
    try clear p2
    obtain ⟨x3_2, rfl, HA, HK2, ⟨m2, rfl⟩⟩ := hrel
    cases gk with
    | zero => exact absurd HA.out (by simp [qo_.l0])
    | succ k2 =>
     have H := HA.out; clear HA; simp only [qo_.l0] at H; by_cases c8 : x3_2 < (a0.size : Int); rotate_left
     ·rw [if_neg c8] at H; have c8b0 := df_ c8; clear c8; obtain rfl := oi_ H; go_wp2
      go_ret
      exact ⟨z1_, z2_⟩
     rw [if_pos c8] at H; have c8b0 := dt_ c8; clear c8; by_cases c9 : 0 ≤ x3_2; rotate_left
     ·rw [if_neg c9] at H; exact no_ H
     rw [if_pos c9] at H; have c9b0 := dt_ c9; clear c9; by_cases c11 : (bt a0 x3_2) < 32
     ·rw [if_pos c11] at H; have c11b0 := dt_ c11; clear c11; obtain rfl := oi_ H; have p10 : 0 ≤ (x3_2 : Int) := y0_; have q10 : x3_2 < (a0.size : Int) := y0_; have hx10 := bt_at a0 x3_2; replace p10 := eq_true p10; replace q10 := eq_true q10; go_wp2
      go_ret
      exact ⟨z1_, z2_⟩
     rw [if_neg c11] at H; have c11b0 := df_ c11; clear c11; by_cases c13 : (bt a0 x3_2) = 47
     ·rw [if_pos c13] at H; have c13b0 := et_ c13; have c13b1 := nf_ c13; clear c13; obtain rfl := oi_ H; have p10 : 0 ≤ (x3_2 : Int) := y0_; have q10 : x3_2 < (a0.size : Int) := y0_; have hx10 := bt_at a0 x3_2; replace p10 := eq_true p10; replace q10 := eq_true q10; have p12 : 0 ≤ (x3_2 : Int) := y0_; have q12 : x3_2 < (a0.size : Int) := y0_; have hx12 := bt_at a0 x3_2; replace p12 := eq_true p12; replace q12 := eq_true q12; go_wp2
      go_ret
      exact ⟨z1_, z2_⟩
     rw [if_neg c13] at H; have c13b0 := ef_ c13; have c13b1 := nt_ c13; have H' := qa_.mk H; clear H; have p10 : 0 ≤ (x3_2 : Int) := y0_; have q10 : x3_2 < (a0.size : Int) := y0_; have hx10 := bt_at a0 x3_2; replace p10 := eq_true p10; replace q10 := eq_true q10; have p12 : 0 ≤ (x3_2 : Int) := y0_; have q12 : x3_2 < (a0.size : Int) := y0_; have hx12 := bt_at a0 x3_2; replace p12 := eq_true p12; replace q12 := eq_true q12; go_wp2
     go_roundg k2
     case measure => have := HJ1.out; have := HK2.out; omega
     case rel => exact ⟨(wrap64 (x3_2 + 1)), z1_, H', ⟨by have := HJ1.out; have := HK2.out; omega⟩, z2_⟩
mutual
def qag_.j0 : Nat → List ByteArray → Bool → Option (Bool)
 | 0, _, _ => none
 | k + 1, x3, x19 => if x19 = true then (some false) else (qag_.l0 k x3 0)
def qag_.l0 : Nat → List ByteArray → Int → Option (Bool)
 | 0, _, _ => none
 | k + 1, x3, x4 => if x4 < (x3.length : Int) then (if 0 ≤ x4 then ((qo_.f k (rdOf ByteArray.empty x3 x4)).bind fun t170 => (if t170 = true then (qag_.l0 k x3 (wrap64 (x4 + 1))) else (some false))) else (none)) else (some true)
end
def qag_.f (k : Nat) (a0 : ByteArray) : Option (Bool) := (qah_.f k a0).bind fun t166 => (if (t166.length : Int) < 1 then (qag_.j0 k t166 true) else (if (t166.length : Int) > 16 then (qag_.j0 k t166 true) else (qag_.j0 k t166 (decide ((a0.size : Int) > 255)))))
theorem qag_.mono_l : ∀ k, (∀ y0 y1, LeO (qag_.j0 k y0 y1) (qag_.j0 (k + 1) y0 y1)) ∧ (∀ y0 y1, LeO (qag_.l0 k y0 y1) (qag_.l0 (k + 1) y0 y1))
 | 0 => ⟨fun _ _ r h => by simp [qag_.j0] at h, fun _ _ r h => by simp [qag_.l0] at h⟩
 | k + 1 => by
  obtain ⟨ih0, ih1⟩ := qag_.mono_l k
  refine ⟨?_, ?_⟩
  ·intro y0 y1
   unfold qag_.j0
   have m0_ := @ih0
   have m1_ := @ih1
   have m2_ := @qah_.mono
   have m3_ := @qo_.mono
   exact mz_
  ·intro y0 y1
   unfold qag_.l0
   have m0_ := @ih0
   have m1_ := @ih1
   have m2_ := @qah_.mono
   have m3_ := @qo_.mono
   exact mz_
theorem qag_.calls (k : Nat) (a0 : ByteArray) (r : Bool) (w : World) (h : qag_.f k a0 = some r) :
  Calls Tryz.prog 132 #[.string a0] w fun e w' => e = .returned (.bool r) ∧ Below w.heap.size w w' := by
 have HB := qa_.mk (Below.refl w.heap.size w); unfold qag_.f at h; have H := h; clear h; obtain ⟨t166, A2, H⟩ := bx_ H; have HC3 := qa_.mk H; clear H; go_enter func132, ntmps132; go_upto_region 2 with (first | ((with_reducible refine qb_ (f := 134) rfl ?_); refine gl_ (some 6) func134 #[.string a0] ?_; (with_reducible refine (qah_.calls k a0 t166 _ A2.out).mono ?_); rintro e w4 ⟨v167, rfl, ho0, hb⟩; refine ⟨_, rfl, ?_⟩; have HO168 := qa_.mk (Kd.R_lower ho0 (qj_ (hb_ HB.out))); replace HB := ah_ HB hb; (try clear hb); (try clear hb2); (try clear hk); (try clear hi); (try clear ho0)))
 (try simp only [Act.put, List.setIfInBounds_toArray, List.set_cons_zero, List.set_cons_succ])
 go_cut [19] (fun v19 wc => ∃ (kq : Nat) (x19_2 : Bool), v19 = .bool x19_2 ∧ qa_ (qag_.j0 kq t166 x19_2 = some r) ∧ qa_ (kq ≤ k) ∧ qa_ (Kd.R Kd.string 9 wc w.heap.size (fun _ => True) v167 t166) ∧ qa_ (Below w.heap.size w wc))
 case first =>
  have H := HC3.out; clear HC3; by_cases c5 : (t166.length : Int) < 1
  ·rw [if_pos c5] at H; have c5b0 := dt_ c5; have c5b1 : decide (t166.length < 1) = true := decide_eq_true (by omega); clear c5; (first | rw [c5b0] | (simp only [i64_w, i32_w]; rw [c5b0]) | skip); have H' := qa_.mk H; clear H; obtain ⟨Ao6, co6, eo6⟩ := Kd.R_slice HO168.out; subst eo6; go_wp2
   go_meet
   case rel => exact ⟨_, (true), z1_, H', ⟨z4_⟩, ⟨z31_⟩, ⟨hb_ HB.out⟩⟩
  rw [if_neg c5] at H; have c5b0 := df_ c5; have c5b1 : decide (t166.length < 1) = false := decide_eq_false (by omega); clear c5; (first | rw [c5b0] | (simp only [i64_w, i32_w]; rw [c5b0]) | skip); by_cases c7 : (t166.length : Int) > 16
  ·rw [if_pos c7] at H; have c7b0 := dt_ c7; have c7b1 : decide (16 < t166.length) = true := decide_eq_true (by omega); clear c7; have H' := qa_.mk H; clear H; obtain ⟨Ao8, co8, eo8⟩ := Kd.R_slice HO168.out; subst eo8; go_wp2
   go_meet
   case rel => exact ⟨_, (true), z1_, H', ⟨z4_⟩, ⟨z31_⟩, ⟨hb_ HB.out⟩⟩
  rw [if_neg c7] at H; have c7b0 := df_ c7; have c7b1 : decide (16 < t166.length) = false := decide_eq_false (by omega); clear c7; have H' := qa_.mk H; clear H; obtain ⟨Ao9, co9, eo9⟩ := Kd.R_slice HO168.out; subst eo9; go_wp2
  go_meet
  case rel => exact ⟨_, (decide ((a0.size : Int) > 255)), z1_, H', ⟨z4_⟩, ⟨z31_⟩, ⟨hb_ HB.out⟩⟩
 case rest =>
  clear HC3; try clear c1
  try clear p2
  try clear c5
  try clear c5b0
  try clear c5b1
  try clear c7
  try clear c7b0
  try clear c7b1
  obtain ⟨kq, x19_2, rfl, HA, HJ2, HO_3, HB⟩ := hcut
  cases kq with
  | zero => exact absurd HA.out (by simp [qag_.j0])
  | succ kj2 =>
   have H := HA.out; clear HA; simp only [qag_.j0] at H; by_cases c10 : x19_2 = true
   ·subst c10; rw [if_pos rfl] at H; obtain rfl := oi_ H; go_wp2
    go_ret
    exact ⟨z3_, hb_ HB.out⟩
   replace c10 := Bool.eq_false_iff.mpr c10; subst c10; rw [if_neg nft_] at H; have H' := qa_.mk H; clear H; go_wp2
   go_loopg [4] kj2 (fun kq v4 w' => ∃ (x4_2 : Int), v4 = .int .i64 x4_2 ∧ qa_ (qag_.l0 kq t166 x4_2 = some r) ∧ qa_ (kq ≤ kj2) ∧ qa_ (Kd.R Kd.string 9 w' w.heap.size (fun _ => True) v167 t166) ∧ qa_ (Below w.heap.size w w'))
   case atStart => exact ⟨(0), z1_, H', ⟨Nat.le_refl _⟩, ⟨z15_⟩, ⟨hb_ HB.out⟩⟩
   case round =>
    clear H'; try clear c1
    try clear p2
    try clear c5
    try clear c5b0
    try clear c5b1
    try clear c7
    try clear c7b0
    try clear c7b1
    try clear c10
    try clear p2
    obtain ⟨x4_2, rfl, HA, HK2, HO_3, HB⟩ := hrel
    cases gk with
    | zero => exact absurd HA.out (by simp [qag_.l0])
    | succ k2 =>
     have H := HA.out; clear HA; simp only [qag_.l0] at H; by_cases c11 : x4_2 < (t166.length : Int); rotate_left
     ·rw [if_neg c11] at H; have c11b0 := df_ c11; clear c11; obtain rfl := oi_ H; obtain ⟨Ao17, co17, eo17⟩ := Kd.R_slice HO_3.out; subst eo17; go_wp2
      go_ret
      exact ⟨z3_, hb_ HB.out⟩
     rw [if_pos c11] at H; have c11b0 := dt_ c11; clear c11; by_cases c12 : 0 ≤ x4_2; rotate_left
     ·rw [if_neg c12] at H; exact no_ H
     rw [if_pos c12] at H; have c12b0 := dt_ c12; clear c12; obtain ⟨t170, A13, H⟩ := bx_ H; by_cases c14 : t170 = true; rotate_left
     ·replace c14 := Bool.eq_false_iff.mpr c14; subst c14; rw [if_neg nft_] at H; obtain rfl := oi_ H; obtain ⟨Ao16, co16, eo16⟩ := Kd.R_slice HO_3.out; subst eo16; have p169 : 0 ≤ (x4_2 : Int) := y0_; have q169 : x4_2 < (t166.length : Int) := y0_; obtain ⟨ad169, e169, hx169_0⟩ := Kd.at_string (Kd.R_reads' HO_3.out).2.2 x4_2 p169 q169
      cases e169
      replace p169 := eq_true p169; replace q169 := eq_true q169; go_wp2_with (first | ((with_reducible refine qb_ (f := 178) rfl ?_); refine gl_ (some 30) func178 #[.string (rdOf ByteArray.empty t166 x4_2)] ?_; refine cm_ (qo_.calls k2 (rdOf ByteArray.empty t166 x4_2) false _ A13.out) ?_; rintro w' ⟨nd, rfl⟩)); go_ret
      exact ⟨z3_, hb_ HB.out⟩
     subst c14; rw [if_pos rfl] at H; have H' := qa_.mk H; clear H; obtain ⟨Ao15, co15, eo15⟩ := Kd.R_slice HO_3.out; subst eo15; have p169 : 0 ≤ (x4_2 : Int) := y0_; have q169 : x4_2 < (t166.length : Int) := y0_; obtain ⟨ad169, e169, hx169_0⟩ := Kd.at_string (Kd.R_reads' HO_3.out).2.2 x4_2 p169 q169
     cases e169
     replace p169 := eq_true p169; replace q169 := eq_true q169; go_wp2_with (first | ((with_reducible refine qb_ (f := 178) rfl ?_); refine gl_ (some 30) func178 #[.string (rdOf ByteArray.empty t166 x4_2)] ?_; refine cm_ (qo_.calls k2 (rdOf ByteArray.empty t166 x4_2) true _ A13.out) ?_; rintro w' ⟨nd, rfl⟩)); go_roundg k2
     case measure => have := HJ2.out; have := HK2.out; omega
     case rel => exact ⟨(wrap64 (x4_2 + 1)), z1_, H', ⟨by have := HJ2.out; have := HK2.out; omega⟩, ⟨z15_⟩, ⟨hb_ HB.out⟩⟩
def qdw_.f (k : Nat) (a0_0 : Int) (a0_1 : ByteArray) (a0_2 : ByteArray) : Option (Bool) := if a0_0 ≥ 1 then (if a0_0 ≤ 4 then ((qag_.f k a0_1).bind fun t123 => (if t123 = true then ((qak_.f k a0_1 47 0).bind fun t124 => (if t124 < 0 then ((qac_.f k a0_2).bind fun t125 => (some t125)) else (some false))) else (some false))) else (some false)) else (some false)
theorem qdw_.calls (k : Nat) (a0_0 : Int) (a0_1 : ByteArray) (a0_2 : ByteArray) (r : Bool) (w : World) (h : qdw_.f k a0_0 a0_1 a0_2 = some r) :
  Calls Tryz.prog 198 #[.agg #[.int .i64 a0_0, .string a0_1, .string a0_2]] w fun e w' => e = .returned (.bool r) ∧ Below w.heap.size w w' := by
 have hu108 := underlying108; have HB := qa_.mk (Below.refl w.heap.size w); unfold qdw_.f at h; have H := h; clear h; by_cases c2 : a0_0 ≥ 1; rotate_left
 ·rw [if_neg c2] at H; have c2b0 := df_ c2; clear c2; obtain rfl := oi_ H; go_enter func198, ntmps198; go_wp2_with (first | ((with_reducible refine qh_ (N := 1) rfl ?_); refine be_ (cs := #[.int .i64 a0_0, .string a0_1, .string a0_2]) (t := 108) ?_; intro g122 hg w22 hbox hb; have K122 := qa_.mk (hbox); have W122 := ag_ hg HB; have E122 := ag_ hg HB; replace HB := ah_ HB hb; clear hb hbox hg; obtain ⟨Z23_0, Z23_1, Z23_2, F23⟩ := bc3 K122.out)); go_ret
  exact ⟨z3_, hs_⟩
 rw [if_pos c2] at H; have c2b0 := dt_ c2; clear c2; by_cases c3 : a0_0 ≤ 4; rotate_left
 ·rw [if_neg c3] at H; have c3b0 := df_ c3; clear c3; obtain rfl := oi_ H; go_enter func198, ntmps198; go_wp2_with (first | ((with_reducible refine qh_ (N := 1) rfl ?_); refine be_ (cs := #[.int .i64 a0_0, .string a0_1, .string a0_2]) (t := 108) ?_; intro g122 hg w20 hbox hb; have K122 := qa_.mk (hbox); have W122 := ag_ hg HB; have E122 := ag_ hg HB; replace HB := ah_ HB hb; clear hb hbox hg; obtain ⟨Z21_0, Z21_1, Z21_2, F21⟩ := bc3 K122.out)); go_ret
  exact ⟨z3_, hs_⟩
 rw [if_pos c3] at H; have c3b0 := dt_ c3; clear c3; obtain ⟨t123, A4, H⟩ := bx_ H; by_cases c5 : t123 = true; rotate_left
 ·replace c5 := Bool.eq_false_iff.mpr c5; subst c5; rw [if_neg nft_] at H; obtain rfl := oi_ H; go_enter func198, ntmps198; go_wp2_with (first | ((with_reducible refine qh_ (N := 1) rfl ?_); refine be_ (cs := #[.int .i64 a0_0, .string a0_1, .string a0_2]) (t := 108) ?_; intro g122 hg w17 hbox hb; have K122 := qa_.mk (hbox); have W122 := ag_ hg HB; have E122 := ag_ hg HB; replace HB := ah_ HB hb; clear hb hbox hg; obtain ⟨Z18_0, Z18_1, Z18_2, F18⟩ := bc3 K122.out) | (go_at_call 132; (with_reducible refine (qag_.calls k a0_1 false _ A4.out).mono ?_); rintro e w19 ⟨rfl, hb⟩; replace K122 := ab_ K122 hb; replace HB := hr_ hb; (try clear hb); (try clear hb2); (try clear hk); (try clear hi)))
  go_ret
  exact ⟨z3_, hs_⟩
 subst c5; rw [if_pos rfl] at H; obtain ⟨t124, A6, H⟩ := bx_ H; by_cases c7 : t124 < 0; rotate_left
 ·rw [if_neg c7] at H; have c7b0 := df_ c7; clear c7; obtain rfl := oi_ H; go_enter func198, ntmps198; go_wp2_with (first | ((with_reducible refine qh_ (N := 1) rfl ?_); refine be_ (cs := #[.int .i64 a0_0, .string a0_1, .string a0_2]) (t := 108) ?_; intro g122 hg w13 hbox hb; have K122 := qa_.mk (hbox); have W122 := ag_ hg HB; have E122 := ag_ hg HB; replace HB := ah_ HB hb; clear hb hbox hg; obtain ⟨Z14_0, Z14_1, Z14_2, F14⟩ := bc3 K122.out) | (go_at_call 132; (with_reducible refine (qag_.calls k a0_1 true _ A4.out).mono ?_); rintro e w15 ⟨rfl, hb⟩; replace K122 := ab_ K122 hb; replace HB := hr_ hb; (try clear hb); (try clear hb2); (try clear hk); (try clear hi); obtain ⟨Z16_0, Z16_1, Z16_2, F16⟩ := bc3 K122.out) | (go_at_call 196; (with_reducible refine (qak_.calls k a0_1 47 0 t124 _ A6.out).mono ?_); rintro e w' ⟨rfl, ⟨nd, rfl⟩⟩)); go_ret
  exact ⟨z3_, hs_⟩
 rw [if_pos c7] at H; have c7b0 := dt_ c7; clear c7; obtain ⟨t125, A8, H⟩ := bx_ H; obtain rfl := oi_ H; go_enter func198, ntmps198; go_wp2_with (first | ((with_reducible refine qh_ (N := 1) rfl ?_); refine be_ (cs := #[.int .i64 a0_0, .string a0_1, .string a0_2]) (t := 108) ?_; intro g122 hg w9 hbox hb; have K122 := qa_.mk (hbox); have W122 := ag_ hg HB; have E122 := ag_ hg HB; replace HB := ah_ HB hb; clear hb hbox hg; obtain ⟨Z10_0, Z10_1, Z10_2, F10⟩ := bc3 K122.out) | (go_at_call 132; (with_reducible refine (qag_.calls k a0_1 true _ A4.out).mono ?_); rintro e w11 ⟨rfl, hb⟩; replace K122 := ab_ K122 hb; replace HB := hr_ hb; (try clear hb); (try clear hb2); (try clear hk); (try clear hi); obtain ⟨Z12_0, Z12_1, Z12_2, F12⟩ := bc3 K122.out) | (go_at_call 196; (with_reducible refine (qak_.calls k a0_1 47 0 t124 _ A6.out).mono ?_); rintro e w' ⟨rfl, ⟨nd, rfl⟩⟩) | (go_at_call 61; (with_reducible refine (qac_.calls k a0_2 t125 _ A8.out).mono ?_); rintro e w' ⟨rfl, ⟨nd, rfl⟩⟩)); go_ret
 exact ⟨z3_, hs_⟩
mutual
def qe_.l0 : Nat → List (S108) → Int → Int → Option (Int)
 | 0, _, _, _ => none
 | k + 1, x0, x9, x10 => if x10 < x9 then (if 0 ≤ x10 then (if x10 < (x0.length : Int) then ((qdw_.f k ((qd_ x0 x10).f0) ((qd_ x0 x10).f1) ((qd_ x0 x10).f2)).bind fun t225 => (if t225 = true then (if x10 > 0 then (if 0 ≤ (wrap64 (x10 - 1)) then (if (wrap64 (x10 - 1)) < (x0.length : Int) then ((qds_.f ((qd_ x0 (wrap64 (x10 - 1))).f0) ((qd_ x0 (wrap64 (x10 - 1))).f1) ((qd_ x0 (wrap64 (x10 - 1))).f2) ((qd_ x0 x10).f0) ((qd_ x0 x10).f1) ((qd_ x0 x10).f2)).bind fun t228 => (qe_.j1 k x0 x10 x9 x10 (!t228))) else (none)) else (none)) else (qe_.j1 k x0 x10 x9 x10 false)) else (some 1))) else (none)) else (none)) else (some 0)
def qe_.j1 : Nat → List (S108) → Int → Int → Int → Bool → Option (Int)
 | 0, _, _, _, _, _ => none
 | k + 1, x0, x3, x9, x10, x33 => if x33 = true then (some 150) else (qe_.l1 k x0 x3 x9 x10 x3 0)
def qe_.l1 : Nat → List (S108) → Int → Int → Int → Int → Int → Option (Int)
 | 0, _, _, _, _, _, _ => none
 | k + 1, x0, x3, x9, x10, x34, x35 => if x35 < x34 then (if 0 ≤ x35 then (if x35 < (x0.length : Int) then (if 0 ≤ x3 then (if x3 < (x0.length : Int) then (if ((qd_ x0 x35).f1).toList = ((qd_ x0 x3).f1).toList then (some 6) else (qe_.l1 k x0 x3 x9 x10 x34 (wrap64 (x35 + 1)))) else (none)) else (none)) else (none)) else (none)) else (qe_.l0 k x0 x9 (wrap64 (x10 + 1)))
end
def qe_.f (k : Nat) (l0 : List (S108)) : Option (Int) := if (l0.length : Int) > 1024 then (some 4) else (qe_.l0 k l0 (l0.length : Int) 0)
def qe_.T8 : Bool × List (List Nat × List Nat) := (true, [([], []), ([0], [0]), ([1], [1]), ([2], [2]), ([2], [2]), ([4, 2], [2, 4]), ([3, 5, 2], [2, 3, 5]), ([6, 2], [2, 6]), ([2], [2]), ([2], [2]), ([8, 9, 2], [2, 8, 9]), ([10, 2], [2, 10]), ([7, 11, 2, 2], [2, 7, 11]), ([12, 2], [2, 12]), ([2, 13], [2, 13])])
def qe_.B8 : List Nat := [0, 1, 3, 7, 7, 23, 63, 127, 7, 7, 775, 1799, 4095, 8191, 16383]
theorem qe_.tab8 : rtab .any (opsOf Tryz.f153 8) = qe_.T8 := by kernel_rfl
theorem qe_.bits8 : qdu_ qe_.T8.2 qe_.B8 = true := by kernel_rfl
def qe_.T13 : Bool × List (List Nat × List Nat) := (true, [([], []), ([], []), ([0, 1], [0, 1]), ([2], [2]), ([3], [3]), ([], []), ([], []), ([5, 6], [5, 6]), ([7], [7]), ([8], [8]), ([4, 9], [4, 9])])
def qe_.B13 : List Nat := [0, 0, 3, 7, 15, 0, 0, 96, 224, 480, 1023]
theorem qe_.tab13 : rtab .any (opsOf Tryz.f153 13) = qe_.T13 := by kernel_rfl
theorem qe_.bits13 : qdu_ qe_.T13.2 qe_.B13 = true := by kernel_rfl
theorem qe_.calls (k : Nat) (A0 : Option Addr) (c0 : Nat) (l0 : List (S108)) (r : Int) (w : World) (hr0 : Kd.C k108 w A0 l0.length l0) (hc0 : l0.length ≤ c0) (h : qe_.f k l0 = some r) :
  Calls Tryz.prog 153 #[.slice A0 l0.length c0] w fun e w' => e = .returned (.int .i64 r) ∧ Below w.heap.size w w' := by
 have hu108 := underlying108; have HR0 := qa_.mk hr0; have HC0 := qa_.mk hc0; clear hr0 hc0; have HB := qa_.mk (Below.refl w.heap.size w); unfold qe_.f at h; have H := h; clear h; by_cases c2 : (l0.length : Int) > 1024
 ·rw [if_pos c2] at H; have c2b0 := dt_ c2; have c2b1 : decide (1024 < l0.length) = true := decide_eq_true (by omega); clear c2; obtain rfl := oi_ H; go_enter func153, ntmps153; go_wp2
  go_ret
  exact ⟨z3_, hb_ HB.out⟩
 rw [if_neg c2] at H; have c2b0 := df_ c2; have c2b1 : decide (1024 < l0.length) = false := decide_eq_false (by omega); clear c2; have H' := qa_.mk H; clear H; go_enter func153, ntmps153; go_wp2
 go_loopg [10] k (fun kq v10 w' => ∃ (x10_1 : Int), v10 = .int .i64 x10_1 ∧ qa_ (qe_.l0 kq l0 (l0.length : Int) x10_1 = some r) ∧ qa_ (kq ≤ k) ∧ qa_ (Below w.heap.size w w'))
 case atStart => exact ⟨(0), z1_, H', ⟨Nat.le_refl _⟩, ⟨hb_ HB.out⟩⟩
 case round =>
  clear H'; try clear c1
  try clear c2
  try clear c2b0
  try clear c2b1
  try clear p2
  obtain ⟨x10_1, rfl, HA, HK1, HB⟩ := hrel
  cases gk with
  | zero => exact absurd HA.out (by simp [qe_.l0])
  | succ k1 =>
   have H := HA.out; clear HA; simp only [qe_.l0] at H; by_cases c3 : x10_1 < (l0.length : Int); rotate_left
   ·rw [if_neg c3] at H; have c3b0 := df_ c3; clear c3; obtain rfl := oi_ H; go_wp2
    go_ret
    exact ⟨z3_, hb_ HB.out⟩
   rw [if_pos c3] at H; have c3b0 := dt_ c3; clear c3; by_cases c4 : 0 ≤ x10_1; rotate_left
   ·rw [if_neg c4] at H; exact no_ H
   rw [if_pos c4] at H; have c4b0 := dt_ c4; clear c4; by_cases c5 : x10_1 < (l0.length : Int); rotate_left
   ·rw [if_neg c5] at H; exact no_ H
   rw [if_pos c5] at H; have c5b0 := dt_ c5; clear c5; obtain ⟨t225, A6, H⟩ := bx_ H; by_cases c7 : t225 = true; rotate_left
   ·replace c7 := Bool.eq_false_iff.mpr c7; subst c7; rw [if_neg nft_] at H; obtain rfl := oi_ H; have p224 : 0 ≤ (x10_1 : Int) := y0_; have q224 : x10_1 < (l0.length : Int) := y0_; obtain ⟨ad224, e224, hx224_0, hx224_1, hx224_2⟩ := qew_ HR0.out x10_1 p224 q224
    cases e224
    replace hx224_0 := (HB.out.cell (World.block_lt_of_cell? w _ hx224_0)).trans hx224_0; replace hx224_1 := (HB.out.cell (World.block_lt_of_cell? w _ hx224_1)).trans hx224_1; replace hx224_2 := (HB.out.cell (World.block_lt_of_cell? w _ hx224_2)).trans hx224_2; replace p224 := eq_true p224; replace q224 := eq_true q224; go_wp2_with (first | ((with_reducible refine qb_ (f := 198) rfl ?_); refine gl_ (some 17) func198 #[.agg #[.int .i64 ((qd_ l0 x10_1).f0), .string ((qd_ l0 x10_1).f1), .string ((qd_ l0 x10_1).f2)]] ?_; refine cm_ (qdw_.calls k1 ((qd_ l0 x10_1).f0) ((qd_ l0 x10_1).f1) ((qd_ l0 x10_1).f2) false _ A6.out) fun w27 hb => ?_; replace HB := ah_ HB hb; (try clear hb); (try clear hb2); (try clear hk); (try clear hi)))
    go_ret
    exact ⟨z3_, hb_ HB.out⟩
   subst c7; rw [if_pos rfl] at H; have HC8 := qa_.mk H; clear H; have p224 : 0 ≤ (x10_1 : Int) := y0_; have q224 : x10_1 < (l0.length : Int) := y0_; obtain ⟨ad224, e224, hx224_0, hx224_1, hx224_2⟩ := qew_ HR0.out x10_1 p224 q224
   cases e224
   replace hx224_0 := (HB.out.cell (World.block_lt_of_cell? w _ hx224_0)).trans hx224_0; replace hx224_1 := (HB.out.cell (World.block_lt_of_cell? w _ hx224_1)).trans hx224_1; replace hx224_2 := (HB.out.cell (World.block_lt_of_cell? w _ hx224_2)).trans hx224_2; replace p224 := eq_true p224; replace q224 := eq_true q224; go_upto_region 8 with (first | ((with_reducible refine qb_ (f := 198) rfl ?_); refine gl_ (some 17) func198 #[.agg #[.int .i64 ((qd_ l0 x10_1).f0), .string ((qd_ l0 x10_1).f1), .string ((qd_ l0 x10_1).f2)]] ?_; refine cm_ (qdw_.calls k1 ((qd_ l0 x10_1).f0) ((qd_ l0 x10_1).f1) ((qd_ l0 x10_1).f2) true _ A6.out) fun w9 hb => ?_; replace HB := ah_ HB hb; (try clear hb); (try clear hb2); (try clear hk); (try clear hi)))
   (try simp only [Act.put, List.setIfInBounds_toArray, List.set_cons_zero, List.set_cons_succ])
   go_cut [33] (fun v33 wc => ∃ (kq : Nat) (x33_7 : Bool), v33 = .bool x33_7 ∧ qa_ (qe_.j1 kq l0 x10_1 (l0.length : Int) x10_1 x33_7 = some r) ∧ qa_ (kq ≤ k1) ∧ qa_ (Below w.heap.size w wc))
   case first =>
    have H := HC8.out; clear HC8; by_cases c10 : x10_1 > 0; rotate_left
    ·rw [if_neg c10] at H; have c10b0 := df_ c10; clear c10; (first | rw [c10b0] | (simp only [i64_w, i32_w]; rw [c10b0]) | skip); have H' := qa_.mk H; clear H; try go_wp2
     replace HB := hd_ HB; refine qdm_ (n := 15) (S := fun w' => True) (ds := []) (bs 15 0) (by kernel_rfl) rfl rfl trivial (fun qn_ => ?_); refine qdg_ qe_.tab8 qe_.bits8 (fun HT_ HW_ => ?_); generalize w9.drew = w17 at HB qn_ ⊢; refine pun_ 0 19 15 1 ?_; refine pun_ 1 20 15 3 ?_; refine pun_ 2 21 15 7 ?_; refine pnn_ 3 22 15 15 ?_; refine pnn_ 4 23 15 31 ?_; refine pnn_ 5 24 15 63 ?_; refine pnn_ 6 25 15 127 ?_; refine pnn_ 7 26 15 255 ?_; refine pnn_ 8 27 15 511 ?_; refine pnn_ 9 28 15 1023 ?_; refine pnn_ 10 29 15 2047 ?_; refine pnn_ 11 30 15 4095 ?_; refine pnn_ 12 31 15 8191 ?_; refine pnn_ 13 32 15 16383 ?_; refine pun_ 14 33 15 32767 ?_; refine dn_ ?_; try go_wp2
     go_meet
     case rel => exact ⟨_, (false), z1_, H', ⟨by have := HK1.out; first | omega | exact Nat.le_refl _⟩, ⟨hb_ HB.out⟩⟩
    rw [if_pos c10] at H; have c10b0 := dt_ c10; clear c10; (first | rw [c10b0] | (simp only [i64_w, i32_w]; rw [c10b0]) | skip); obtain ⟨ji11, hji11⟩ : ∃ j_ : Int, (wrap64 (x10_1 - 1)) = j_ := ⟨_, rfl⟩; replace H : (if 0 ≤ (ji11) then (if (ji11) < (l0.length : Int) then ((qds_.f ((qd_ l0 (ji11)).f0) ((qd_ l0 (ji11)).f1) ((qd_ l0 (ji11)).f2) ((qd_ l0 x10_1).f0) ((qd_ l0 x10_1).f1) ((qd_ l0 x10_1).f2)).bind fun t228 => (qe_.j1 k1 l0 x10_1 (l0.length : Int) x10_1 (!t228))) else (none)) else (none)) = some r := by first | (rw [hji11] at H; exact H) | (simp only [hji11] at H ⊢; exact H)
    have hji11w : (IntKind.i64.wrap (x10_1 - 1)) = ji11 := (i64_w _).trans hji11; by_cases c12 : 0 ≤ (ji11); rotate_left
    ·rw [if_neg c12] at H; exact no_ H
    rw [if_pos c12] at H; have c12b0 := dt_ c12; clear c12; by_cases c13 : (ji11) < (l0.length : Int); rotate_left
    ·rw [if_neg c13] at H; exact no_ H
    rw [if_pos c13] at H; have c13b0 := dt_ c13; clear c13; obtain ⟨t228, A14, H⟩ := bx_ H; have H' := qa_.mk H; clear H; try go_wp2
    replace HB := hd_ HB; have p226 : 0 ≤ ((ji11) : Int) := y0_; have q226 : (ji11) < (l0.length : Int) := y0_; obtain ⟨ad226, e226, hx226_0, hx226_1, hx226_2⟩ := qew_ HR0.out (ji11) p226 q226; have hw226_2 := hx226_2; have hw226_1 := hx226_1; have hw226_0 := hx226_0; obtain rfl : ad224 = ad226 := (by injection e226); replace hx226_0 := (HB.out.cell (World.block_lt_of_cell? w _ hx226_0)).trans hx226_0; replace hx226_1 := (HB.out.cell (World.block_lt_of_cell? w _ hx226_1)).trans hx226_1; replace hx226_2 := (HB.out.cell (World.block_lt_of_cell? w _ hx226_2)).trans hx226_2; replace p226 := eq_true p226; replace q226 := eq_true q226; have p227 : 0 ≤ (x10_1 : Int) := y0_; have q227 : x10_1 < (l0.length : Int) := y0_; obtain ⟨ad227, e227, hx227_0, hx227_1, hx227_2⟩ := qew_ HR0.out x10_1 p227 q227; have hw227_2 := hx227_2; have hw227_1 := hx227_1; have hw227_0 := hx227_0; obtain rfl : ad224 = ad227 := (by injection e227); replace hx227_0 := (HB.out.cell (World.block_lt_of_cell? w _ hx227_0)).trans hx227_0; replace hx227_1 := (HB.out.cell (World.block_lt_of_cell? w _ hx227_1)).trans hx227_1; replace hx227_2 := (HB.out.cell (World.block_lt_of_cell? w _ hx227_2)).trans hx227_2; replace p227 := eq_true p227; replace q227 := eq_true q227; refine qdm_ (n := 15) (S := fun w' => w'.cell? (ad224.add (((ji11)).toNat * 3)) = some (.int .i64 ((qd_ l0 (ji11)).f0)) ∧ w'.cell? ⟨(ad224.add (((ji11)).toNat * 3)).block, (ad224.add (((ji11)).toNat * 3)).off + 1, none⟩ = some (.string ((qd_ l0 (ji11)).f1)) ∧ w'.cell? ⟨(ad224.add (((ji11)).toNat * 3)).block, (ad224.add (((ji11)).toNat * 3)).off + 2, none⟩ = some (.string ((qd_ l0 (ji11)).f2)) ∧ w'.cell? (ad224.add ((x10_1).toNat * 3)) = some (.int .i64 ((qd_ l0 x10_1).f0)) ∧ w'.cell? ⟨(ad224.add ((x10_1).toNat * 3)).block, (ad224.add ((x10_1).toNat * 3)).off + 1, none⟩ = some (.string ((qd_ l0 x10_1).f1)) ∧ w'.cell? ⟨(ad224.add ((x10_1).toNat * 3)).block, (ad224.add ((x10_1).toNat * 3)).off + 2, none⟩ = some (.string ((qd_ l0 x10_1).f2))) (ds := []) (bs 15 0) (by kernel_rfl) rfl rfl ⟨((HB.out.cell (World.block_lt_of_cell? w _ hw226_0)).trans hw226_0), ((HB.out.cell (World.block_lt_of_cell? w _ hw226_1)).trans hw226_1), ((HB.out.cell (World.block_lt_of_cell? w _ hw226_2)).trans hw226_2), ((HB.out.cell (World.block_lt_of_cell? w _ hw227_0)).trans hw227_0), ((HB.out.cell (World.block_lt_of_cell? w _ hw227_1)).trans hw227_1), ((HB.out.cell (World.block_lt_of_cell? w _ hw227_2)).trans hw227_2)⟩ (fun qn_ => ?_); refine qdg_ qe_.tab8 qe_.bits8 (fun HT_ HW_ => ?_); generalize w9.drew = w15 at HB hx226_0 hx226_1 hx226_2 hx227_0 hx227_1 hx227_2 qn_ ⊢; refine pun_ 0 19 15 1 ?_; refine pun_ 1 20 15 3 ?_
    refine pun_ 2 21 15 7 ?_; refine pun_ 3 22 15 15 ?_; refine pun_ 4 23 15 31 ?_; refine pun_ 5 24 15 63 ?_; refine pun_ 6 25 15 127 ?_; refine pun_ 8 27 15 383 ?_; refine pun_ 9 28 15 895 ?_; refine pun_ 10 29 15 1919 ?_; refine tkW6n_ 7 26 15 2047 qn_ ?_; refine tkW6n_ 11 30 15 4095 qn_ ?_; refine on_ 12 31 15 8191 (fun K hK => ?_); refine goes_ func199 (by kernel_rfl) rfl #[.agg #[.int .i64 ((qd_ l0 (ji11)).f0), .string ((qd_ l0 (ji11)).f1), .string ((qd_ l0 (ji11)).f2)], .agg #[.int .i64 ((qd_ l0 x10_1).f0), .string ((qd_ l0 x10_1).f1), .string ((qd_ l0 x10_1).f2)]] (by rfl) rfl rfl (by (try simp only [List.map_toArray, List.map_cons, List.map_nil]); first | done | (simp only [hji11]; rfl) | rfl | (simp only [List.length_drop, List.length_take]; rfl)) ?_
    with_reducible refine (qds_.calls ((qd_ l0 (ji11)).f0) ((qd_ l0 (ji11)).f1) ((qd_ l0 (ji11)).f2) ((qd_ l0 x10_1).f0) ((qd_ l0 x10_1).f1) ((qd_ l0 x10_1).f2) t228 _ A14.out).mono ?_
    rintro e w16 ⟨rfl, hb⟩; refine ⟨_, rfl, ?_⟩; replace HB := ah_ HB hb; (try clear hb)
    (try clear hb2)
    (try clear hk)
    (try clear hi)
    refine hK.out _ _ ⟨((HB.out.cell (World.block_lt_of_cell? w _ hw226_0)).trans hw226_0), ((HB.out.cell (World.block_lt_of_cell? w _ hw226_1)).trans hw226_1), ((HB.out.cell (World.block_lt_of_cell? w _ hw226_2)).trans hw226_2), ((HB.out.cell (World.block_lt_of_cell? w _ hw227_0)).trans hw227_0), ((HB.out.cell (World.block_lt_of_cell? w _ hw227_1)).trans hw227_1), ((HB.out.cell (World.block_lt_of_cell? w _ hw227_2)).trans hw227_2)⟩ (fun qn_ => ?_); clear hK K; refine nrm_ 31 ?_
    refine pun_ 13 32 15 16383 ?_; refine pun_ 14 33 15 32767 ?_; refine dn_ ?_; try go_wp2
    (try subst hji11)
    go_meet
    case rel => exact ⟨_, (!t228), z1_, H', ⟨by have := HK1.out; first | omega | exact Nat.le_refl _⟩, ⟨hb_ HB.out⟩⟩
   case rest =>
    clear HC8; try clear c1
    try clear c2
    try clear c2b0
    try clear c2b1
    try clear p2
    try clear q2
    try clear hx2
    try clear c3
    try clear c3b0
    try clear c4
    try clear c4b0
    try clear c5
    try clear c5b0
    try clear p6
    try clear c7
    try clear c10
    try clear c10b0
    try clear c12
    try clear c12b0
    try clear c13
    try clear c13b0
    try clear c15
    try clear hx224_0
    try clear hx224_1
    try clear hx224_2
    try clear hx226_0
    try clear hx226_1
    try clear hx226_2
    try clear hx227_0
    try clear hx227_1
    try clear hx227_2
    try clear p2
    try clear p224
    try clear p226
    try clear p227
    try clear q224
    try clear q226
    try clear q227
    obtain ⟨kq, x33_7, rfl, HA, HJ7, HB⟩ := hcut
    cases kq with
    | zero => exact absurd HA.out (by simp [qe_.j1])
    | succ kj7 =>
     have H := HA.out; clear HA; simp only [qe_.j1] at H; by_cases c18 : x33_7 = true
     ·subst c18; rw [if_pos rfl] at H; obtain rfl := oi_ H; go_wp2
      go_ret
      exact ⟨z3_, hb_ HB.out⟩
     replace c18 := Bool.eq_false_iff.mpr c18; subst c18; rw [if_neg nft_] at H; have H' := qa_.mk H; clear H; go_wp2
     go_loopg [35] kj7 (fun kq v35 w' => ∃ (x35_3 : Int), v35 = .int .i64 x35_3 ∧ qa_ (qe_.l1 kq l0 x10_1 (l0.length : Int) x10_1 x10_1 x35_3 = some r) ∧ qa_ (kq ≤ kj7) ∧ qa_ (Below w.heap.size w w'))
     case atStart => exact ⟨(0), z1_, H', ⟨Nat.le_refl _⟩, ⟨hb_ HB.out⟩⟩
     case round =>
      clear H'; try clear c1
      try clear c2
      try clear c2b0
      try clear c2b1
      try clear p2
      try clear q2
      try clear hx2
      try clear c3
      try clear c3b0
      try clear c4
      try clear c4b0
      try clear c5
      try clear c5b0
      try clear p6
      try clear c7
      try clear c10
      try clear c10b0
      try clear c12
      try clear c12b0
      try clear c13
      try clear c13b0
      try clear c15
      try clear c18
      try clear hx224_0
      try clear hx224_1
      try clear hx224_2
      try clear hx226_0
      try clear hx226_1
      try clear hx226_2
      try clear hx227_0
      try clear hx227_1
      try clear hx227_2
      try clear p2
      try clear p224
      try clear p226
      try clear p227
      try clear p6
      try clear q2
      try clear q224
      try clear q226
      try clear q227
      obtain ⟨x35_3, rfl, HA, HK3, HB⟩ := hrel
      cases gk with
      | zero => exact absurd HA.out (by simp [qe_.l1])
      | succ k3 =>
       have H := HA.out; clear HA; simp only [qe_.l1] at H; by_cases c19 : x35_3 < x10_1; rotate_left
       ·rw [if_neg c19] at H; have c19b0 := df_ c19; clear c19; have H' := qa_.mk H; clear H; go_wp2
        go_roundg k3
        case measure => have := HK1.out; have := HJ7.out; have := HK3.out; omega
        case rel => exact ⟨(wrap64 (x10_1 + 1)), z1_, H', ⟨by have := HK1.out; have := HJ7.out; have := HK3.out; omega⟩, ⟨hb_ HB.out⟩⟩
       rw [if_pos c19] at H; have c19b0 := dt_ c19; clear c19; by_cases c20 : 0 ≤ x35_3; rotate_left
       ·rw [if_neg c20] at H; exact no_ H
       rw [if_pos c20] at H; have c20b0 := dt_ c20; clear c20; by_cases c21 : x35_3 < (l0.length : Int); rotate_left
       ·rw [if_neg c21] at H; exact no_ H
       rw [if_pos c21] at H; have c21b0 := dt_ c21; clear c21; by_cases c22 : 0 ≤ x10_1; rotate_left
       ·rw [if_neg c22] at H; exact no_ H
       rw [if_pos c22] at H; have c22b0 := dt_ c22; clear c22; by_cases c23 : x10_1 < (l0.length : Int); rotate_left
       ·rw [if_neg c23] at H; exact no_ H
       rw [if_pos c23] at H; have c23b0 := dt_ c23; clear c23; by_cases c24 : ((qd_ l0 x35_3).f1).toList = ((qd_ l0 x10_1).f1).toList
       ·rw [if_pos c24] at H; have c24b0 := et_ c24; have c24b1 := nf_ c24; clear c24; obtain rfl := oi_ H; try go_wp2
        replace HB := hd_ HB; have p229 : 0 ≤ (x35_3 : Int) := y0_; have q229 : x35_3 < (l0.length : Int) := y0_; obtain ⟨ad229, e229, hx229_0, hx229_1, hx229_2⟩ := qew_ HR0.out x35_3 p229 q229; have hw229_2 := hx229_2; have hw229_1 := hx229_1; have hw229_0 := hx229_0; obtain rfl : ad224 = ad229 := (by injection e229); replace hx229_0 := (HB.out.cell (World.block_lt_of_cell? w _ hx229_0)).trans hx229_0; replace hx229_1 := (HB.out.cell (World.block_lt_of_cell? w _ hx229_1)).trans hx229_1; replace hx229_2 := (HB.out.cell (World.block_lt_of_cell? w _ hx229_2)).trans hx229_2; replace p229 := eq_true p229; replace q229 := eq_true q229; have p230 : 0 ≤ (x10_1 : Int) := y0_; have q230 : x10_1 < (l0.length : Int) := y0_; obtain ⟨ad230, e230, hx230_0, hx230_1, hx230_2⟩ := qew_ HR0.out x10_1 p230 q230; have hw230_2 := hx230_2; have hw230_1 := hx230_1; have hw230_0 := hx230_0; obtain rfl : ad224 = ad230 := (by injection e230); replace hx230_0 := (HB.out.cell (World.block_lt_of_cell? w _ hx230_0)).trans hx230_0; replace hx230_1 := (HB.out.cell (World.block_lt_of_cell? w _ hx230_1)).trans hx230_1; replace hx230_2 := (HB.out.cell (World.block_lt_of_cell? w _ hx230_2)).trans hx230_2; replace p230 := eq_true p230; replace q230 := eq_true q230; refine qdm_ (n := 11) (S := fun w' => w'.cell? (ad224.add ((x35_3).toNat * 3)) = some (.int .i64 ((qd_ l0 x35_3).f0)) ∧ w'.cell? ⟨(ad224.add ((x35_3).toNat * 3)).block, (ad224.add ((x35_3).toNat * 3)).off + 1, none⟩ = some (.string ((qd_ l0 x35_3).f1)) ∧ w'.cell? ⟨(ad224.add ((x35_3).toNat * 3)).block, (ad224.add ((x35_3).toNat * 3)).off + 2, none⟩ = some (.string ((qd_ l0 x35_3).f2)) ∧ w'.cell? (ad224.add ((x10_1).toNat * 3)) = some (.int .i64 ((qd_ l0 x10_1).f0)) ∧ w'.cell? ⟨(ad224.add ((x10_1).toNat * 3)).block, (ad224.add ((x10_1).toNat * 3)).off + 1, none⟩ = some (.string ((qd_ l0 x10_1).f1)) ∧ w'.cell? ⟨(ad224.add ((x10_1).toNat * 3)).block, (ad224.add ((x10_1).toNat * 3)).off + 2, none⟩ = some (.string ((qd_ l0 x10_1).f2))) (ds := []) (bs 11 0) (by kernel_rfl) rfl rfl ⟨((HB.out.cell (World.block_lt_of_cell? w _ hw229_0)).trans hw229_0), ((HB.out.cell (World.block_lt_of_cell? w _ hw229_1)).trans hw229_1), ((HB.out.cell (World.block_lt_of_cell? w _ hw229_2)).trans hw229_2), ((HB.out.cell (World.block_lt_of_cell? w _ hw230_0)).trans hw230_0), ((HB.out.cell (World.block_lt_of_cell? w _ hw230_1)).trans hw230_1), ((HB.out.cell (World.block_lt_of_cell? w _ hw230_2)).trans hw230_2)⟩ (fun qn_ => ?_); refine qdg_ qe_.tab13 qe_.bits13 (fun HT_ HW_ => ?_); generalize wr.drew = w25 at HB hx229_0 hx229_1 hx229_2 hx230_0 hx230_1 hx230_2 qn_ ⊢; refine pun_ 0 38 11 1 ?_; refine pun_ 1 39 11 3 ?_
        refine pun_ 2 40 11 7 ?_; refine pun_ 3 41 11 15 ?_; refine pun_ 5 43 11 47 ?_; refine pun_ 6 44 11 111 ?_; refine pun_ 7 45 11 239 ?_; refine pun_ 8 46 11 495 ?_; refine tkW6n_ 4 42 11 511 qn_ ?_; refine tkW6n_ 9 47 11 1023 qn_ ?_; refine pun_ 10 48 11 2047 ?_; refine dn_ ?_; try go_wp2
        go_ret
        exact ⟨z3_, hb_ HB.out⟩
       rw [if_neg c24] at H; have c24b0 := ef_ c24; have c24b1 := nt_ c24; have H' := qa_.mk H; clear H; try go_wp2
       replace HB := hd_ HB; have p229 : 0 ≤ (x35_3 : Int) := y0_; have q229 : x35_3 < (l0.length : Int) := y0_; obtain ⟨ad229, e229, hx229_0, hx229_1, hx229_2⟩ := qew_ HR0.out x35_3 p229 q229; have hw229_2 := hx229_2; have hw229_1 := hx229_1; have hw229_0 := hx229_0; obtain rfl : ad224 = ad229 := (by injection e229); replace hx229_0 := (HB.out.cell (World.block_lt_of_cell? w _ hx229_0)).trans hx229_0; replace hx229_1 := (HB.out.cell (World.block_lt_of_cell? w _ hx229_1)).trans hx229_1; replace hx229_2 := (HB.out.cell (World.block_lt_of_cell? w _ hx229_2)).trans hx229_2; replace p229 := eq_true p229; replace q229 := eq_true q229; have p230 : 0 ≤ (x10_1 : Int) := y0_; have q230 : x10_1 < (l0.length : Int) := y0_; obtain ⟨ad230, e230, hx230_0, hx230_1, hx230_2⟩ := qew_ HR0.out x10_1 p230 q230; have hw230_2 := hx230_2; have hw230_1 := hx230_1; have hw230_0 := hx230_0; obtain rfl : ad224 = ad230 := (by injection e230); replace hx230_0 := (HB.out.cell (World.block_lt_of_cell? w _ hx230_0)).trans hx230_0; replace hx230_1 := (HB.out.cell (World.block_lt_of_cell? w _ hx230_1)).trans hx230_1; replace hx230_2 := (HB.out.cell (World.block_lt_of_cell? w _ hx230_2)).trans hx230_2; replace p230 := eq_true p230; replace q230 := eq_true q230; refine qdm_ (n := 11) (S := fun w' => w'.cell? (ad224.add ((x35_3).toNat * 3)) = some (.int .i64 ((qd_ l0 x35_3).f0)) ∧ w'.cell? ⟨(ad224.add ((x35_3).toNat * 3)).block, (ad224.add ((x35_3).toNat * 3)).off + 1, none⟩ = some (.string ((qd_ l0 x35_3).f1)) ∧ w'.cell? ⟨(ad224.add ((x35_3).toNat * 3)).block, (ad224.add ((x35_3).toNat * 3)).off + 2, none⟩ = some (.string ((qd_ l0 x35_3).f2)) ∧ w'.cell? (ad224.add ((x10_1).toNat * 3)) = some (.int .i64 ((qd_ l0 x10_1).f0)) ∧ w'.cell? ⟨(ad224.add ((x10_1).toNat * 3)).block, (ad224.add ((x10_1).toNat * 3)).off + 1, none⟩ = some (.string ((qd_ l0 x10_1).f1)) ∧ w'.cell? ⟨(ad224.add ((x10_1).toNat * 3)).block, (ad224.add ((x10_1).toNat * 3)).off + 2, none⟩ = some (.string ((qd_ l0 x10_1).f2))) (ds := []) (bs 11 0) (by kernel_rfl) rfl rfl ⟨((HB.out.cell (World.block_lt_of_cell? w _ hw229_0)).trans hw229_0), ((HB.out.cell (World.block_lt_of_cell? w _ hw229_1)).trans hw229_1), ((HB.out.cell (World.block_lt_of_cell? w _ hw229_2)).trans hw229_2), ((HB.out.cell (World.block_lt_of_cell? w _ hw230_0)).trans hw230_0), ((HB.out.cell (World.block_lt_of_cell? w _ hw230_1)).trans hw230_1), ((HB.out.cell (World.block_lt_of_cell? w _ hw230_2)).trans hw230_2)⟩ (fun qn_ => ?_); refine qdg_ qe_.tab13 qe_.bits13 (fun HT_ HW_ => ?_); generalize wr.drew = w26 at HB hx229_0 hx229_1 hx229_2 hx230_0 hx230_1 hx230_2 qn_ ⊢; refine pun_ 0 38 11 1 ?_; refine pun_ 1 39 11 3 ?_
       refine pun_ 2 40 11 7 ?_; refine pun_ 3 41 11 15 ?_; refine pun_ 5 43 11 47 ?_; refine pun_ 6 44 11 111 ?_; refine pun_ 7 45 11 239 ?_; refine pun_ 8 46 11 495 ?_; refine tkW6n_ 4 42 11 511 qn_ ?_; refine tkW6n_ 9 47 11 1023 qn_ ?_; refine pun_ 10 48 11 2047 ?_; refine dn_ ?_; try go_wp2
       go_roundg k3
       case measure => have := HK1.out; have := HJ7.out; have := HK3.out; omega
       case rel => exact ⟨(wrap64 (x35_3 + 1)), z1_, H', ⟨by have := HK1.out; have := HJ7.out; have := HK3.out; omega⟩, ⟨hb_ HB.out⟩⟩
def qbl_.l0 : Nat → ByteArray → List (S108) → Option ((List (S108)) × Int)
 | 0, _, _ => none
 | k + 1, x0, x4 => if x0.toList = ([] : List UInt8) then ((qe_.f k x4).bind fun t102 => (if t102 = 0 then (some (x4, 0)) else (some (([] : List (S108)), t102)))) else ((qcj_.f k x0).bind fun bt103 => (if bt103.2.2.2.2 = 0 then (if x4.length < 3518437208883 then (if 0 ≤ bt103.2.2.2.1 then (if bt103.2.2.2.1 ≤ (x0.size : Int) then (qbl_.l0 k (x0.extract (bt103.2.2.2.1 : Int).toNat x0.size) (x4 ++ [(⟨bt103.1, bt103.2.1, bt103.2.2.1⟩ : S108)])) else (none)) else (none)) else (none)) else (some (([] : List (S108)), bt103.2.2.2.2))))
def qbl_.f (k : Nat) (a0 : ByteArray) : Option ((List (S108)) × Int) := qbl_.l0 k a0 ([] : List (S108))
theorem qbl_.calls (k : Nat) (a0 : ByteArray) (r1 : List (S108)) (r2 : Int) (w : World) (h : qbl_.f k a0 = some (r1, r2)) :
  Calls Tryz.prog 96 #[.string a0] w fun e w' => ∃ v0_ : Value, e = .returned (.tuple #[v0_, .int .i64 r2]) ∧ Kd.R k108 108 w' w.heap.size (fun _ => True) v0_ r1 ∧ Below w.heap.size w w' := by
 have hu108 := underlying108; have HB := qa_.mk (Below.refl w.heap.size w); unfold qbl_.f at h; have H := h; clear h; have H' := qa_.mk H; clear H; go_enter func96, ntmps96; go_wp2
 go_loopg [0, 4] k (fun kq v0 v4 w' => ∃ (x0_1 : ByteArray) (x4_1 : List (S108)), v0 = .string x0_1 ∧ qa_ (qbl_.l0 kq x0_1 x4_1 = some (r1, r2)) ∧ qa_ (kq ≤ k) ∧ qa_ (Kd.R k108 108 w' w.heap.size (fun _ => True) v4 x4_1) ∧ qa_ (Below w.heap.size w w'))
 case atStart => exact ⟨(a0), (([] : List (S108))), z1_, H', ⟨Nat.le_refl _⟩, ⟨z6_⟩, ⟨hb_ HB.out⟩⟩
 case round =>
  clear H'; obtain ⟨x0_1, x4_1, rfl, HA, HK1, HO_4, HB⟩ := hrel
  cases gk with
  | zero => exact absurd HA.out (by simp [qbl_.l0])
  | succ k1 =>
   have H := HA.out; clear HA; simp only [qbl_.l0] at H; by_cases c2 : x0_1.toList = ([] : List UInt8)
   ·rw [if_pos c2] at H; have c2b0 := et_ c2; have c2b1 := nf_ c2; clear c2; obtain ⟨t102, A3, H⟩ := bx_ H; by_cases c4 : t102 = 0
    ·rw [if_pos c4] at H; have c4b0 := et_ c4; have c4b1 := nf_ c4; clear c4; obtain ⟨rfl, rfl⟩ := pj2_ H; obtain ⟨Ao5, co5, eo5⟩ := Kd.R_slice HO_4.out; subst eo5; go_wp2_with (first | ((with_reducible refine qb_ (f := 153) rfl ?_); refine gl_ (some 28) func153 #[.slice Ao5 x4_1.length co5] ?_; (with_reducible refine (qe_.calls k1 _ _ x4_1 t102 _ ?side1 ?side2 A3.out).mono ?_); (case side1 => repeat (first | exact (Kd.R_reads' HO_4.out).2.2 | (with_reducible refine Kd.C_alloc ?_ _) | (with_reducible refine Kd.C_drewN ?_ _) | (with_reducible refine Kd.C_drew ?_))); (case side2 => exact (Kd.R_reads' HO_4.out).2.1); rintro e w6 ⟨rfl, hb⟩; refine ⟨_, rfl, ?_⟩; replace HO_4 := qa_.mk (Kd.R_below (rk_ HO_4.out) hb); replace HB := ah_ HB hb; (try clear hb); (try clear hb2); (try clear hk); (try clear hi)))
     go_ret2
     exact ⟨_, z3_, rk_ HO_4.out, hb_ HB.out⟩
    rw [if_neg c4] at H; have c4b0 := ef_ c4; have c4b1 := nt_ c4; obtain ⟨rfl, rfl⟩ := pj2_ H; obtain ⟨Ao7, co7, eo7⟩ := Kd.R_slice HO_4.out; subst eo7; go_wp2_with (first | ((with_reducible refine qb_ (f := 153) rfl ?_); refine gl_ (some 28) func153 #[.slice Ao7 x4_1.length co7] ?_; (with_reducible refine (qe_.calls k1 _ _ x4_1 t102 _ ?side1 ?side2 A3.out).mono ?_); (case side1 => repeat (first | exact (Kd.R_reads' HO_4.out).2.2 | (with_reducible refine Kd.C_alloc ?_ _) | (with_reducible refine Kd.C_drewN ?_ _) | (with_reducible refine Kd.C_drew ?_))); (case side2 => exact (Kd.R_reads' HO_4.out).2.1); rintro e w8 ⟨rfl, hb⟩; refine ⟨_, rfl, ?_⟩; replace HO_4 := qa_.mk (Kd.R_below (rk_ HO_4.out) hb); replace HB := ah_ HB hb; (try clear hb); (try clear hb2); (try clear hk); (try clear hi)))
    go_ret2
    exact ⟨_, z3_, z6_, hb_ HB.out⟩
   rw [if_neg c2] at H; have c2b0 := ef_ c2; have c2b1 := nt_ c2; obtain ⟨⟨t103, t104, t105, t106, t107⟩, A9, H⟩ := bx_ H; dsimp only at H; by_cases c10 : t107 = 0; rotate_left
   ·rw [if_neg c10] at H; have c10b0 := ef_ c10; have c10b1 := nt_ c10; obtain ⟨rfl, rfl⟩ := pj2_ H; go_wp2_with (first | ((with_reducible refine qb_ (f := 152) rfl ?_); refine gl_ (some 13) func152 #[.string x0_1] ?_; refine cm_ (qcj_.calls k1 x0_1 t103 t104 t105 t106 t107 _ A9.out) fun w18 hb => ?_; replace HO_4 := qa_.mk (Kd.R_below (rk_ HO_4.out) hb); replace HB := ah_ HB hb; (try clear hb); (try clear hb2); (try clear hk); (try clear hi)) | ((with_reducible refine qh_ (N := 5) rfl ?_); refine be_ (cs := #[.int .i64 0, .string ⟨#[]⟩, .string ⟨#[]⟩]) (t := 108) ?_; intro g108 hg w19 hbox hb; replace HO_4 := qa_.mk (Kd.R_below (Kd.R_elderB (rk_ HO_4.out) g108 (Nat.le_of_eq hg.symm)) hb); have K108 := qa_.mk (hbox); have W108 := ag_ hg HB; have E108 := ag_ hg HB; replace HB := ah_ HB hb; clear hb hbox hg; obtain ⟨Z20_0, Z20_1, Z20_2, F20⟩ := bc3 K108.out)); go_ret2
    exact ⟨_, z3_, z6_, hs_⟩
   rw [if_pos c10] at H; have c10b0 := et_ c10; have c10b1 := nf_ c10; clear c10; by_cases c11 : x4_1.length < 3518437208883; rotate_left
   ·rw [if_neg c11] at H; exact no_ H
   rw [if_pos c11] at H; have LMc11 := qa_.mk c11; clear c11; obtain ⟨y109, hy109⟩ : ∃ y_ : List (S108), y_ = (x4_1 ++ [(⟨t103, t104, t105⟩ : S108)]) := ⟨_, rfl⟩; replace H : (if 0 ≤ t106 then (if t106 ≤ (x0_1.size : Int) then (qbl_.l0 k1 (x0_1.extract (t106 : Int).toNat x0_1.size) y109) else (none)) else (none)) = some (r1, r2) := by first | (rw [hy109]; with_reducible exact H) | (have H2_ := (Option.bind_some _ _).symm.trans H; rw [hy109]; with_reducible exact H2_) | (have H2_ := (Option.bind_some _ _).symm.trans H; with_reducible exact H2_) | with_reducible exact H | (rw [hy109]; exact H) | exact H
   have Ny109 := qa_.mk hy109; clear hy109; by_cases c12 : 0 ≤ t106; rotate_left
   ·rw [if_neg c12] at H; exact no_ H
   rw [if_pos c12] at H; have c12b0 := eq_true c12; have c12b1 := dt_ c12; clear c12; by_cases c13 : t106 ≤ (x0_1.size : Int); rotate_left
   ·rw [if_neg c13] at H; exact no_ H
   rw [if_pos c13] at H; have c13b0 := eq_true c13; have c13b1 := dt_ c13; clear c13; have H' := qa_.mk H; clear H; go_wp2_with (first | ((with_reducible refine qb_ (f := 152) rfl ?_); refine gl_ (some 13) func152 #[.string x0_1] ?_; refine cm_ (qcj_.calls k1 x0_1 t103 t104 t105 t106 t107 _ A9.out) fun w14 hb => ?_; replace HO_4 := qa_.mk (Kd.R_below (rk_ HO_4.out) hb); replace HB := ah_ HB hb; (try clear hb); (try clear hb2); (try clear hk); (try clear hi)) | ((with_reducible refine qh_ (N := 5) rfl ?_); refine be_ (cs := #[.int .i64 0, .string ⟨#[]⟩, .string ⟨#[]⟩]) (t := 108) ?_; intro g108 hg w15 hbox hb; replace HO_4 := qa_.mk (Kd.R_below (Kd.R_elderB (rk_ HO_4.out) g108 (Nat.le_of_eq hg.symm)) hb); have K108 := qa_.mk (hbox); have W108 := ag_ hg HB; have E108 := ag_ hg HB; replace HB := ah_ HB hb; clear hb hbox hg; obtain ⟨Z16_0, Z16_1, Z16_2, F16⟩ := bc3 K108.out) | ((with_reducible refine qdp_ (b := .append) (xs := #[.tmp 20, .tmp 22]) rfl ?_); at_builtin; refine Kd.R_append k108 (w0 := w) w.heap.size rfl (.tmp 20) (.tmp 22) 104 108 (.agg #[(.int .i64 0), (.string ⟨#[]⟩), (.string ⟨#[]⟩)]) 40 rfl underlying104 info108 rfl (by decide) (by omega) u4 x4_1 (⟨t103, t104, t105⟩ : S108) [.int .i64 t103, .string t104, .string t105] (fun k_ => k_ ≠ g108) (fun _ => False) rfl z27_ ?aP (fun _ hk => hk.elim) ?aF ?aO ?aB ?aS ?aL ?_; (case aP => exact k108_mkM _ _ _ (⟨t103, t104, t105⟩ : S108)); (case aB => exact (hs_)); (case aF => exact (fun k_ hk => Kd.freshB (g := g108) (o := .cells #[.int .i64 t103, .string t104, .string t105] 108 (0, 0)) (by have b_ := K108; exact zb_) k_ hk)); (case aO => exact (by (with_reducible repeat (first | apply Kd.R_alloc | apply Kd.R_drewN | apply Kd.R_drew)); exact Kd.R_mono (Kd.R_far (p := ⟨g108, 2, none⟩) (Kd.R_far (p := ⟨g108, 1, none⟩) (Kd.R_far (p := ⟨g108, 0, none⟩) (Kd.R_mono HO_4.out (fun k_ hk => (⟨hk, hk.2⟩ : _ ∧ k_ ≠ g108))) (fun _ hk => hk.2) (.int .i64 t103)) (fun _ hk => hk.2) (.string t104)) (fun _ hk => hk.2) (.string t105)) (fun _ hk => hk.1.2))); (case aS => exact (qj_ (hs_))); (case aL => have := LMc11.out; omega); intro v110 w17 ho hb hg hat; rw [← Ny109.out] at ho; have n0_ := qa_.mk (qdd_ (g := g108) (o := .cells #[.int .i64 t103, .string t104, .string t105] 108 (0, 0)) (by have b_ := K108; exact zb_) hg (Kd.R_away HO_4.out (fun _ hk => hk.2))); have n1_ := qa_.mk (hb); have n2_ := qa_.mk (ho); clear K108; clear HB; clear HO_4; have K108 := n0_; have HB := n1_; have HO111 := n2_; clear n0_ n1_ n2_; clear ho hb hg hat)); go_roundg k1
   case measure => have := HK1.out; omega
   case rel => exact ⟨(x0_1.extract (t106 : Int).toNat x0_1.size), (y109), z1_, H', ⟨by have := HK1.out; omega⟩, ⟨by (with_reducible repeat (first | apply Kd.R_alloc | apply Kd.R_drewN | apply Kd.R_drew)); exact Kd.R_mono HO111.out (fun _ hk => trivial)⟩, ⟨hs_⟩⟩
def qdb_.f (k : Nat) (a0_0 : Int) (a0_1 : ByteArray) : Option (Int) := (qbr_.f k a0_0 a0_1).bind fun bt113 => (if bt113.2 = 0 then (if a0_0 = 2 then ((qbl_.f k a0_1).bind fun bt115 => (some bt115.2)) else (if a0_0 = 3 then ((qk_.f k a0_1).bind fun bt119 => (some bt119.2.2.2.2.2.2.2.2.2.2.2)) else (if a0_0 = 4 then ((qab_.f k a0_1).bind fun bt133 => (some bt133.2.2.2.2.2.2.2.2)) else (some bt113.2)))) else (some bt113.2))
theorem qdb_.calls (k : Nat) (a0_0 : Int) (a0_1 : ByteArray) (r : Int) (w : World) (h : qdb_.f k a0_0 a0_1 = some r) :
  Calls Tryz.prog 37 #[.agg #[.int .i64 a0_0, .string a0_1]] w fun e w' => e = .returned (.int .i64 r) ∧ Below w.heap.size w w' := by
 have hu50 := underlying50; have HB := qa_.mk (Below.refl w.heap.size w); unfold qdb_.f at h; have H := h; clear h; obtain ⟨⟨t113, t114⟩, A2, H⟩ := bx_ H; dsimp only at H; by_cases c3 : t114 = 0; rotate_left
 ·rw [if_neg c3] at H; have c3b0 := ef_ c3; have c3b1 := nt_ c3; obtain rfl := oi_ H; go_enter func37, ntmps37; go_wp2_with (first | ((with_reducible refine qh_ (N := 1) rfl ?_); refine be_ (cs := #[.int .i64 a0_0, .string a0_1]) (t := 50) ?_; intro g112 hg w29 hbox hb; have K112 := qa_.mk (hbox); have W112 := ag_ hg HB; have E112 := ag_ hg HB; replace HB := ah_ HB hb; clear hb hbox hg; obtain ⟨Z30_0, Z30_1, F30⟩ := bc2 K112.out) | ((with_reducible refine qb_ (f := 98) rfl ?_); refine gl_ (some 7) func98 #[.agg #[.int .i64 a0_0, .string a0_1]] ?_; refine cm_ (qbr_.calls k a0_0 a0_1 t113 t114 _ A2.out) fun w31 hb => ?_; replace K112 := ab_ K112 hb; replace HB := hr_ hb; (try clear hb); (try clear hb2); (try clear hk); (try clear hi)))
  go_ret
  exact ⟨z3_, hs_⟩
 rw [if_pos c3] at H; have c3b0 := et_ c3; have c3b1 := nf_ c3; clear c3; by_cases c4 : a0_0 = 2
 ·rw [if_pos c4] at H; have c4b0 := et_ c4; have c4b1 := nf_ c4; clear c4; obtain ⟨⟨t115, t116⟩, A5, H⟩ := bx_ H; dsimp only at H; obtain rfl := oi_ H; go_enter func37, ntmps37; go_wp2_with (first | ((with_reducible refine qh_ (N := 1) rfl ?_); refine be_ (cs := #[.int .i64 a0_0, .string a0_1]) (t := 50) ?_; intro g112 hg w6 hbox hb; have K112 := qa_.mk (hbox); have W112 := ag_ hg HB; have E112 := ag_ hg HB; replace HB := ah_ HB hb; clear hb hbox hg; obtain ⟨Z7_0, Z7_1, F7⟩ := bc2 K112.out) | ((with_reducible refine qb_ (f := 98) rfl ?_); refine gl_ (some 7) func98 #[.agg #[.int .i64 a0_0, .string a0_1]] ?_; refine cm_ (qbr_.calls k a0_0 a0_1 t113 t114 _ A2.out) fun w8 hb => ?_; replace K112 := ab_ K112 hb; replace HB := hr_ hb; (try clear hb); (try clear hb2); (try clear hk); (try clear hi); obtain ⟨Z9_0, Z9_1, F9⟩ := bc2 K112.out) | ((with_reducible refine qb_ (f := 96) rfl ?_); refine gl_ (some 20) func96 #[.string a0_1] ?_; (with_reducible refine (qbl_.calls k a0_1 t115 t116 _ A5.out).mono ?_); rintro e w10 ⟨v117, rfl, ho0, hb⟩; refine ⟨_, rfl, ?_⟩; have HO118 := qa_.mk (Kd.R_lower ho0 (qj_ (hs_))); replace K112 := ab_ K112 hb; replace HB := hr_ hb; (try clear hb); (try clear hb2); (try clear hk); (try clear hi); (try clear ho0)))
  go_ret
  exact ⟨z3_, hs_⟩
 rw [if_neg c4] at H; have c4b0 := ef_ c4; have c4b1 := nt_ c4; by_cases c11 : a0_0 = 3
 ·rw [if_pos c11] at H; have c11b0 := et_ c11; have c11b1 := nf_ c11; clear c11; obtain ⟨⟨t119, t120, t123, t124, t125, t126, t127, t128, t129, t130, t131, t132⟩, A12, H⟩ := bx_ H; dsimp only at H; obtain rfl := oi_ H; go_enter func37, ntmps37; go_wp2_with (first | ((with_reducible refine qh_ (N := 1) rfl ?_); refine be_ (cs := #[.int .i64 a0_0, .string a0_1]) (t := 50) ?_; intro g112 hg w13 hbox hb; have K112 := qa_.mk (hbox); have W112 := ag_ hg HB; have E112 := ag_ hg HB; replace HB := ah_ HB hb; clear hb hbox hg; obtain ⟨Z14_0, Z14_1, F14⟩ := bc2 K112.out) | ((with_reducible refine qb_ (f := 98) rfl ?_); refine gl_ (some 7) func98 #[.agg #[.int .i64 a0_0, .string a0_1]] ?_; refine cm_ (qbr_.calls k a0_0 a0_1 t113 t114 _ A2.out) fun w15 hb => ?_; replace K112 := ab_ K112 hb; replace HB := hr_ hb; (try clear hb); (try clear hb2); (try clear hk); (try clear hi); obtain ⟨Z16_0, Z16_1, F16⟩ := bc2 K112.out) | ((with_reducible refine qb_ (f := 22) rfl ?_); refine gl_ (some 28) func22 #[.string a0_1] ?_; (with_reducible refine (qk_.calls k a0_1 t119 t120 t123 t124 t125 t126 t127 t128 t129 t130 t131 t132 _ A12.out).mono ?_); rintro e w17 ⟨v121, rfl, ho0, hb⟩; refine ⟨_, rfl, ?_⟩; have HO122 := qa_.mk (Kd.R_lower ho0 (qj_ (hs_))); replace K112 := ab_ K112 hb; replace HB := hr_ hb; (try clear hb); (try clear hb2); (try clear hk); (try clear hi); (try clear ho0)))
  go_ret
  exact ⟨z3_, hs_⟩
 rw [if_neg c11] at H; have c11b0 := ef_ c11; have c11b1 := nt_ c11; by_cases c18 : a0_0 = 4; rotate_left
 ·rw [if_neg c18] at H; have c18b0 := ef_ c18; have c18b1 := nt_ c18; obtain rfl := oi_ H; go_enter func37, ntmps37; go_wp2_with (first | ((with_reducible refine qh_ (N := 1) rfl ?_); refine be_ (cs := #[.int .i64 a0_0, .string a0_1]) (t := 50) ?_; intro g112 hg w25 hbox hb; have K112 := qa_.mk (hbox); have W112 := ag_ hg HB; have E112 := ag_ hg HB; replace HB := ah_ HB hb; clear hb hbox hg; obtain ⟨Z26_0, Z26_1, F26⟩ := bc2 K112.out) | ((with_reducible refine qb_ (f := 98) rfl ?_); refine gl_ (some 7) func98 #[.agg #[.int .i64 a0_0, .string a0_1]] ?_; refine cm_ (qbr_.calls k a0_0 a0_1 t113 t114 _ A2.out) fun w27 hb => ?_; replace K112 := ab_ K112 hb; replace HB := hr_ hb; (try clear hb); (try clear hb2); (try clear hk); (try clear hi); obtain ⟨Z28_0, Z28_1, F28⟩ := bc2 K112.out)); go_ret
  exact ⟨z3_, hs_⟩
 rw [if_pos c18] at H; have c18b0 := et_ c18; have c18b1 := nf_ c18; clear c18; obtain ⟨⟨t133, t134, t135, t136, t137, t138, t139, t140, t141⟩, A19, H⟩ := bx_ H; dsimp only at H; obtain rfl := oi_ H; go_enter func37, ntmps37; go_wp2_with (first | ((with_reducible refine qh_ (N := 1) rfl ?_); refine be_ (cs := #[.int .i64 a0_0, .string a0_1]) (t := 50) ?_; intro g112 hg w20 hbox hb; have K112 := qa_.mk (hbox); have W112 := ag_ hg HB; have E112 := ag_ hg HB; replace HB := ah_ HB hb; clear hb hbox hg; obtain ⟨Z21_0, Z21_1, F21⟩ := bc2 K112.out) | ((with_reducible refine qb_ (f := 98) rfl ?_); refine gl_ (some 7) func98 #[.agg #[.int .i64 a0_0, .string a0_1]] ?_; refine cm_ (qbr_.calls k a0_0 a0_1 t113 t114 _ A2.out) fun w22 hb => ?_; replace K112 := ab_ K112 hb; replace HB := hr_ hb; (try clear hb); (try clear hb2); (try clear hk); (try clear hi); obtain ⟨Z23_0, Z23_1, F23⟩ := bc2 K112.out) | ((with_reducible refine qb_ (f := 24) rfl ?_); refine gl_ (some 36) func24 #[.string a0_1] ?_; refine cm_ (qab_.calls k a0_1 t133 t134 t135 t136 t137 t138 t139 t140 t141 _ A19.out) fun w24 hb => ?_; replace K112 := ab_ K112 hb; replace HB := hr_ hb; (try clear hb); (try clear hb2); (try clear hk); (try clear hi)))
 go_ret
 exact ⟨z3_, hs_⟩
def qcl_.l0 : Nat → List ByteArray → ByteArray → Int → Option (Bool)
 | 0, _, _, _ => none
 | k + 1, x0, x1, x5 => if x5 < (x0.length : Int) then (if 0 ≤ x5 then (if (rdOf ByteArray.empty x0 x5).toList = x1.toList then (some true) else (qcl_.l0 k x0 x1 (wrap64 (x5 + 1)))) else (none)) else (some false)
def qcl_.f (k : Nat) (l0 : List ByteArray) (a1 : ByteArray) : Option (Bool) := qcl_.l0 k l0 a1 0
theorem qcl_.calls (k : Nat) (A0 : Option Addr) (c0 : Nat) (l0 : List ByteArray) (a1 : ByteArray) (r : Bool) (w : World) (hr0 : Kd.C Kd.string w A0 l0.length l0) (hc0 : l0.length ≤ c0) (h : qcl_.f k l0 a1 = some r) :
  Calls Tryz.prog 62 #[.slice A0 l0.length c0, .string a1] w fun e w' => e = .returned (.bool r) ∧ Drawn0 w w' := by
 have HR0 := qa_.mk hr0; have HC0 := qa_.mk hc0; clear hr0 hc0; unfold qcl_.f at h; have H := h; clear h; have H' := qa_.mk H; clear H; go_enter func62, ntmps62; go_wp2
 go_loopg [5] k (fun kq v5 w' => ∃ (x5_1 : Int), v5 = .int .i64 x5_1 ∧ qa_ (qcl_.l0 kq l0 a1 x5_1 = some r) ∧ qa_ (kq ≤ k) ∧ Drawn0 w w')
 case atStart => exact ⟨(0), z1_, H', ⟨Nat.le_refl _⟩, z2_⟩
 case round =>
  clear H'; try clear p2
  obtain ⟨x5_1, rfl, HA, HK1, ⟨m1, rfl⟩⟩ := hrel
  cases gk with
  | zero => exact absurd HA.out (by simp [qcl_.l0])
  | succ k1 =>
   have H := HA.out; clear HA; simp only [qcl_.l0] at H; by_cases c3 : x5_1 < (l0.length : Int); rotate_left
   ·rw [if_neg c3] at H; have c3b0 := df_ c3; clear c3; obtain rfl := oi_ H; go_wp2
    go_ret
    exact ⟨z1_, z2_⟩
   rw [if_pos c3] at H; have c3b0 := dt_ c3; clear c3; by_cases c4 : 0 ≤ x5_1; rotate_left
   ·rw [if_neg c4] at H; exact no_ H
   rw [if_pos c4] at H; have c4b0 := dt_ c4; clear c4; by_cases c5 : (rdOf ByteArray.empty l0 x5_1).toList = a1.toList
   ·rw [if_pos c5] at H; have c5b0 := et_ c5; have c5b1 := nf_ c5; clear c5; obtain rfl := oi_ H; have p138 : 0 ≤ (x5_1 : Int) := y0_; have q138 : x5_1 < (l0.length : Int) := y0_; obtain ⟨ad138, e138, hx138_0⟩ := Kd.at_string HR0.out x5_1 p138 q138
    cases e138
    replace p138 := eq_true p138; replace q138 := eq_true q138; go_wp2
    go_ret
    exact ⟨z1_, z2_⟩
   rw [if_neg c5] at H; have c5b0 := ef_ c5; have c5b1 := nt_ c5; have H' := qa_.mk H; clear H; have p138 : 0 ≤ (x5_1 : Int) := y0_; have q138 : x5_1 < (l0.length : Int) := y0_; obtain ⟨ad138, e138, hx138_0⟩ := Kd.at_string HR0.out x5_1 p138 q138
   cases e138
   replace p138 := eq_true p138; replace q138 := eq_true q138; go_wp2
   go_roundg k1
   case measure => have := HK1.out; omega
   case rel => exact ⟨(wrap64 (x5_1 + 1)), z1_, H', ⟨by have := HK1.out; omega⟩, z2_⟩
end
end Go.Proofs.YtbhfbbfjdklfgaaGreatDoor.Q

