/- The law CommitReads holds: for every input it returns true, and each argument reads afterwards as it read before. -/
import Derived.Test.YtbhfbbfjdklfgaaGreatDoorMCommitReads2
import Derived.Lib.AtoiErrMem
import Derived.Lib.AppendZerosOnto
import Derived.Lib.Overlaps
import Derived.Lib.SliceRun
import Derived.Deep.AppendSrc
import Derived.Laws.CopyRow
import Derived.Maps.OwnOps
import Derived.Maps.OwnSet
import Derived.Maps.Views
set_option linter.unusedVariables false
set_option linter.unusedSimpArgs false
set_option maxHeartbeats 8000000
set_option maxRecDepth 100000
namespace Go.Proofs.YtbhfbbfjdklfgaaGreatDoor.Q
open Go.Proofs.Tryz Go.RowKit Go.Proofs.YtbhfbbfjdklfgaaGreatDoorW.PrintWords Go.Proofs.YtbhfbbfjdklfgaaGreatDoorW.PrintLast Go.Proofs.YtbhfbbfjdklfgaaGreatDoorW.PrintMore
attribute [local go_sem] qec_ qef_ qen_ qeo_ qdt_ qdu_ qdz_ qee_
mutual
def qi_.j0 : Nat → ByteArray → ByteArray → Int → Bool → ByteArray → ByteArray → ByteArray → Int → Int → ByteArray → ByteArray → Int → Int → ByteArray → Option (ByteArray × List ByteArray × ByteArray × ByteArray × Int × Int × ByteArray × ByteArray × Int × Int × ByteArray × Int)
 | 0, _, _, _, _, _, _, _, _, _, _, _, _, _, _ => none
 | k + 1, x0, x5, x6, x34, x108000, x108002, x108003, x108004, x108005, x108006, x108007, x108008, x108009, x108010 => if x34 = true then (some ((⟨#[]⟩ : ByteArray), ([] : List ByteArray), (⟨#[]⟩ : ByteArray), (⟨#[]⟩ : ByteArray), 0, 0, (⟨#[]⟩ : ByteArray), (⟨#[]⟩ : ByteArray), 0, 0, (⟨#[]⟩ : ByteArray), 2)) else ((qau_.f k x0 x6 ⟨#[112, 97, 114, 101, 110, 116]⟩).bind fun bt112 => (qi_.l0 k x0 x6 bt112.1 bt112.2.1 bt112.2.2 x5 ([] : List ByteArray) x108002 x108003 x108004 x108005 x108006 x108007 x108008 x108009 x108010))
def qi_.l0 : Nat → ByteArray → Int → ByteArray → Int → Bool → ByteArray → List ByteArray → ByteArray → ByteArray → Int → Int → ByteArray → ByteArray → Int → Int → ByteArray → Option (ByteArray × List ByteArray × ByteArray × ByteArray × Int × Int × ByteArray × ByteArray × Int × Int × ByteArray × Int)
 | 0, _, _, _, _, _, _, _, _, _, _, _, _, _, _, _, _ => none
 | k + 1, x0, x6, x8, x9, x10, x108000, x108001, x108002, x108003, x108004, x108005, x108006, x108007, x108008, x108009, x108010 => if x10 = true then ((qw_.f k x8).bind fun t115 => (if t115 = true then (if x108001.length < 8796093022208 then ((qau_.f k x0 x9 ⟨#[112, 97, 114, 101, 110, 116]⟩).bind fun bt119 => (qi_.l0 k x0 x9 bt119.1 bt119.2.1 bt119.2.2 x108000 (x108001 ++ [x8]) x108002 x108003 x108004 x108005 x108006 x108007 x108008 x108009 x108010)) else (none)) else (some ((⟨#[]⟩ : ByteArray), ([] : List ByteArray), (⟨#[]⟩ : ByteArray), (⟨#[]⟩ : ByteArray), 0, 0, (⟨#[]⟩ : ByteArray), (⟨#[]⟩ : ByteArray), 0, 0, (⟨#[]⟩ : ByteArray), 2)))) else ((qau_.f k x0 x6 ⟨#[97, 117, 116, 104, 111, 114]⟩).bind fun bt122 => ((qbp_.f k bt122.1 bt122.2.2).bind fun bt125 => ((qau_.f k x0 bt122.2.1 ⟨#[99, 111, 109, 109, 105, 116, 116, 101, 114]⟩).bind fun bt131 => ((qbp_.f k bt131.1 bt131.2.2).bind fun bt134 => (if bt125.2.2.2.2 = 0 then (qi_.j2 k x0 bt125.2.2.2.2 bt131.2.1 bt134.2.2.2.2 true x108000 x108001 x108002 x108003 x108004 x108005 x108006 x108007 x108008 x108009 x108010 bt125.1 bt125.2.1 bt125.2.2.1 bt125.2.2.2.1 bt134.1 bt134.2.1 bt134.2.2.1 bt134.2.2.2.1) else (if bt134.2.2.2.2 = 0 then (qi_.j2 k x0 bt125.2.2.2.2 bt131.2.1 bt134.2.2.2.2 true x108000 x108001 x108002 x108003 x108004 x108005 x108006 x108007 x108008 x108009 x108010 bt125.1 bt125.2.1 bt125.2.2.1 bt125.2.2.2.1 bt134.1 bt134.2.1 bt134.2.2.1 bt134.2.2.2.1) else (if bt131.2.1 ≥ (x0.size : Int) then (qi_.j2 k x0 bt125.2.2.2.2 bt131.2.1 bt134.2.2.2.2 true x108000 x108001 x108002 x108003 x108004 x108005 x108006 x108007 x108008 x108009 x108010 bt125.1 bt125.2.1 bt125.2.2.1 bt125.2.2.2.1 bt134.1 bt134.2.1 bt134.2.2.1 bt134.2.2.2.1) else (if 0 ≤ bt131.2.1 then (if bt131.2.1 < (x0.size : Int) then (qi_.j2 k x0 bt125.2.2.2.2 bt131.2.1 bt134.2.2.2.2 ((bt x0 bt131.2.1) != 10) x108000 x108001 x108002 x108003 x108004 x108005 x108006 x108007 x108008 x108009 x108010 bt125.1 bt125.2.1 bt125.2.2.1 bt125.2.2.2.1 bt134.1 bt134.2.1 bt134.2.2.1 bt134.2.2.2.1) else (none)) else (none)))))))))
def qi_.j2 : Nat → ByteArray → Int → Int → Int → Bool → ByteArray → List ByteArray → ByteArray → ByteArray → Int → Int → ByteArray → ByteArray → Int → Int → ByteArray → ByteArray → ByteArray → Int → Int → ByteArray → ByteArray → Int → Int → Option (ByteArray × List ByteArray × ByteArray × ByteArray × Int × Int × ByteArray × ByteArray × Int × Int × ByteArray × Int)
 | 0, _, _, _, _, _, _, _, _, _, _, _, _, _, _, _, _, _, _, _, _, _, _, _, _ => none
 | k + 1, x0, x15, x17, x20, x107, x108000, x108001, x108002, x108003, x108004, x108005, x108006, x108007, x108008, x108009, x108010, x131000, x131001, x131002, x131003, x140000, x140001, x140002, x140003 => if x107 = true then (some ((⟨#[]⟩ : ByteArray), ([] : List ByteArray), (⟨#[]⟩ : ByteArray), (⟨#[]⟩ : ByteArray), 0, 0, (⟨#[]⟩ : ByteArray), (⟨#[]⟩ : ByteArray), 0, 0, (⟨#[]⟩ : ByteArray), 2)) else (if x15 = 1 then (qi_.j3 k x0 x17 true x108000 x108001 x108002 x108003 x108004 x108005 x108006 x108007 x108008 x108009 x108010 x131000 x131001 x131002 x131003 x140000 x140001 x140002 x140003) else (qi_.j3 k x0 x17 (x20 == 1) x108000 x108001 x108002 x108003 x108004 x108005 x108006 x108007 x108008 x108009 x108010 x131000 x131001 x131002 x131003 x140000 x140001 x140002 x140003))
def qi_.j3 : Nat → ByteArray → Int → Bool → ByteArray → List ByteArray → ByteArray → ByteArray → Int → Int → ByteArray → ByteArray → Int → Int → ByteArray → ByteArray → ByteArray → Int → Int → ByteArray → ByteArray → Int → Int → Option (ByteArray × List ByteArray × ByteArray × ByteArray × Int × Int × ByteArray × ByteArray × Int × Int × ByteArray × Int)
 | 0, _, _, _, _, _, _, _, _, _, _, _, _, _, _, _, _, _, _, _, _, _, _ => none
 | k + 1, x0, x17, x114, x108000, x108001, x108002, x108003, x108004, x108005, x108006, x108007, x108008, x108009, x108010, x131000, x131001, x131002, x131003, x140000, x140001, x140002, x140003 => if x114 = true then (some ((⟨#[]⟩ : ByteArray), ([] : List ByteArray), (⟨#[]⟩ : ByteArray), (⟨#[]⟩ : ByteArray), 0, 0, (⟨#[]⟩ : ByteArray), (⟨#[]⟩ : ByteArray), 0, 0, (⟨#[]⟩ : ByteArray), 1)) else (if 0 ≤ (wrap64 (x17 + 1)) then (if (wrap64 (x17 + 1)) ≤ (x0.size : Int) then ((qe_.f k x108000 x108001 x131000 x131001 x131002 x131003 x140000 x140001 x140002 x140003 (x0.extract ((wrap64 (x17 + 1)) : Int).toNat x0.size)).bind fun t140 => (if t140 = 0 then (some (x108000, x108001, x131000, x131001, x131002, x131003, x140000, x140001, x140002, x140003, x0.extract ((wrap64 (x17 + 1)) : Int).toNat x0.size, 0)) else (some ((⟨#[]⟩ : ByteArray), ([] : List ByteArray), (⟨#[]⟩ : ByteArray), (⟨#[]⟩ : ByteArray), 0, 0, (⟨#[]⟩ : ByteArray), (⟨#[]⟩ : ByteArray), 0, 0, (⟨#[]⟩ : ByteArray), t140)))) else (none)) else (none))
end
def qi_.f (k : Nat) (a0 : ByteArray) : Option (ByteArray × List ByteArray × ByteArray × ByteArray × Int × Int × ByteArray × ByteArray × Int × Int × ByteArray × Int) := (qau_.f k a0 0 ⟨#[116, 114, 101, 101]⟩).bind fun bt108 => (if bt108.2.2 = true then ((qw_.f k bt108.1).bind fun t111 => (qi_.j0 k a0 bt108.1 bt108.2.1 (!t111) ⟨#[]⟩ ⟨#[]⟩ ⟨#[]⟩ 0 0 ⟨#[]⟩ ⟨#[]⟩ 0 0 ⟨#[]⟩)) else (qi_.j0 k a0 bt108.1 bt108.2.1 true ⟨#[]⟩ ⟨#[]⟩ ⟨#[]⟩ 0 0 ⟨#[]⟩ ⟨#[]⟩ 0 0 ⟨#[]⟩))
theorem qi_.calls (k : Nat) (a0 : ByteArray) (r1 : ByteArray) (r2 : List ByteArray) (r3 : ByteArray) (r4 : ByteArray) (r5 : Int) (r6 : Int) (r7 : ByteArray) (r8 : ByteArray) (r9 : Int) (r10 : Int) (r11 : ByteArray) (r12 : Int) (w : World) (h : qi_.f k a0 = some (r1, r2, r3, r4, r5, r6, r7, r8, r9, r10, r11, r12)) :
  Calls Tryz.prog 22 #[.string a0] w fun e w' => ∃ v1_ : Value, e = .returned (.tuple #[.agg #[.string r1, v1_, .string r3, .string r4, .int .i64 r5, .int .i64 r6, .string r7, .string r8, .int .i64 r9, .int .i64 r10, .string r11], .int .i64 r12]) ∧ Kd.R Kd.string 9 w' w.heap.size (fun _ => True) v1_ r2 ∧ Below w.heap.size w w' := by
 have hu26 := underlying26; have hu24 := underlying24; have HB := qa_.mk (Below.refl w.heap.size w); unfold qi_.f at h; have H := h; clear h; obtain ⟨⟨t108, t109, t110⟩, A2, H⟩ := bx_ H; dsimp only at H; have HC3 := qa_.mk H; clear H; go_enter func22, ntmps22; go_upto_region 3 with (first | ((with_reducible refine qk_ (N := 2) rfl ?_); (try (refine qcp_ (by rfl) ?_; dsimp only)); refine be_ (cs := #[.string ⟨#[]⟩, .slice none 0 0, .string ⟨#[]⟩, .string ⟨#[]⟩, .int .i64 0, .int .i64 0, .string ⟨#[]⟩, .string ⟨#[]⟩, .int .i64 0, .int .i64 0, .string ⟨#[]⟩]) (t := 26) ?_; intro g106 hg w4 hbox hb; have K106 := qa_.mk (hbox); have W106 := ag_ hg HB; have E106 := ag_ hg HB; replace HB := ah_ HB hb; clear hb hbox hg) | ((with_reducible refine qk_ (N := 4) rfl ?_); (try (refine qcp_ (by rfl) ?_; dsimp only)); refine be_ (cs := #[.string ⟨#[]⟩, .slice none 0 0, .string ⟨#[]⟩, .string ⟨#[]⟩, .int .i64 0, .int .i64 0, .string ⟨#[]⟩, .string ⟨#[]⟩, .int .i64 0, .int .i64 0, .string ⟨#[]⟩]) (t := 26) ?_; intro g107 hg w5 hbox hb; have K107 := qa_.mk (hbox); have W107 := qa_.mk ((by rw [hg]; exact (qn_ (hs_)) : w.heap.size ≤ g107)); have E107 := qa_.mk ((by rw [hg]; exact (qn_ (hs_)) : w.heap.size ≤ g107)); replace HB := qa_.mk (qc_ (hs_) hb); have N106_107 := qa_.mk (nl2_ hg K106.out); have N107_106 := qa_.mk (ng2_ hg K106.out); replace K106 := ab_ K106 hb; clear hb hbox hg) | ((with_reducible refine qb_ (f := 75) rfl ?_); refine gl_ (some 24) func75 #[.string a0, .int .i64 0, .string ⟨#[116, 114, 101, 101]⟩] ?_; refine cm_ (qau_.calls k a0 0 ⟨#[116, 114, 101, 101]⟩ t108 t109 t110 _ A2.out) ?_; rintro w' ⟨nd, rfl⟩)); (try simp only [Act.put, List.setIfInBounds_toArray, List.set_cons_zero, List.set_cons_succ])
 go_cut [34] (fun v34 wc => ∃ (kq : Nat) (x34_2 : Bool), v34 = .bool x34_2 ∧ qa_ (qi_.j0 kq a0 t108 t109 x34_2 ⟨#[]⟩ ⟨#[]⟩ ⟨#[]⟩ 0 0 ⟨#[]⟩ ⟨#[]⟩ 0 0 ⟨#[]⟩ = some (r1, r2, r3, r4, r5, r6, r7, r8, r9, r10, r11, r12)) ∧ qa_ (kq ≤ k) ∧ qa_ (wc.heap[g106]? = some (.cells #[.string ⟨#[]⟩, (.slice none 0 0), .string ⟨#[]⟩, .string ⟨#[]⟩, .int .i64 0, .int .i64 0, .string ⟨#[]⟩, .string ⟨#[]⟩, .int .i64 0, .int .i64 0, .string ⟨#[]⟩] 26 (0, 0))) ∧ qa_ (wc.heap[g107]? = some (.cells #[.string ⟨#[]⟩, (.slice none 0 0), .string ⟨#[]⟩, .string ⟨#[]⟩, .int .i64 0, .int .i64 0, .string ⟨#[]⟩, .string ⟨#[]⟩, .int .i64 0, .int .i64 0, .string ⟨#[]⟩] 26 (0, 0))) ∧ qa_ (Below w.heap.size w wc))
 case first =>
  have H := HC3.out; clear HC3; by_cases c6 : t110 = true; rotate_left
  ·replace c6 := Bool.eq_false_iff.mpr c6; subst c6; rw [if_neg nft_] at H; have H' := qa_.mk H; clear H; go_wp2
   go_meet
   case rel => exact ⟨_, (true), z1_, H', ⟨z4_⟩, ⟨bk_ K106.out⟩, ⟨bk_ K107.out⟩, ⟨hs_⟩⟩
  subst c6; rw [if_pos rfl] at H; obtain ⟨t111, A7, H⟩ := bx_ H; have H' := qa_.mk H; clear H; go_wp2_with (first | (go_at_call 61; (with_reducible refine (qw_.calls k t108 t111 _ A7.out).mono ?_); rintro e w' ⟨rfl, ⟨nd, rfl⟩⟩)); go_meet
  case rel => exact ⟨_, (!t111), z1_, H', ⟨z4_⟩, ⟨bk_ K106.out⟩, ⟨bk_ K107.out⟩, ⟨hs_⟩⟩
 case rest =>
  clear HC3; try clear c2
  try clear p2
  try clear c6
  try clear c7
  obtain ⟨kq, x34_2, rfl, HA, HJ2, K106, K107, HB⟩ := hcut
  cases kq with
  | zero => exact absurd HA.out (by simp [qi_.j0])
  | succ kj2 =>
   have H := HA.out; clear HA; simp only [qi_.j0] at H; by_cases c8 : x34_2 = true
   ·subst c8; rw [if_pos rfl] at H; obtain ⟨rfl, rfl, rfl, rfl, rfl, rfl, rfl, rfl, rfl, rfl, rfl, rfl⟩ := pj12_ H; have hnb9 := N106_107.out; have hnc9 := N107_106.out; obtain ⟨Z10_0, Z10_1, Z10_2, Z10_3, Z10_4, Z10_5, Z10_6, Z10_7, Z10_8, Z10_9, Z10_10, F10⟩ := bc11 K106.out; go_wp2
    refine bodyPost_ret (qby_ rfl _ _ g106 26 #[.string ⟨#[]⟩, .slice none 0 0, .string ⟨#[]⟩, .string ⟨#[]⟩, .int .i64 0, .int .i64 0, .string ⟨#[]⟩, .string ⟨#[]⟩, .int .i64 0, .int .i64 0, .string ⟨#[]⟩] (0, 0) _ rfl (by have b_ := K106; exact zb_) underlying26 rfl (by kernel_rfl)) rfl ?_; exact ⟨_, z3_, z6_, hs_⟩
   replace c8 := Bool.eq_false_iff.mpr c8; subst c8; rw [if_neg nft_] at H; obtain ⟨⟨t112, t113, t114⟩, A11, H⟩ := bx_ H; dsimp only at H; have H' := qa_.mk H; clear H; have hnb12 := N107_106.out; have hnc12 := N106_107.out; obtain ⟨Z13_0, Z13_1, Z13_2, Z13_3, Z13_4, Z13_5, Z13_6, Z13_7, Z13_8, Z13_9, Z13_10, F13⟩ := bc11 K107.out; go_wp2_with (first | ((with_reducible refine qb_ (f := 75) rfl ?_); refine gl_ (some 41) func75 #[.string a0, .int .i64 t109, .string ⟨#[112, 97, 114, 101, 110, 116]⟩] ?_; refine cm_ (qau_.calls kj2 a0 t109 ⟨#[112, 97, 114, 101, 110, 116]⟩ t112 t113 t114 _ A11.out) ?_; rintro w' ⟨nd, rfl⟩)); go_loopg [6, 8, 9, 10] kj2 (fun kq v6 v8 v9 v10 w' => ∃ (x6_2 : Int) (x8_2 : ByteArray) (x9_2 : Int) (x10_2 : Bool) (x107000_2 : ByteArray) (x107002_2 : ByteArray) (x107003_2 : ByteArray) (x107004_2 : Int) (x107005_2 : Int) (x107006_2 : ByteArray) (x107007_2 : ByteArray) (x107008_2 : Int) (x107009_2 : Int) (x107010_2 : ByteArray) (x108001_2 : List ByteArray) (u108001 : Value), v6 = .int .i64 x6_2 ∧ v8 = .string x8_2 ∧ v9 = .int .i64 x9_2 ∧ v10 = .bool x10_2 ∧ qa_ (qi_.l0 kq a0 x6_2 x8_2 x9_2 x10_2 t108 x108001_2 ⟨#[]⟩ ⟨#[]⟩ 0 0 ⟨#[]⟩ ⟨#[]⟩ 0 0 ⟨#[]⟩ = some (r1, r2, r3, r4, r5, r6, r7, r8, r9, r10, r11, r12)) ∧ qa_ (kq ≤ kj2) ∧ qa_ (Kd.R Kd.string 9 w' w.heap.size (fun _ => True) u108001 x108001_2) ∧ qa_ (w'.heap[g106]? = some (.cells #[.string x107000_2, (.slice none 0 0), .string x107002_2, .string x107003_2, .int .i64 x107004_2, .int .i64 x107005_2, .string x107006_2, .string x107007_2, .int .i64 x107008_2, .int .i64 x107009_2, .string x107010_2] 26 (0, 0))) ∧ qa_ (w'.heap[g107]? = some (.cells #[.string t108, u108001, .string ⟨#[]⟩, .string ⟨#[]⟩, .int .i64 0, .int .i64 0, .string ⟨#[]⟩, .string ⟨#[]⟩, .int .i64 0, .int .i64 0, .string ⟨#[]⟩] 26 (0, 0))) ∧ qa_ (Below w.heap.size w w'))
   case atStart => exact ⟨(t109), (t112), (t113), (t114), ((⟨#[]⟩ : ByteArray)), ((⟨#[]⟩ : ByteArray)), ((⟨#[]⟩ : ByteArray)), (0), (0), ((⟨#[]⟩ : ByteArray)), ((⟨#[]⟩ : ByteArray)), (0), (0), ((⟨#[]⟩ : ByteArray)), (([] : List ByteArray)), (.slice none 0 0), z1_, z1_, z1_, z1_, H', ⟨Nat.le_refl _⟩, ⟨z6_⟩, ⟨by have b_ := K106; have f_ := N106_107; exact zb_⟩, ⟨by have b_ := K107; exact zb_⟩, ⟨hs_⟩⟩
   case round =>
    clear H'; try clear c1
    try clear c2
    try clear p2
    try clear c6
    try clear c7
    try clear c8
    try clear c9
    try clear c12
    try clear Z10_0 Z10_1 Z10_10 Z10_2 Z10_3 Z10_4 Z10_5 Z10_6 Z10_7 Z10_8 Z10_9
    try clear Z13_0 Z13_1 Z13_10 Z13_2 Z13_3 Z13_4 Z13_5 Z13_6 Z13_7 Z13_8 Z13_9
    try clear F10
    try clear F13
    try clear p2
    obtain ⟨x6_2, x8_2, x9_2, x10_2, x107000_2, x107002_2, x107003_2, x107004_2, x107005_2, x107006_2, x107007_2, x107008_2, x107009_2, x107010_2, x108001_2, u108001, rfl, rfl, rfl, rfl, HA, HK2, HO_108001, K106, K107, HB⟩ := hrel
    cases gk with
    | zero => exact absurd HA.out (by simp [qi_.l0])
    | succ k2 =>
     have H := HA.out; clear HA; simp only [qi_.l0] at H; by_cases c14 : x10_2 = true
     ·subst c14; rw [if_pos rfl] at H; obtain ⟨t115, A15, H⟩ := bx_ H; by_cases c16 : t115 = true; rotate_left
      ·replace c16 := Bool.eq_false_iff.mpr c16; subst c16; rw [if_neg nft_] at H; obtain ⟨rfl, rfl, rfl, rfl, rfl, rfl, rfl, rfl, rfl, rfl, rfl, rfl⟩ := pj12_ H; go_wp2_with (first | ((with_reducible refine qb_ (f := 61) rfl ?_); refine gl_ (some 47) func61 #[.string x8_2] ?_; refine cm_ (qw_.calls k2 x8_2 false _ A15.out) ?_; rintro w' ⟨nd, rfl⟩; (try (rw [qcn_ wr]; generalize hq_ : World.drewN wr _ = wr; have n0_ : qa_ (Kd.R Kd.string 9 wr w.heap.size (fun _ => True) u108001 x108001_2) := ⟨by rw [← hq_]; exact (rk_ HO_108001.out)⟩; have n1_ : qa_ (wr.heap[g106]? = some (.cells #[.string x107000_2, .slice none 0 0, .string x107002_2, .string x107003_2, .int .i64 x107004_2, .int .i64 x107005_2, .string x107006_2, .string x107007_2, .int .i64 x107008_2, .int .i64 x107009_2, .string x107010_2] 26 (0, 0))) := ⟨by rw [← hq_]; exact (bk_ K106.out)⟩; have n2_ : qa_ (wr.heap[g107]? = some (.cells #[.string t108, u108001, .string ⟨#[]⟩, .string ⟨#[]⟩, .int .i64 0, .int .i64 0, .string ⟨#[]⟩, .string ⟨#[]⟩, .int .i64 0, .int .i64 0, .string ⟨#[]⟩] 26 (0, 0))) := ⟨by rw [← hq_]; exact (bk_ K107.out)⟩; have n3_ : qa_ (Below w.heap.size w wr) := ⟨by rw [← hq_]; exact (hs_)⟩; clear HO_108001 K106 K107 HB hq_; have HO_108001 := n0_; have K106 := n1_; have K107 := n2_; have HB := n3_; clear n0_ n1_ n2_ n3_)); have hnb24 := N106_107.out; have hnc24 := N107_106.out; obtain ⟨Z25_0, Z25_1, Z25_2, Z25_3, Z25_4, Z25_5, Z25_6, Z25_7, Z25_8, Z25_9, Z25_10, F25⟩ := bc11 K106.out)); refine bodyPost_ret (qby_ rfl _ _ g106 26 #[.string ⟨#[]⟩, .slice none 0 0, .string ⟨#[]⟩, .string ⟨#[]⟩, .int .i64 0, .int .i64 0, .string ⟨#[]⟩, .string ⟨#[]⟩, .int .i64 0, .int .i64 0, .string ⟨#[]⟩] (0, 0) _ rfl (by have b_ := K106; exact zb_) underlying26 rfl (by kernel_rfl)) rfl ?_; exact ⟨_, z3_, z6_, hs_⟩
      subst c16; rw [if_pos rfl] at H; by_cases c17 : x108001_2.length < 8796093022208; rotate_left
      ·rw [if_neg c17] at H; exact no_ H
      rw [if_pos c17] at H; have LMc17 := qa_.mk c17; clear c17; obtain ⟨y116, hy116⟩ : ∃ y_ : List ByteArray, y_ = (x108001_2 ++ [x8_2]) := ⟨_, rfl⟩; replace H : ((qau_.f k2 a0 x9_2 ⟨#[112, 97, 114, 101, 110, 116]⟩).bind fun bt119 => (qi_.l0 k2 a0 x9_2 bt119.1 bt119.2.1 bt119.2.2 t108 y116 ⟨#[]⟩ ⟨#[]⟩ 0 0 ⟨#[]⟩ ⟨#[]⟩ 0 0 ⟨#[]⟩)) = some (r1, r2, r3, r4, r5, r6, r7, r8, r9, r10, r11, r12) := by first | (rw [hy116]; with_reducible exact H) | (have H2_ := (Option.bind_some _ _).symm.trans H; rw [hy116]; with_reducible exact H2_) | (have H2_ := (Option.bind_some _ _).symm.trans H; with_reducible exact H2_) | with_reducible exact H | (rw [hy116]; exact H) | exact H
      have Ny116 := qa_.mk hy116; clear hy116; obtain ⟨⟨t119, t120, t121⟩, A18, H⟩ := bx_ H; dsimp only at H; have H' := qa_.mk H; clear H; go_wp2_with (first | ((with_reducible refine qb_ (f := 61) rfl ?_); refine gl_ (some 47) func61 #[.string x8_2] ?_; refine cm_ (qw_.calls k2 x8_2 true _ A15.out) ?_; rintro w' ⟨nd, rfl⟩; (try (rw [qcn_ wr]; generalize hq_ : World.drewN wr _ = wr; have n0_ : qa_ (Kd.R Kd.string 9 wr w.heap.size (fun _ => True) u108001 x108001_2) := ⟨by rw [← hq_]; exact (rk_ HO_108001.out)⟩; have n1_ : qa_ (wr.heap[g106]? = some (.cells #[.string x107000_2, .slice none 0 0, .string x107002_2, .string x107003_2, .int .i64 x107004_2, .int .i64 x107005_2, .string x107006_2, .string x107007_2, .int .i64 x107008_2, .int .i64 x107009_2, .string x107010_2] 26 (0, 0))) := ⟨by rw [← hq_]; exact (bk_ K106.out)⟩; have n2_ : qa_ (wr.heap[g107]? = some (.cells #[.string t108, u108001, .string ⟨#[]⟩, .string ⟨#[]⟩, .int .i64 0, .int .i64 0, .string ⟨#[]⟩, .string ⟨#[]⟩, .int .i64 0, .int .i64 0, .string ⟨#[]⟩] 26 (0, 0))) := ⟨by rw [← hq_]; exact (bk_ K107.out)⟩; have n3_ : qa_ (Below w.heap.size w wr) := ⟨by rw [← hq_]; exact (hs_)⟩; clear HO_108001 K106 K107 HB hq_; have HO_108001 := n0_; have K106 := n1_; have K107 := n2_; have HB := n3_; clear n0_ n1_ n2_ n3_)); have hnb19 := N107_106.out; have hnc19 := N106_107.out; obtain ⟨Z20_0, Z20_1, Z20_2, Z20_3, Z20_4, Z20_5, Z20_6, Z20_7, Z20_8, Z20_9, Z20_10, F20⟩ := bc11 K107.out) | ((with_reducible refine qey_ (b := .append) (xs := #[.tmp 51, .tmp 53]) rfl ?_); (try (refine qcp_ (by rfl) ?_; dsimp only)); at_builtin; refine Kd.R_append Kd.string (w0 := w) w.heap.size rfl (.tmp 51) (.tmp 53) 22 9 (.string ⟨#[]⟩) 16 rfl underlying22 info9 rfl (by decide) (by omega) u108001 x108001_2 x8_2 [.string x8_2] (fun _ => True) (fun _ => False) rfl rfl ?aP (fun _ hk => hk.elim) ?aF ?aO ?aB ?aS ?aL ?_; (case aP => exact rfl); (case aB => exact (hs_)); (case aF => exact (fun _ _ => trivial)); (case aO => exact (rk_ HO_108001.out)); (case aS => exact (qn_ (hs_))); (case aL => have := LMc17.out; omega); intro v117 w21 ho hb hg hat; rw [← Ny116.out] at ho; have n0_ := qa_.mk (qdc_ (g := g106) (o := .cells #[.string x107000_2, .slice none 0 0, .string x107002_2, .string x107003_2, .int .i64 x107004_2, .int .i64 x107005_2, .string x107006_2, .string x107007_2, .int .i64 x107008_2, .int .i64 x107009_2, .string x107010_2] 26 (0, 0)) (bk_ K106.out) hg (Kd.R_ne HO_108001.out K106.out (by decide))); have n1_ := qa_.mk (qdc_ (g := g107) (o := .cells #[.string t108, u108001, .string ⟨#[]⟩, .string ⟨#[]⟩, .int .i64 0, .int .i64 0, .string ⟨#[]⟩, .string ⟨#[]⟩, .int .i64 0, .int .i64 0, .string ⟨#[]⟩] 26 (0, 0)) (bk_ K107.out) hg (Kd.R_ne HO_108001.out K107.out (by decide))); have n2_ := qa_.mk (hb); have n3_ := qa_.mk (ho); clear K106; clear K107; clear HB; clear HO_108001; have K106 := n0_; have K107 := n1_; have HB := n2_; have HO118 := n3_; clear n0_ n1_ n2_ n3_; clear ho hb hg hat; obtain ⟨Ao22, co22, eo22⟩ := Kd.R_slice HO118.out; subst eo22; obtain ⟨Z23_0, Z23_1, Z23_2, Z23_3, Z23_4, Z23_5, Z23_6, Z23_7, Z23_8, Z23_9, Z23_10, F23⟩ := bc11 K107.out) | ((with_reducible refine qb_ (f := 75) rfl ?_); refine gl_ (some 60) func75 #[.string a0, .int .i64 x9_2, .string ⟨#[112, 97, 114, 101, 110, 116]⟩] ?_; refine cm_ (qau_.calls k2 a0 x9_2 ⟨#[112, 97, 114, 101, 110, 116]⟩ t119 t120 t121 _ A18.out) ?_; rintro w' ⟨nd, rfl⟩))
      go_roundg k2
      case measure => have := HJ2.out; have := HK2.out; omega
      case rel => exact ⟨(x9_2), (t119), (t120), (t121), (x107000_2), (x107002_2), (x107003_2), (x107004_2), (x107005_2), (x107006_2), (x107007_2), (x107008_2), (x107009_2), (x107010_2), (y116), (.slice Ao22 y116.length co22), z1_, z1_, z1_, z1_, H', ⟨by have := HJ2.out; have := HK2.out; omega⟩, ⟨by (with_reducible repeat (first | apply Kd.R_alloc | apply Kd.R_drewN | apply Kd.R_drew)); exact Kd.R_mono (Kd.R_far (p := ⟨g107, 1, none⟩) (Kd.R_types HO118.out K107.out (by decide)) (fun _ hk => hk.2) (.slice Ao22 y116.length co22)) (fun _ hk => trivial)⟩, ⟨by have b_ := K106; have f_ := N106_107; exact zb_⟩, ⟨by have b_ := K107; exact zb_⟩, ⟨hs_⟩⟩
     replace c14 := Bool.eq_false_iff.mpr c14; subst c14; rw [if_neg nft_] at H; obtain ⟨⟨t122, t123, t124⟩, A26, H⟩ := bx_ H; dsimp only at H; obtain ⟨⟨t125, t126, t127, t128, t129⟩, A27, H⟩ := bx_ H; dsimp only at H; obtain ⟨⟨t131, t132, t133⟩, A28, H⟩ := bx_ H; dsimp only at H; obtain ⟨⟨t134, t135, t136, t137, t138⟩, A29, H⟩ := bx_ H; dsimp only at H; have HC30 := qa_.mk H; clear H; go_upto_region 17 with (first | ((with_reducible refine qb_ (f := 75) rfl ?_); refine gl_ (some 67) func75 #[.string a0, .int .i64 x6_2, .string ⟨#[97, 117, 116, 104, 111, 114]⟩] ?_; refine cm_ (qau_.calls k2 a0 x6_2 ⟨#[97, 117, 116, 104, 111, 114]⟩ t122 t123 t124 _ A26.out) ?_; rintro w' ⟨nd, rfl⟩; (try (rw [qcn_ wr]; generalize hq_ : World.drewN wr _ = wr; have n0_ : qa_ (Kd.R Kd.string 9 wr w.heap.size (fun _ => True) u108001 x108001_2) := ⟨by rw [← hq_]; exact (rk_ HO_108001.out)⟩; have n1_ : qa_ (wr.heap[g106]? = some (.cells #[.string x107000_2, .slice none 0 0, .string x107002_2, .string x107003_2, .int .i64 x107004_2, .int .i64 x107005_2, .string x107006_2, .string x107007_2, .int .i64 x107008_2, .int .i64 x107009_2, .string x107010_2] 26 (0, 0))) := ⟨by rw [← hq_]; exact (bk_ K106.out)⟩; have n2_ : qa_ (wr.heap[g107]? = some (.cells #[.string t108, u108001, .string ⟨#[]⟩, .string ⟨#[]⟩, .int .i64 0, .int .i64 0, .string ⟨#[]⟩, .string ⟨#[]⟩, .int .i64 0, .int .i64 0, .string ⟨#[]⟩] 26 (0, 0))) := ⟨by rw [← hq_]; exact (bk_ K107.out)⟩; have n3_ : qa_ (Below w.heap.size w wr) := ⟨by rw [← hq_]; exact (hs_)⟩; clear HO_108001 K106 K107 HB hq_; have HO_108001 := n0_; have K106 := n1_; have K107 := n2_; have HB := n3_; clear n0_ n1_ n2_ n3_))) | ((with_reducible refine qb_ (f := 76) rfl ?_); refine gl_ (some 74) func76 #[.string t122, .bool t124] ?_; refine cm_ (qbp_.calls k2 t122 t124 t125 t126 t127 t128 t129 _ A27.out) fun w31 hb => ?_; replace HO_108001 := qa_.mk (Kd.R_below (rk_ HO_108001.out) hb); replace K106 := ab_ K106 hb; replace K107 := ab_ K107 hb; replace HB := qa_.mk (qc_ (hs_) hb); (try clear hb); (try clear hb2); (try clear hk); (try clear hi)) | ((with_reducible refine qk_ (N := 14) rfl ?_); (try (refine qcp_ (by rfl) ?_; dsimp only)); refine be_ (cs := #[.string ⟨#[]⟩, .string ⟨#[]⟩, .int .i64 0, .int .i64 0]) (t := 24) ?_; intro g130 hg w32 hbox hb; replace HO_108001 := qa_.mk (Kd.R_below (rk_ HO_108001.out) hb); have K130 := qa_.mk (hbox); have W130 := qa_.mk ((by rw [hg]; exact (qn_ (hs_)) : w.heap.size ≤ g130)); have E130 := qa_.mk ((by rw [hg]; exact (qn_ (hs_)) : w.heap.size ≤ g130)); replace HB := qa_.mk (qc_ (hs_) hb); have N106_130 := qa_.mk (nl2_ hg K106.out); have N130_106 := qa_.mk (ng2_ hg K106.out); replace K106 := ab_ K106 hb; have N107_130 := qa_.mk (nl2_ hg K107.out); have N130_107 := qa_.mk (ng2_ hg K107.out); replace K107 := ab_ K107 hb; clear hb hbox hg; have hnb33 := N130_106.out; have hnc33 := N106_130.out; have hnb34 := N130_107.out; have hnc34 := N107_130.out; obtain ⟨Z35_0, Z35_1, Z35_2, Z35_3, F35⟩ := bc4 K130.out) | ((with_reducible refine qb_ (f := 75) rfl ?_); refine gl_ (some 80) func75 #[.string a0, .int .i64 t123, .string ⟨#[99, 111, 109, 109, 105, 116, 116, 101, 114]⟩] ?_; refine cm_ (qau_.calls k2 a0 t123 ⟨#[99, 111, 109, 109, 105, 116, 116, 101, 114]⟩ t131 t132 t133 _ A28.out) ?_; rintro w' ⟨nd, rfl⟩) | ((with_reducible refine qb_ (f := 76) rfl ?_); refine gl_ (some 87) func76 #[.string t131, .bool t133] ?_; refine cm_ (qbp_.calls k2 t131 t133 t134 t135 t136 t137 t138 _ A29.out) fun w36 hb => ?_; replace HO_108001 := qa_.mk (Kd.R_below (by (with_reducible repeat (first | apply Kd.R_alloc | apply Kd.R_drewN | apply Kd.R_drew)); exact (Kd.R_mono (Kd.R_far (p := ⟨g130, 3, none⟩) (Kd.R_far (p := ⟨g130, 2, none⟩) (Kd.R_far (p := ⟨g130, 1, none⟩) (Kd.R_far (p := ⟨g130, 0, none⟩) (Kd.R_types HO_108001.out K130.out (by decide)) (fun _ hk => hk.2) (.string t125)) (fun _ hk => hk.2) (.string t126)) (fun _ hk => hk.2) (.int .i64 t127)) (fun _ hk => hk.2) (.int .i64 t128)) (fun _ h_ => h_.1))) hb); replace K106 := qa_.mk (qab_ (g := g106) (o := .cells #[.string x107000_2, .slice none 0 0, .string x107002_2, .string x107003_2, .int .i64 x107004_2, .int .i64 x107005_2, .string x107006_2, .string x107007_2, .int .i64 x107008_2, .int .i64 x107009_2, .string x107010_2] 26 (0, 0)) (by have b_ := K106; have f_ := N106_130; exact zb_) hb); replace K107 := qa_.mk (qab_ (g := g107) (o := .cells #[.string t108, u108001, .string ⟨#[]⟩, .string ⟨#[]⟩, .int .i64 0, .int .i64 0, .string ⟨#[]⟩, .string ⟨#[]⟩, .int .i64 0, .int .i64 0, .string ⟨#[]⟩] 26 (0, 0)) (by have b_ := K107; have f_ := N107_130; exact zb_) hb); replace K130 := qa_.mk (qab_ (g := g130) (o := .cells #[.string t125, .string t126, .int .i64 t127, .int .i64 t128] 24 (0, 0)) (by have b_ := K130; exact zb_) hb); replace HB := qa_.mk (qc_ (hs_) hb); (try clear hb); (try clear hb2); (try clear hk); (try clear hi)) | ((with_reducible refine qk_ (N := 19) rfl ?_); (try (refine qcp_ (by rfl) ?_; dsimp only)); refine be_ (cs := #[.string ⟨#[]⟩, .string ⟨#[]⟩, .int .i64 0, .int .i64 0]) (t := 24) ?_; intro g139 hg w37 hbox hb; replace HO_108001 := qa_.mk (Kd.R_below (rk_ HO_108001.out) hb); have K139 := qa_.mk (hbox); have W139 := qa_.mk ((by rw [hg]; exact (qn_ (hs_)) : w.heap.size ≤ g139)); have E139 := qa_.mk ((by rw [hg]; exact (qn_ (hs_)) : w.heap.size ≤ g139)); replace HB := qa_.mk (qc_ (hs_) hb); have N106_139 := qa_.mk (nl2_ hg K106.out); have N139_106 := qa_.mk (ng2_ hg K106.out); replace K106 := ab_ K106 hb; have N107_139 := qa_.mk (nl2_ hg K107.out); have N139_107 := qa_.mk (ng2_ hg K107.out); replace K107 := ab_ K107 hb; have N130_139 := qa_.mk (nl2_ hg K130.out); have N139_130 := qa_.mk (ng2_ hg K130.out); replace K130 := ab_ K130 hb; clear hb hbox hg; have hnb38 := N139_106.out; have hnc38 := N106_139.out; have hnb39 := N139_107.out; have hnc39 := N107_139.out; have hnb40 := N139_130.out; have hnc40 := N130_139.out; obtain ⟨Z41_0, Z41_1, Z41_2, Z41_3, F41⟩ := bc4 K139.out))
     (try simp only [Act.put, List.setIfInBounds_toArray, List.set_cons_zero, List.set_cons_succ])
     go_cut [107] (fun v107 wc => ∃ (kq : Nat) (x107_29 : Bool), v107 = .bool x107_29 ∧ qa_ (qi_.j2 kq a0 t129 t132 t138 x107_29 t108 x108001_2 ⟨#[]⟩ ⟨#[]⟩ 0 0 ⟨#[]⟩ ⟨#[]⟩ 0 0 ⟨#[]⟩ t125 t126 t127 t128 t134 t135 t136 t137 = some (r1, r2, r3, r4, r5, r6, r7, r8, r9, r10, r11, r12)) ∧ qa_ (kq ≤ k2) ∧ qa_ (Kd.R Kd.string 9 wc w.heap.size (fun _ => True) u108001 x108001_2) ∧ qa_ (wc.heap[g106]? = some (.cells #[.string x107000_2, (.slice none 0 0), .string x107002_2, .string x107003_2, .int .i64 x107004_2, .int .i64 x107005_2, .string x107006_2, .string x107007_2, .int .i64 x107008_2, .int .i64 x107009_2, .string x107010_2] 26 (0, 0))) ∧ qa_ (wc.heap[g107]? = some (.cells #[.string t108, u108001, .string ⟨#[]⟩, .string ⟨#[]⟩, .int .i64 0, .int .i64 0, .string ⟨#[]⟩, .string ⟨#[]⟩, .int .i64 0, .int .i64 0, .string ⟨#[]⟩] 26 (0, 0))) ∧ qa_ (wc.heap[g130]? = some (.cells #[.string t125, .string t126, .int .i64 t127, .int .i64 t128] 24 (0, 0))) ∧ qa_ (wc.heap[g139]? = some (.cells #[.string t134, .string t135, .int .i64 t136, .int .i64 t137] 24 (0, 0))) ∧ qa_ (Below w.heap.size w wc))
     case first =>
      have H := HC30.out; clear HC30; by_cases c42 : t129 = 0
      ·rw [if_pos c42] at H; have c42b0 := et_ c42; have c42b1 := nf_ c42; clear c42; (first | rw [c42b0] | (simp only [i64_w, i32_w]; rw [c42b0]) | skip); have H' := qa_.mk H; clear H; go_wp2
       go_meet
       case rel => exact ⟨_, (true), z1_, H', ⟨by have := HJ2.out; have := HK2.out; first | omega | exact Nat.le_refl _⟩, ⟨by (with_reducible repeat (first | apply Kd.R_alloc | apply Kd.R_drewN | apply Kd.R_drew)); exact Kd.R_mono (Kd.R_far (p := ⟨g139, 3, none⟩) (Kd.R_far (p := ⟨g139, 2, none⟩) (Kd.R_far (p := ⟨g139, 1, none⟩) (Kd.R_far (p := ⟨g139, 0, none⟩) (Kd.R_types HO_108001.out K139.out (by decide)) (fun _ hk => hk.2) (.string t134)) (fun _ hk => hk.2) (.string t135)) (fun _ hk => hk.2) (.int .i64 t136)) (fun _ hk => hk.2) (.int .i64 t137)) (fun _ hk => trivial)⟩, ⟨by have b_ := K106; have f_ := N106_139; exact zb_⟩, ⟨by have b_ := K107; have f_ := N107_139; exact zb_⟩, ⟨by have b_ := K130; have f_ := N130_139; exact zb_⟩, ⟨by have b_ := K139; exact zb_⟩, ⟨hs_⟩⟩
      rw [if_neg c42] at H; have c42b0 := ef_ c42; have c42b1 := nt_ c42; (first | rw [c42b0] | (simp only [i64_w, i32_w]; rw [c42b0]) | skip); by_cases c43 : t138 = 0
      ·rw [if_pos c43] at H; have c43b0 := et_ c43; have c43b1 := nf_ c43; clear c43; have H' := qa_.mk H; clear H; go_wp2
       go_meet
       case rel => exact ⟨_, (true), z1_, H', ⟨by have := HJ2.out; have := HK2.out; first | omega | exact Nat.le_refl _⟩, ⟨by (with_reducible repeat (first | apply Kd.R_alloc | apply Kd.R_drewN | apply Kd.R_drew)); exact Kd.R_mono (Kd.R_far (p := ⟨g139, 3, none⟩) (Kd.R_far (p := ⟨g139, 2, none⟩) (Kd.R_far (p := ⟨g139, 1, none⟩) (Kd.R_far (p := ⟨g139, 0, none⟩) (Kd.R_types HO_108001.out K139.out (by decide)) (fun _ hk => hk.2) (.string t134)) (fun _ hk => hk.2) (.string t135)) (fun _ hk => hk.2) (.int .i64 t136)) (fun _ hk => hk.2) (.int .i64 t137)) (fun _ hk => trivial)⟩, ⟨by have b_ := K106; have f_ := N106_139; exact zb_⟩, ⟨by have b_ := K107; have f_ := N107_139; exact zb_⟩, ⟨by have b_ := K130; have f_ := N130_139; exact zb_⟩, ⟨by have b_ := K139; exact zb_⟩, ⟨hs_⟩⟩
      rw [if_neg c43] at H; have c43b0 := ef_ c43; have c43b1 := nt_ c43; by_cases c44 : t132 ≥ (a0.size : Int)
      ·rw [if_pos c44] at H; have c44b0 := dt_ c44; clear c44; have H' := qa_.mk H; clear H; go_wp2
       go_meet
       case rel => exact ⟨_, (true), z1_, H', ⟨by have := HJ2.out; have := HK2.out; first | omega | exact Nat.le_refl _⟩, ⟨by (with_reducible repeat (first | apply Kd.R_alloc | apply Kd.R_drewN | apply Kd.R_drew)); exact Kd.R_mono (Kd.R_far (p := ⟨g139, 3, none⟩) (Kd.R_far (p := ⟨g139, 2, none⟩) (Kd.R_far (p := ⟨g139, 1, none⟩) (Kd.R_far (p := ⟨g139, 0, none⟩) (Kd.R_types HO_108001.out K139.out (by decide)) (fun _ hk => hk.2) (.string t134)) (fun _ hk => hk.2) (.string t135)) (fun _ hk => hk.2) (.int .i64 t136)) (fun _ hk => hk.2) (.int .i64 t137)) (fun _ hk => trivial)⟩, ⟨by have b_ := K106; have f_ := N106_139; exact zb_⟩, ⟨by have b_ := K107; have f_ := N107_139; exact zb_⟩, ⟨by have b_ := K130; have f_ := N130_139; exact zb_⟩, ⟨by have b_ := K139; exact zb_⟩, ⟨hs_⟩⟩
      rw [if_neg c44] at H; have c44b0 := df_ c44; clear c44; by_cases c45 : 0 ≤ t132; rotate_left
      ·rw [if_neg c45] at H; exact no_ H
      rw [if_pos c45] at H; have c45b0 := dt_ c45; clear c45; by_cases c46 : t132 < (a0.size : Int); rotate_left
      ·rw [if_neg c46] at H; exact no_ H
      rw [if_pos c46] at H; have c46b0 := dt_ c46; clear c46; have H' := qa_.mk H; clear H; have p47 : 0 ≤ (t132 : Int) := y0_; have q47 : t132 < (a0.size : Int) := y0_; have hx47 := bt_at a0 t132; replace p47 := eq_true p47; replace q47 := eq_true q47; go_wp2
      go_meet
      case rel => exact ⟨_, (((bt a0 t132) != 10)), z1_, H', ⟨by have := HJ2.out; have := HK2.out; first | omega | exact Nat.le_refl _⟩, ⟨by (with_reducible repeat (first | apply Kd.R_alloc | apply Kd.R_drewN | apply Kd.R_drew)); exact Kd.R_mono (Kd.R_far (p := ⟨g139, 3, none⟩) (Kd.R_far (p := ⟨g139, 2, none⟩) (Kd.R_far (p := ⟨g139, 1, none⟩) (Kd.R_far (p := ⟨g139, 0, none⟩) (Kd.R_types HO_108001.out K139.out (by decide)) (fun _ hk => hk.2) (.string t134)) (fun _ hk => hk.2) (.string t135)) (fun _ hk => hk.2) (.int .i64 t136)) (fun _ hk => hk.2) (.int .i64 t137)) (fun _ hk => trivial)⟩, ⟨by have b_ := K106; have f_ := N106_139; exact zb_⟩, ⟨by have b_ := K107; have f_ := N107_139; exact zb_⟩, ⟨by have b_ := K130; have f_ := N130_139; exact zb_⟩, ⟨by have b_ := K139; exact zb_⟩, ⟨hs_⟩⟩
     case rest =>
      clear HC30; try clear c1
      try clear c2
      try clear p2
      try clear c3
      try clear c4
      try clear p4
      try clear q4
      try clear hx4
      try clear c6
      try clear c7
      try clear c8
      try clear c9
      try clear c12
      try clear c14
      try clear c16
      try clear c17
      try clear c19
      try clear c22
      try clear c24
      try clear c33
      try clear c34
      try clear c38
      try clear c39
      try clear c40
      try clear c42
      try clear c42b0
      try clear c42b1
      try clear c43
      try clear c43b0
      try clear c43b1
      try clear c44
      try clear c44b0
      try clear c45
      try clear c45b0
      try clear c46
      try clear c46b0
      try clear p47
      try clear q47
      try clear hx47
      try clear Z10_0 Z10_1 Z10_10 Z10_2 Z10_3 Z10_4 Z10_5 Z10_6 Z10_7 Z10_8 Z10_9
      try clear Z13_0 Z13_1 Z13_10 Z13_2 Z13_3 Z13_4 Z13_5 Z13_6 Z13_7 Z13_8 Z13_9
      try clear Z20_0 Z20_1 Z20_10 Z20_2 Z20_3 Z20_4 Z20_5 Z20_6 Z20_7 Z20_8 Z20_9
      try clear Z23_0 Z23_1 Z23_10 Z23_2 Z23_3 Z23_4 Z23_5 Z23_6 Z23_7 Z23_8 Z23_9
      try clear Z25_0 Z25_1 Z25_10 Z25_2 Z25_3 Z25_4 Z25_5 Z25_6 Z25_7 Z25_8 Z25_9
      try clear Z35_0 Z35_1 Z35_2 Z35_3
      try clear Z41_0 Z41_1 Z41_2 Z41_3
      try clear F10
      try clear F13
      try clear F20
      try clear F23
      try clear F25
      try clear F35
      try clear F41
      try clear p2
      try clear p47
      try clear q47
      obtain ⟨kq, x107_29, rfl, HA, HJ29, HO_108001, K106, K107, K130, K139, HB⟩ := hcut
      cases kq with
      | zero => exact absurd HA.out (by simp [qi_.j2])
      | succ kj29 =>
       have H := HA.out; clear HA; simp only [qi_.j2] at H; by_cases c48 : x107_29 = true
       ·subst c48; rw [if_pos rfl] at H; obtain ⟨rfl, rfl, rfl, rfl, rfl, rfl, rfl, rfl, rfl, rfl, rfl, rfl⟩ := pj12_ H; have hnb49 := N106_107.out; have hnc49 := N107_106.out; have hnb50 := N106_130.out; have hnc50 := N130_106.out; have hnb51 := N106_139.out; have hnc51 := N139_106.out; obtain ⟨Z52_0, Z52_1, Z52_2, Z52_3, Z52_4, Z52_5, Z52_6, Z52_7, Z52_8, Z52_9, Z52_10, F52⟩ := bc11 K106.out; go_wp2
        refine bodyPost_ret (qby_ rfl _ _ g106 26 #[.string ⟨#[]⟩, .slice none 0 0, .string ⟨#[]⟩, .string ⟨#[]⟩, .int .i64 0, .int .i64 0, .string ⟨#[]⟩, .string ⟨#[]⟩, .int .i64 0, .int .i64 0, .string ⟨#[]⟩] (0, 0) _ rfl (by have b_ := K106; exact zb_) underlying26 rfl (by kernel_rfl)) rfl ?_; exact ⟨_, z3_, z6_, hs_⟩
       replace c48 := Bool.eq_false_iff.mpr c48; subst c48; rw [if_neg nft_] at H; have HC53 := qa_.mk H; clear H; go_upto_region 19 with (fail)
       go_cut [114] (fun v114 wc => ∃ (kq : Nat) (x114_52 : Bool), v114 = .bool x114_52 ∧ qa_ (qi_.j3 kq a0 t132 x114_52 t108 x108001_2 ⟨#[]⟩ ⟨#[]⟩ 0 0 ⟨#[]⟩ ⟨#[]⟩ 0 0 ⟨#[]⟩ t125 t126 t127 t128 t134 t135 t136 t137 = some (r1, r2, r3, r4, r5, r6, r7, r8, r9, r10, r11, r12)) ∧ qa_ (kq ≤ kj29) ∧ qa_ (Kd.R Kd.string 9 wc w.heap.size (fun _ => True) u108001 x108001_2) ∧ qa_ (wc.heap[g106]? = some (.cells #[.string x107000_2, (.slice none 0 0), .string x107002_2, .string x107003_2, .int .i64 x107004_2, .int .i64 x107005_2, .string x107006_2, .string x107007_2, .int .i64 x107008_2, .int .i64 x107009_2, .string x107010_2] 26 (0, 0))) ∧ qa_ (wc.heap[g107]? = some (.cells #[.string t108, u108001, .string ⟨#[]⟩, .string ⟨#[]⟩, .int .i64 0, .int .i64 0, .string ⟨#[]⟩, .string ⟨#[]⟩, .int .i64 0, .int .i64 0, .string ⟨#[]⟩] 26 (0, 0))) ∧ qa_ (wc.heap[g130]? = some (.cells #[.string t125, .string t126, .int .i64 t127, .int .i64 t128] 24 (0, 0))) ∧ qa_ (wc.heap[g139]? = some (.cells #[.string t134, .string t135, .int .i64 t136, .int .i64 t137] 24 (0, 0))) ∧ qa_ (Below w.heap.size w wc))
       case first =>
        have H := HC53.out; clear HC53; by_cases c54 : t129 = 1; rotate_left
        ·rw [if_neg c54] at H; have c54b0 := ef_ c54; have c54b1 := nt_ c54; (first | rw [c54b0] | (simp only [i64_w, i32_w]; rw [c54b0]) | skip); have H' := qa_.mk H; clear H; go_wp2
         go_meet
         case rel => exact ⟨_, ((t138 == 1)), z1_, H', ⟨by have := HJ2.out; have := HK2.out; have := HJ29.out; first | omega | exact Nat.le_refl _⟩, ⟨by (with_reducible repeat (first | apply Kd.R_alloc | apply Kd.R_drewN | apply Kd.R_drew)); exact HO_108001.out⟩, ⟨bk_ K106.out⟩, ⟨bk_ K107.out⟩, ⟨bk_ K130.out⟩, ⟨bk_ K139.out⟩, ⟨hs_⟩⟩
        rw [if_pos c54] at H; have c54b0 := et_ c54; have c54b1 := nf_ c54; clear c54; (first | rw [c54b0] | (simp only [i64_w, i32_w]; rw [c54b0]) | skip); have H' := qa_.mk H; clear H; go_wp2
        go_meet
        case rel => exact ⟨_, (true), z1_, H', ⟨by have := HJ2.out; have := HK2.out; have := HJ29.out; first | omega | exact Nat.le_refl _⟩, ⟨by (with_reducible repeat (first | apply Kd.R_alloc | apply Kd.R_drewN | apply Kd.R_drew)); exact HO_108001.out⟩, ⟨bk_ K106.out⟩, ⟨bk_ K107.out⟩, ⟨bk_ K130.out⟩, ⟨bk_ K139.out⟩, ⟨hs_⟩⟩
       case rest =>
        clear HC53; try clear c1
        try clear c2
        try clear p2
        try clear c3
        try clear c4
        try clear p4
        try clear q4
        try clear hx4
        try clear c5
        try clear c6
        try clear c7
        try clear c8
        try clear c9
        try clear c12
        try clear c14
        try clear c16
        try clear c17
        try clear c19
        try clear c22
        try clear c24
        try clear c33
        try clear c34
        try clear c38
        try clear c39
        try clear c40
        try clear c42
        try clear c42b0
        try clear c42b1
        try clear c43
        try clear c43b0
        try clear c43b1
        try clear c44
        try clear c44b0
        try clear c45
        try clear c45b0
        try clear c46
        try clear c46b0
        try clear p47
        try clear q47
        try clear hx47
        try clear c48
        try clear c49
        try clear c50
        try clear c51
        try clear c54
        try clear c54b0
        try clear c54b1
        try clear Z10_0 Z10_1 Z10_10 Z10_2 Z10_3 Z10_4 Z10_5 Z10_6 Z10_7 Z10_8 Z10_9
        try clear Z13_0 Z13_1 Z13_10 Z13_2 Z13_3 Z13_4 Z13_5 Z13_6 Z13_7 Z13_8 Z13_9
        try clear Z20_0 Z20_1 Z20_10 Z20_2 Z20_3 Z20_4 Z20_5 Z20_6 Z20_7 Z20_8 Z20_9
        try clear Z23_0 Z23_1 Z23_10 Z23_2 Z23_3 Z23_4 Z23_5 Z23_6 Z23_7 Z23_8 Z23_9
        try clear Z25_0 Z25_1 Z25_10 Z25_2 Z25_3 Z25_4 Z25_5 Z25_6 Z25_7 Z25_8 Z25_9
        try clear Z35_0 Z35_1 Z35_2 Z35_3
        try clear Z41_0 Z41_1 Z41_2 Z41_3
        try clear Z52_0 Z52_1 Z52_10 Z52_2 Z52_3 Z52_4 Z52_5 Z52_6 Z52_7 Z52_8 Z52_9
        try clear F10
        try clear F13
        try clear F20
        try clear F23
        try clear F25
        try clear F35
        try clear F41
        try clear F52
        try clear p2
        try clear p4
        try clear p47
        try clear q4
        try clear q47
        obtain ⟨kq, x114_52, rfl, HA, HJ52, HO_108001, K106, K107, K130, K139, HB⟩ := hcut
        cases kq with
        | zero => exact absurd HA.out (by simp [qi_.j3])
        | succ kj52 =>
         have H := HA.out; clear HA; simp only [qi_.j3] at H; by_cases c55 : x114_52 = true
         ·subst c55; rw [if_pos rfl] at H; obtain ⟨rfl, rfl, rfl, rfl, rfl, rfl, rfl, rfl, rfl, rfl, rfl, rfl⟩ := pj12_ H; have hnb56 := N106_107.out; have hnc56 := N107_106.out; have hnb57 := N106_130.out; have hnc57 := N130_106.out; have hnb58 := N106_139.out; have hnc58 := N139_106.out; obtain ⟨Z59_0, Z59_1, Z59_2, Z59_3, Z59_4, Z59_5, Z59_6, Z59_7, Z59_8, Z59_9, Z59_10, F59⟩ := bc11 K106.out; go_wp2
          refine bodyPost_ret (qby_ rfl _ _ g106 26 #[.string ⟨#[]⟩, .slice none 0 0, .string ⟨#[]⟩, .string ⟨#[]⟩, .int .i64 0, .int .i64 0, .string ⟨#[]⟩, .string ⟨#[]⟩, .int .i64 0, .int .i64 0, .string ⟨#[]⟩] (0, 0) _ rfl (by have b_ := K106; exact zb_) underlying26 rfl (by kernel_rfl)) rfl ?_; exact ⟨_, z3_, z6_, hs_⟩
         replace c55 := Bool.eq_false_iff.mpr c55; subst c55; rw [if_neg nft_] at H; obtain ⟨ji60, hji60⟩ : ∃ j_ : Int, (wrap64 (t132 + 1)) = j_ := ⟨_, rfl⟩; replace H : (if 0 ≤ (ji60) then (if (ji60) ≤ (a0.size : Int) then ((qe_.f kj52 t108 x108001_2 t125 t126 t127 t128 t134 t135 t136 t137 (a0.extract ((ji60) : Int).toNat a0.size)).bind fun t140 => (if t140 = 0 then (some (t108, x108001_2, t125, t126, t127, t128, t134, t135, t136, t137, a0.extract ((ji60) : Int).toNat a0.size, 0)) else (some ((⟨#[]⟩ : ByteArray), ([] : List ByteArray), (⟨#[]⟩ : ByteArray), (⟨#[]⟩ : ByteArray), 0, 0, (⟨#[]⟩ : ByteArray), (⟨#[]⟩ : ByteArray), 0, 0, (⟨#[]⟩ : ByteArray), t140)))) else (none)) else (none)) = some (r1, r2, r3, r4, r5, r6, r7, r8, r9, r10, r11, r12) := by first | (rw [hji60] at H; exact H) | (simp only [hji60] at H ⊢; exact H)
         have hji60w : (IntKind.i64.wrap (t132 + 1)) = ji60 := (i64_w _).trans hji60; by_cases c61 : 0 ≤ (ji60); rotate_left
         ·rw [if_neg c61] at H; exact no_ H
         rw [if_pos c61] at H; have c61b0 := eq_true c61; have c61b1 := dt_ c61; clear c61; by_cases c62 : (ji60) ≤ (a0.size : Int); rotate_left
         ·rw [if_neg c62] at H; exact no_ H
         rw [if_pos c62] at H; have c62b0 := eq_true c62; have c62b1 := dt_ c62; clear c62; obtain ⟨t140, A63, H⟩ := bx_ H; by_cases c64 : t140 = 0; rotate_left
         ·rw [if_neg c64] at H; have c64b0 := ef_ c64; have c64b1 := nt_ c64; obtain ⟨rfl, rfl, rfl, rfl, rfl, rfl, rfl, rfl, rfl, rfl, rfl, rfl⟩ := pj12_ H; have hnb78 := N130_106.out; have hnc78 := N106_130.out; have hnb79 := N130_107.out; have hnc79 := N107_130.out; have hnb80 := N130_139.out; have hnc80 := N139_130.out; obtain ⟨Z81_0, Z81_1, Z81_2, Z81_3, F81⟩ := bc4 K130.out; have hnb82 := N107_106.out; have hnc82 := N106_107.out; have hnb83 := N107_139.out; have hnc83 := N139_107.out; obtain ⟨Z84_0, Z84_1, Z84_2, Z84_3, Z84_4, Z84_5, Z84_6, Z84_7, Z84_8, Z84_9, Z84_10, F84⟩ := bc11 K107.out; have hnb85 := N139_106.out; have hnc85 := N106_139.out; obtain ⟨Z86_0, Z86_1, Z86_2, Z86_3, F86⟩ := bc4 K139.out; obtain ⟨Ao87, co87, eo87⟩ := Kd.R_slice HO_108001.out; subst eo87; go_wp2_with (first | ((with_reducible refine qb_ (f := 19) rfl ?_); refine goesL_ (some 126) rfl rfl func19 (by kernel_rfl) rfl #[.agg #[.string t108, .slice Ao87 x108001_2.length co87, .string t125, .string t126, .int .i64 t127, .int .i64 t128, .string t134, .string t135, .int .i64 t136, .int .i64 t137, .string (a0.extract ((ji60) : Int).toNat a0.size)]] rfl (by (try simp only [List.map_toArray, List.map_cons, List.map_nil]); first | done | (simp only [hji60]; rfl) | rfl | (simp only [List.length_drop, List.length_take]; rfl)) ?_; (with_reducible refine (qe_.calls kj52 t108 _ _ x108001_2 t125 t126 t127 t128 t134 t135 t136 t137 (a0.extract ((ji60) : Int).toNat a0.size) t140 _ ?side1 ?side2 A63.out).mono ?_); (case side1 => refine (Kd.R_reads' (e := 9) (base := w.heap.size) (ok := fun k_ => True) (n := x108001_2.length) (c := co87) ?_).2.2; exact (by (with_reducible repeat (first | apply Kd.R_alloc | apply Kd.R_drewN | apply Kd.R_drew)); exact (Kd.R_mono (Kd.R_far (p := ⟨g107, 10, none⟩) (Kd.R_far (p := ⟨g107, 9, none⟩) (Kd.R_far (p := ⟨g107, 8, none⟩) (Kd.R_far (p := ⟨g107, 7, none⟩) (Kd.R_far (p := ⟨g107, 6, none⟩) (Kd.R_far (p := ⟨g107, 5, none⟩) (Kd.R_far (p := ⟨g107, 4, none⟩) (Kd.R_far (p := ⟨g107, 3, none⟩) (Kd.R_far (p := ⟨g107, 2, none⟩) (Kd.R_types HO_108001.out K107.out (by decide)) (fun _ hk => hk.2) (.string t125)) (fun _ hk => hk.2) (.string t126)) (fun _ hk => hk.2) (.int .i64 t127)) (fun _ hk => hk.2) (.int .i64 t128)) (fun _ hk => hk.2) (.string t134)) (fun _ hk => hk.2) (.string t135)) (fun _ hk => hk.2) (.int .i64 t136)) (fun _ hk => hk.2) (.int .i64 t137)) (fun _ hk => hk.2) (.string (a0.extract ((ji60) : Int).toNat a0.size))) (fun _ h_ => h_.1)))); (case side2 => exact (Kd.R_reads' HO_108001.out).2.1); rintro e w88 ⟨rfl, hb⟩; refine ⟨_, rfl, ?_⟩; replace HO_108001 := qa_.mk (Kd.R_below (by (with_reducible repeat (first | apply Kd.R_alloc | apply Kd.R_drewN | apply Kd.R_drew)); exact (Kd.R_mono (Kd.R_far (p := ⟨g107, 10, none⟩) (Kd.R_far (p := ⟨g107, 9, none⟩) (Kd.R_far (p := ⟨g107, 8, none⟩) (Kd.R_far (p := ⟨g107, 7, none⟩) (Kd.R_far (p := ⟨g107, 6, none⟩) (Kd.R_far (p := ⟨g107, 5, none⟩) (Kd.R_far (p := ⟨g107, 4, none⟩) (Kd.R_far (p := ⟨g107, 3, none⟩) (Kd.R_far (p := ⟨g107, 2, none⟩) (Kd.R_types HO_108001.out K107.out (by decide)) (fun _ hk => hk.2) (.string t125)) (fun _ hk => hk.2) (.string t126)) (fun _ hk => hk.2) (.int .i64 t127)) (fun _ hk => hk.2) (.int .i64 t128)) (fun _ hk => hk.2) (.string t134)) (fun _ hk => hk.2) (.string t135)) (fun _ hk => hk.2) (.int .i64 t136)) (fun _ hk => hk.2) (.int .i64 t137)) (fun _ hk => hk.2) (.string (a0.extract ((ji60) : Int).toNat a0.size))) (fun _ h_ => h_.1))) hb); replace K106 := qa_.mk (qab_ (g := g106) (o := .cells #[.string x107000_2, .slice none 0 0, .string x107002_2, .string x107003_2, .int .i64 x107004_2, .int .i64 x107005_2, .string x107006_2, .string x107007_2, .int .i64 x107008_2, .int .i64 x107009_2, .string x107010_2] 26 (0, 0)) (by have b_ := K106; have f_ := N106_107; exact zb_) hb); replace K107 := qa_.mk (qab_ (g := g107) (o := .cells #[.string t108, .slice Ao87 x108001_2.length co87, .string t125, .string t126, .int .i64 t127, .int .i64 t128, .string t134, .string t135, .int .i64 t136, .int .i64 t137, .string (a0.extract ((ji60) : Int).toNat a0.size)] 26 (0, 0)) (by have b_ := K107; exact zb_) hb); replace K130 := qa_.mk (qab_ (g := g130) (o := .cells #[.string t125, .string t126, .int .i64 t127, .int .i64 t128] 24 (0, 0)) (by have b_ := K130; have f_ := N130_107; exact zb_) hb); replace K139 := qa_.mk (qab_ (g := g139) (o := .cells #[.string t134, .string t135, .int .i64 t136, .int .i64 t137] 24 (0, 0)) (by have b_ := K139; have f_ := N139_107; exact zb_) hb); replace HB := qa_.mk (qc_ (hs_) hb); (try clear hb); (try clear hb2); (try clear hk); (try clear hi); obtain ⟨Z89_0, Z89_1, Z89_2, Z89_3, Z89_4, Z89_5, Z89_6, Z89_7, Z89_8, Z89_9, Z89_10, F89⟩ := bc11 K106.out))
          refine bodyPost_ret (qby_ rfl _ _ g106 26 #[.string ⟨#[]⟩, .slice none 0 0, .string ⟨#[]⟩, .string ⟨#[]⟩, .int .i64 0, .int .i64 0, .string ⟨#[]⟩, .string ⟨#[]⟩, .int .i64 0, .int .i64 0, .string ⟨#[]⟩] (0, 0) _ rfl (by have b_ := K106; exact zb_) underlying26 rfl (by kernel_rfl)) rfl ?_; exact ⟨_, by first | rfl | (simp [qbi_, qbj_] <;> rfl) | (simp only [← hji60]; first | rfl | (simp [qbi_, qbj_] <;> rfl)) | (simp [*, qbi_, qbj_] <;> rfl) | (simp [qbq_]; done) | (simp [*, qbq_]; done), z6_, hs_⟩
         rw [if_pos c64] at H; have c64b0 := et_ c64; have c64b1 := nf_ c64; clear c64; obtain ⟨rfl, rfl, rfl, rfl, rfl, rfl, rfl, rfl, rfl, rfl, rfl, rfl⟩ := pj12_ H; have hnb65 := N130_106.out; have hnc65 := N106_130.out; have hnb66 := N130_107.out; have hnc66 := N107_130.out; have hnb67 := N130_139.out; have hnc67 := N139_130.out; obtain ⟨Z68_0, Z68_1, Z68_2, Z68_3, F68⟩ := bc4 K130.out; have hnb69 := N107_106.out; have hnc69 := N106_107.out; have hnb70 := N107_139.out; have hnc70 := N139_107.out; obtain ⟨Z71_0, Z71_1, Z71_2, Z71_3, Z71_4, Z71_5, Z71_6, Z71_7, Z71_8, Z71_9, Z71_10, F71⟩ := bc11 K107.out; have hnb72 := N139_106.out; have hnc72 := N106_139.out; obtain ⟨Z73_0, Z73_1, Z73_2, Z73_3, F73⟩ := bc4 K139.out; obtain ⟨Ao74, co74, eo74⟩ := Kd.R_slice HO_108001.out; subst eo74; go_wp2_with (first | ((with_reducible refine qb_ (f := 19) rfl ?_); refine goesL_ (some 126) rfl rfl func19 (by kernel_rfl) rfl #[.agg #[.string t108, .slice Ao74 x108001_2.length co74, .string t125, .string t126, .int .i64 t127, .int .i64 t128, .string t134, .string t135, .int .i64 t136, .int .i64 t137, .string (a0.extract ((ji60) : Int).toNat a0.size)]] rfl (by (try simp only [List.map_toArray, List.map_cons, List.map_nil]); first | done | (simp only [hji60]; rfl) | rfl | (simp only [List.length_drop, List.length_take]; rfl)) ?_; (with_reducible refine (qe_.calls kj52 t108 _ _ x108001_2 t125 t126 t127 t128 t134 t135 t136 t137 (a0.extract ((ji60) : Int).toNat a0.size) t140 _ ?side1 ?side2 A63.out).mono ?_); (case side1 => refine (Kd.R_reads' (e := 9) (base := w.heap.size) (ok := fun k_ => True) (n := x108001_2.length) (c := co74) ?_).2.2; exact (by (with_reducible repeat (first | apply Kd.R_alloc | apply Kd.R_drewN | apply Kd.R_drew)); exact (Kd.R_mono (Kd.R_far (p := ⟨g107, 10, none⟩) (Kd.R_far (p := ⟨g107, 9, none⟩) (Kd.R_far (p := ⟨g107, 8, none⟩) (Kd.R_far (p := ⟨g107, 7, none⟩) (Kd.R_far (p := ⟨g107, 6, none⟩) (Kd.R_far (p := ⟨g107, 5, none⟩) (Kd.R_far (p := ⟨g107, 4, none⟩) (Kd.R_far (p := ⟨g107, 3, none⟩) (Kd.R_far (p := ⟨g107, 2, none⟩) (Kd.R_types HO_108001.out K107.out (by decide)) (fun _ hk => hk.2) (.string t125)) (fun _ hk => hk.2) (.string t126)) (fun _ hk => hk.2) (.int .i64 t127)) (fun _ hk => hk.2) (.int .i64 t128)) (fun _ hk => hk.2) (.string t134)) (fun _ hk => hk.2) (.string t135)) (fun _ hk => hk.2) (.int .i64 t136)) (fun _ hk => hk.2) (.int .i64 t137)) (fun _ hk => hk.2) (.string (a0.extract ((ji60) : Int).toNat a0.size))) (fun _ h_ => h_.1)))); (case side2 => exact (Kd.R_reads' HO_108001.out).2.1); rintro e w75 ⟨rfl, hb⟩; refine ⟨_, rfl, ?_⟩; replace HO_108001 := qa_.mk (Kd.R_below (by (with_reducible repeat (first | apply Kd.R_alloc | apply Kd.R_drewN | apply Kd.R_drew)); exact (Kd.R_mono (Kd.R_far (p := ⟨g107, 10, none⟩) (Kd.R_far (p := ⟨g107, 9, none⟩) (Kd.R_far (p := ⟨g107, 8, none⟩) (Kd.R_far (p := ⟨g107, 7, none⟩) (Kd.R_far (p := ⟨g107, 6, none⟩) (Kd.R_far (p := ⟨g107, 5, none⟩) (Kd.R_far (p := ⟨g107, 4, none⟩) (Kd.R_far (p := ⟨g107, 3, none⟩) (Kd.R_far (p := ⟨g107, 2, none⟩) (Kd.R_types HO_108001.out K107.out (by decide)) (fun _ hk => hk.2) (.string t125)) (fun _ hk => hk.2) (.string t126)) (fun _ hk => hk.2) (.int .i64 t127)) (fun _ hk => hk.2) (.int .i64 t128)) (fun _ hk => hk.2) (.string t134)) (fun _ hk => hk.2) (.string t135)) (fun _ hk => hk.2) (.int .i64 t136)) (fun _ hk => hk.2) (.int .i64 t137)) (fun _ hk => hk.2) (.string (a0.extract ((ji60) : Int).toNat a0.size))) (fun _ h_ => h_.1))) hb); replace K106 := qa_.mk (qab_ (g := g106) (o := .cells #[.string x107000_2, .slice none 0 0, .string x107002_2, .string x107003_2, .int .i64 x107004_2, .int .i64 x107005_2, .string x107006_2, .string x107007_2, .int .i64 x107008_2, .int .i64 x107009_2, .string x107010_2] 26 (0, 0)) (by have b_ := K106; have f_ := N106_107; exact zb_) hb); replace K107 := qa_.mk (qab_ (g := g107) (o := .cells #[.string t108, .slice Ao74 x108001_2.length co74, .string t125, .string t126, .int .i64 t127, .int .i64 t128, .string t134, .string t135, .int .i64 t136, .int .i64 t137, .string (a0.extract ((ji60) : Int).toNat a0.size)] 26 (0, 0)) (by have b_ := K107; exact zb_) hb); replace K130 := qa_.mk (qab_ (g := g130) (o := .cells #[.string t125, .string t126, .int .i64 t127, .int .i64 t128] 24 (0, 0)) (by have b_ := K130; have f_ := N130_107; exact zb_) hb); replace K139 := qa_.mk (qab_ (g := g139) (o := .cells #[.string t134, .string t135, .int .i64 t136, .int .i64 t137] 24 (0, 0)) (by have b_ := K139; have f_ := N139_107; exact zb_) hb); replace HB := qa_.mk (qc_ (hs_) hb); (try clear hb); (try clear hb2); (try clear hk); (try clear hi); obtain ⟨Z76_0, Z76_1, Z76_2, Z76_3, Z76_4, Z76_5, Z76_6, Z76_7, Z76_8, Z76_9, Z76_10, F76⟩ := bc11 K107.out; obtain ⟨Z77_0, Z77_1, Z77_2, Z77_3, Z77_4, Z77_5, Z77_6, Z77_7, Z77_8, Z77_9, Z77_10, F77⟩ := bc11 K106.out))
         refine bodyPost_ret (qby_ rfl _ _ g106 26 #[.string t108, .slice Ao74 x108001_2.length co74, .string t125, .string t126, .int .i64 t127, .int .i64 t128, .string t134, .string t135, .int .i64 t136, .int .i64 t137, .string (a0.extract ((ji60) : Int).toNat a0.size)] (0, 0) _ rfl (by have b_ := K106; exact zb_) underlying26 rfl (by kernel_rfl)) rfl ?_; exact ⟨_, by first | rfl | (simp [qbi_, qbj_] <;> rfl) | (simp only [← hji60]; first | rfl | (simp [qbi_, qbj_] <;> rfl)) | (simp [*, qbi_, qbj_] <;> rfl) | (simp [qbq_]; done) | (simp [*, qbq_]; done), by (with_reducible repeat (first | apply Kd.R_alloc | apply Kd.R_drewN | apply Kd.R_drew)); exact Kd.R_mono (Kd.R_far (p := ⟨g106, 10, none⟩) (Kd.R_far (p := ⟨g106, 9, none⟩) (Kd.R_far (p := ⟨g106, 8, none⟩) (Kd.R_far (p := ⟨g106, 7, none⟩) (Kd.R_far (p := ⟨g106, 6, none⟩) (Kd.R_far (p := ⟨g106, 5, none⟩) (Kd.R_far (p := ⟨g106, 4, none⟩) (Kd.R_far (p := ⟨g106, 3, none⟩) (Kd.R_far (p := ⟨g106, 2, none⟩) (Kd.R_far (p := ⟨g106, 1, none⟩) (Kd.R_far (p := ⟨g106, 0, none⟩) (Kd.R_types HO_108001.out K106.out (by decide)) (fun _ hk => hk.2) (.string t108)) (fun _ hk => hk.2) (.slice Ao74 x108001_2.length co74)) (fun _ hk => hk.2) (.string t125)) (fun _ hk => hk.2) (.string t126)) (fun _ hk => hk.2) (.int .i64 t127)) (fun _ hk => hk.2) (.int .i64 t128)) (fun _ hk => hk.2) (.string t134)) (fun _ hk => hk.2) (.string t135)) (fun _ hk => hk.2) (.int .i64 t136)) (fun _ hk => hk.2) (.int .i64 t137)) (fun _ hk => hk.2) (.string (a0.extract ((ji60) : Int).toNat a0.size))) (fun _ hk => trivial), hs_⟩
def qct_.f (a0 : Int) : Option (ByteArray) := if a0 = 1 then (some (⟨#[98, 108, 111, 98]⟩ : ByteArray)) else (if a0 = 2 then (some (⟨#[116, 114, 101, 101]⟩ : ByteArray)) else (if a0 = 3 then (some (⟨#[99, 111, 109, 109, 105, 116]⟩ : ByteArray)) else (if a0 = 4 then (some (⟨#[116, 97, 103]⟩ : ByteArray)) else (some (⟨#[]⟩ : ByteArray)))))
theorem qct_.calls (a0 : Int) (r : ByteArray) (w : World) (h : qct_.f a0 = some r) :
  Calls Tryz.prog 80 #[.int .i64 a0] w fun e w' => e = .returned (.string r) ∧ Drawn0 w w' := by
 unfold qct_.f at h; have H := h; clear h; by_cases c2 : a0 = 1
 ·rw [if_pos c2] at H; have c2b0 := et_ c2; have c2b1 := nf_ c2; clear c2; obtain rfl := oi_ H; go_enter func80, ntmps80; go_wp2
  go_ret
  exact ⟨z1_, z2_⟩
 rw [if_neg c2] at H; have c2b0 := ef_ c2; have c2b1 := nt_ c2; by_cases c3 : a0 = 2
 ·rw [if_pos c3] at H; have c3b0 := et_ c3; have c3b1 := nf_ c3; clear c3; obtain rfl := oi_ H; go_enter func80, ntmps80; go_wp2
  go_ret
  exact ⟨z1_, z2_⟩
 rw [if_neg c3] at H; have c3b0 := ef_ c3; have c3b1 := nt_ c3; by_cases c4 : a0 = 3
 ·rw [if_pos c4] at H; have c4b0 := et_ c4; have c4b1 := nf_ c4; clear c4; obtain rfl := oi_ H; go_enter func80, ntmps80; go_wp2
  go_ret
  exact ⟨z1_, z2_⟩
 rw [if_neg c4] at H; have c4b0 := ef_ c4; have c4b1 := nt_ c4; by_cases c5 : a0 = 4; rotate_left
 ·rw [if_neg c5] at H; have c5b0 := ef_ c5; have c5b1 := nt_ c5; obtain rfl := oi_ H; go_enter func80, ntmps80; go_wp2
  go_ret
  exact ⟨z1_, z2_⟩
 rw [if_pos c5] at H; have c5b0 := et_ c5; have c5b1 := nf_ c5; clear c5; obtain rfl := oi_ H; go_enter func80, ntmps80; go_wp2
 go_ret
 exact ⟨z1_, z2_⟩
def qbt_.l0 : Nat → ByteArray → Int → Option (Int)
 | 0, _, _ => none
 | k + 1, x0, x3 => if x3 ≤ 4 then ((qct_.f x3).bind fun t165 => (if t165.toList = x0.toList then (some x3) else (qbt_.l0 k x0 (wrap64 (x3 + 1))))) else (some 0)
def qbt_.f (k : Nat) (a0 : ByteArray) : Option (Int) := qbt_.l0 k a0 1
theorem qbt_.calls (k : Nat) (a0 : ByteArray) (r : Int) (w : World) (h : qbt_.f k a0 = some r) :
  Calls Tryz.prog 78 #[.string a0] w fun e w' => e = .returned (.int .i64 r) ∧ Drawn0 w w' := by
 unfold qbt_.f at h; have H := h; clear h; have H' := qa_.mk H; clear H; go_enter func78, ntmps78; go_wp2
 go_loopg [3] k (fun kq v3 w' => ∃ (x3_1 : Int), v3 = .int .i64 x3_1 ∧ qa_ (qbt_.l0 kq a0 x3_1 = some r) ∧ qa_ (kq ≤ k) ∧ Drawn0 w w')
 case atStart => exact ⟨(1), z1_, H', ⟨Nat.le_refl _⟩, z2_⟩
 case round =>
  clear H'; obtain ⟨x3_1, rfl, HA, HK1, ⟨m1, rfl⟩⟩ := hrel
  cases gk with
  | zero => exact absurd HA.out (by simp [qbt_.l0])
  | succ k1 =>
   have H := HA.out; clear HA; simp only [qbt_.l0] at H; by_cases c2 : x3_1 ≤ 4; rotate_left
   ·rw [if_neg c2] at H; have c2b0 := df_ c2; clear c2; obtain rfl := oi_ H; go_wp2
    go_ret
    exact ⟨z1_, z2_⟩
   rw [if_pos c2] at H; have c2b0 := dt_ c2; clear c2; obtain ⟨t165, A3, H⟩ := bx_ H; by_cases c4 : t165.toList = a0.toList
   ·rw [if_pos c4] at H; have c4b0 := et_ c4; have c4b1 := nf_ c4; clear c4; obtain rfl := oi_ H; go_wp2_with (first | ((with_reducible refine qb_ (f := 80) rfl ?_); refine gl_ (some 9) func80 #[.int .i64 x3_1] ?_; refine cm_ (qct_.calls x3_1 t165 _ A3.out) ?_; rintro w' ⟨nd, rfl⟩)); go_ret
    exact ⟨z1_, z2_⟩
   rw [if_neg c4] at H; have c4b0 := ef_ c4; have c4b1 := nt_ c4; have H' := qa_.mk H; clear H; go_wp2_with (first | ((with_reducible refine qb_ (f := 80) rfl ?_); refine gl_ (some 9) func80 #[.int .i64 x3_1] ?_; refine cm_ (qct_.calls x3_1 t165 _ A3.out) ?_; rintro w' ⟨nd, rfl⟩)); go_roundg k1
   case measure => have := HK1.out; omega
   case rel => exact ⟨(wrap64 (x3_1 + 1)), z1_, H', ⟨by have := HK1.out; omega⟩, z2_⟩
mutual
def qp_.j0 : Nat → Bool → ByteArray → Int → ByteArray → ByteArray → ByteArray → Int → Int → ByteArray → Option (Int)
 | 0, _, _, _, _, _, _, _, _, _ => none
 | k + 1, x3, x111000, x111001, x111002, x111003, x111004, x111005, x111006, x111007 => qp_.l0 k x3 0 x111000 x111001 x111002 x111003 x111004 x111005 x111006 x111007
def qp_.l0 : Nat → Bool → Int → ByteArray → Int → ByteArray → ByteArray → ByteArray → Int → Int → ByteArray → Option (Int)
 | 0, _, _, _, _, _, _, _, _, _, _ => none
 | k + 1, x3, x4, x111000, x111001, x111002, x111003, x111004, x111005, x111006, x111007 => if x4 < (x111002.size : Int) then (if x3 = true then (qp_.l0 k true (wrap64 (x4 + 1)) x111000 x111001 x111002 x111003 x111004 x111005 x111006 x111007) else (if 0 ≤ x4 then (qp_.l0 k (decide ((bt x111002 x4) ≤ 32)) (wrap64 (x4 + 1)) x111000 x111001 x111002 x111003 x111004 x111005 x111006 x111007) else (none))) else (if x3 = true then (some 1) else (if (x111007.size : Int) > 4096 then (some 4) else (some 0)))
end
def qp_.f (k : Nat) (a0_0 : ByteArray) (a0_1 : Int) (a0_2 : ByteArray) (a0_3 : ByteArray) (a0_4 : ByteArray) (a0_5 : Int) (a0_6 : Int) (a0_7 : ByteArray) : Option (Int) := (qw_.f k a0_0).bind fun t111 => (if t111 = true then (if a0_1 < 1 then (qp_.j0 k true a0_0 a0_1 a0_2 a0_3 a0_4 a0_5 a0_6 a0_7) else (if a0_1 > 4 then (qp_.j0 k true a0_0 a0_1 a0_2 a0_3 a0_4 a0_5 a0_6 a0_7) else (if (a0_2.size : Int) < 1 then (qp_.j0 k true a0_0 a0_1 a0_2 a0_3 a0_4 a0_5 a0_6 a0_7) else (if (a0_2.size : Int) > 64 then (qp_.j0 k true a0_0 a0_1 a0_2 a0_3 a0_4 a0_5 a0_6 a0_7) else ((qaj_.f k a0_3 a0_4 a0_5 a0_6).bind fun t112 => (if t112 = true then ((qbl_.f k a0_7).bind fun t113 => (qp_.j0 k t113 a0_0 a0_1 a0_2 a0_3 a0_4 a0_5 a0_6 a0_7)) else (qp_.j0 k true a0_0 a0_1 a0_2 a0_3 a0_4 a0_5 a0_6 a0_7))))))) else (qp_.j0 k true a0_0 a0_1 a0_2 a0_3 a0_4 a0_5 a0_6 a0_7))
theorem qp_.calls (k : Nat) (a0_0 : ByteArray) (a0_1 : Int) (a0_2 : ByteArray) (a0_3 : ByteArray) (a0_4 : ByteArray) (a0_5 : Int) (a0_6 : Int) (a0_7 : ByteArray) (r : Int) (w : World) (h : qp_.f k a0_0 a0_1 a0_2 a0_3 a0_4 a0_5 a0_6 a0_7 = some r) :
  Calls Tryz.prog 28 #[.agg #[.string a0_0, .int .i64 a0_1, .string a0_2, .string a0_3, .string a0_4, .int .i64 a0_5, .int .i64 a0_6, .string a0_7]] w fun e w' => e = .returned (.int .i64 r) ∧ Below w.heap.size w w' := by
 have hu37 := underlying37; have hu24 := underlying24; have HB := qa_.mk (Below.refl w.heap.size w); unfold qp_.f at h; have H := h; clear h; have HC2 := qa_.mk H; clear H; go_enter func28, ntmps28; go_upto_region 1 with (first | ((with_reducible refine qk_ (N := 1) rfl ?_); (try (refine qcp_ (by rfl) ?_; dsimp only)); refine be_ (cs := #[.string a0_0, .int .i64 a0_1, .string a0_2, .string a0_3, .string a0_4, .int .i64 a0_5, .int .i64 a0_6, .string a0_7]) (t := 37) ?_; intro g110 hg w3 hbox hb; have K110 := qa_.mk (hbox); have W110 := ag_ hg HB; have E110 := ag_ hg HB; replace HB := ah_ HB hb; clear hb hbox hg)); (try simp only [Act.put, List.setIfInBounds_toArray, List.set_cons_zero, List.set_cons_succ])
 go_cut [3] (fun v3 wc => ∃ (kq : Nat) (x3_1 : Bool), v3 = .bool x3_1 ∧ qa_ (qp_.j0 kq x3_1 a0_0 a0_1 a0_2 a0_3 a0_4 a0_5 a0_6 a0_7 = some r) ∧ qa_ (kq ≤ k) ∧ qa_ (wc.heap[g110]? = some (.cells #[.string a0_0, .int .i64 a0_1, .string a0_2, .string a0_3, .string a0_4, .int .i64 a0_5, .int .i64 a0_6, .string a0_7] 37 (0, 0))) ∧ qa_ (Below w.heap.size w wc))
 case first =>
  have H := HC2.out; clear HC2; obtain ⟨t111, A4, H⟩ := bx_ H; by_cases c5 : t111 = true; rotate_left
  ·replace c5 := Bool.eq_false_iff.mpr c5; subst c5; rw [if_neg nft_] at H; have H' := qa_.mk H; clear H; obtain ⟨Z22_0, Z22_1, Z22_2, Z22_3, Z22_4, Z22_5, Z22_6, Z22_7, F22⟩ := bc8 K110.out; go_wp2_with (first | ((with_reducible refine qb_ (f := 61) rfl ?_); refine gl_ (some 7) func61 #[.string a0_0] ?_; refine cm_ (qw_.calls k a0_0 false _ A4.out) ?_; rintro w' ⟨nd, rfl⟩)); go_meet
   case rel => exact ⟨_, (true), z1_, H', ⟨z4_⟩, ⟨bk_ K110.out⟩, ⟨hs_⟩⟩
  subst c5; rw [if_pos rfl] at H; by_cases c6 : a0_1 < 1
  ·rw [if_pos c6] at H; have c6b0 := dt_ c6; clear c6; (first | rw [c6b0] | (simp only [i64_w, i32_w]; rw [c6b0]) | skip); have H' := qa_.mk H; clear H; obtain ⟨Z7_0, Z7_1, Z7_2, Z7_3, Z7_4, Z7_5, Z7_6, Z7_7, F7⟩ := bc8 K110.out; go_wp2_with (first | ((with_reducible refine qb_ (f := 61) rfl ?_); refine gl_ (some 7) func61 #[.string a0_0] ?_; refine cm_ (qw_.calls k a0_0 true _ A4.out) ?_; rintro w' ⟨nd, rfl⟩)); go_meet
   case rel => exact ⟨_, (true), z1_, H', ⟨z4_⟩, ⟨bk_ K110.out⟩, ⟨hs_⟩⟩
  rw [if_neg c6] at H; have c6b0 := df_ c6; clear c6; (first | rw [c6b0] | (simp only [i64_w, i32_w]; rw [c6b0]) | skip); by_cases c8 : a0_1 > 4
  ·rw [if_pos c8] at H; have c8b0 := dt_ c8; clear c8; have H' := qa_.mk H; clear H; obtain ⟨Z9_0, Z9_1, Z9_2, Z9_3, Z9_4, Z9_5, Z9_6, Z9_7, F9⟩ := bc8 K110.out; go_wp2_with (first | ((with_reducible refine qb_ (f := 61) rfl ?_); refine gl_ (some 7) func61 #[.string a0_0] ?_; refine cm_ (qw_.calls k a0_0 true _ A4.out) ?_; rintro w' ⟨nd, rfl⟩)); go_meet
   case rel => exact ⟨_, (true), z1_, H', ⟨z4_⟩, ⟨bk_ K110.out⟩, ⟨hs_⟩⟩
  rw [if_neg c8] at H; have c8b0 := df_ c8; clear c8; by_cases c10 : (a0_2.size : Int) < 1
  ·rw [if_pos c10] at H; have c10b0 := dt_ c10; have c10b1 : decide (a0_2.size < 1) = true := decide_eq_true (by omega); clear c10; have H' := qa_.mk H; clear H; obtain ⟨Z11_0, Z11_1, Z11_2, Z11_3, Z11_4, Z11_5, Z11_6, Z11_7, F11⟩ := bc8 K110.out; go_wp2_with (first | ((with_reducible refine qb_ (f := 61) rfl ?_); refine gl_ (some 7) func61 #[.string a0_0] ?_; refine cm_ (qw_.calls k a0_0 true _ A4.out) ?_; rintro w' ⟨nd, rfl⟩)); go_meet
   case rel => exact ⟨_, (true), z1_, H', ⟨z4_⟩, ⟨bk_ K110.out⟩, ⟨hs_⟩⟩
  rw [if_neg c10] at H; have c10b0 := df_ c10; have c10b1 : decide (a0_2.size < 1) = false := decide_eq_false (by omega); clear c10; by_cases c12 : (a0_2.size : Int) > 64
  ·rw [if_pos c12] at H; have c12b0 := dt_ c12; have c12b1 : decide (64 < a0_2.size) = true := decide_eq_true (by omega); clear c12; have H' := qa_.mk H; clear H; obtain ⟨Z13_0, Z13_1, Z13_2, Z13_3, Z13_4, Z13_5, Z13_6, Z13_7, F13⟩ := bc8 K110.out; go_wp2_with (first | ((with_reducible refine qb_ (f := 61) rfl ?_); refine gl_ (some 7) func61 #[.string a0_0] ?_; refine cm_ (qw_.calls k a0_0 true _ A4.out) ?_; rintro w' ⟨nd, rfl⟩)); go_meet
   case rel => exact ⟨_, (true), z1_, H', ⟨z4_⟩, ⟨bk_ K110.out⟩, ⟨hs_⟩⟩
  rw [if_neg c12] at H; have c12b0 := df_ c12; have c12b1 : decide (64 < a0_2.size) = false := decide_eq_false (by omega); clear c12; obtain ⟨t112, A14, H⟩ := bx_ H; by_cases c15 : t112 = true; rotate_left
  ·replace c15 := Bool.eq_false_iff.mpr c15; subst c15; rw [if_neg nft_] at H; have H' := qa_.mk H; clear H; obtain ⟨Z20_0, Z20_1, Z20_2, Z20_3, Z20_4, Z20_5, Z20_6, Z20_7, F20⟩ := bc8 K110.out; go_wp2_with (first | ((with_reducible refine qb_ (f := 61) rfl ?_); refine gl_ (some 7) func61 #[.string a0_0] ?_; refine cm_ (qw_.calls k a0_0 true _ A4.out) ?_; rintro w' ⟨nd, rfl⟩) | (go_at_call 32; (with_reducible refine (qaj_.calls k a0_3 a0_4 a0_5 a0_6 false _ A14.out).mono ?_); rintro e w21 ⟨rfl, hb⟩; replace K110 := ab_ K110 hb; replace HB := qa_.mk (qc_ (hs_) hb); (try clear hb); (try clear hb2); (try clear hk); (try clear hi)))
   go_meet
   case rel => exact ⟨_, (true), z1_, H', ⟨z4_⟩, ⟨bk_ K110.out⟩, ⟨hs_⟩⟩
  subst c15; rw [if_pos rfl] at H; obtain ⟨t113, A16, H⟩ := bx_ H; have H' := qa_.mk H; clear H; obtain ⟨Z17_0, Z17_1, Z17_2, Z17_3, Z17_4, Z17_5, Z17_6, Z17_7, F17⟩ := bc8 K110.out; go_wp2_with (first | ((with_reducible refine qb_ (f := 61) rfl ?_); refine gl_ (some 7) func61 #[.string a0_0] ?_; refine cm_ (qw_.calls k a0_0 true _ A4.out) ?_; rintro w' ⟨nd, rfl⟩) | (go_at_call 32; (with_reducible refine (qaj_.calls k a0_3 a0_4 a0_5 a0_6 true _ A14.out).mono ?_); rintro e w18 ⟨rfl, hb⟩; replace K110 := ab_ K110 hb; replace HB := qa_.mk (qc_ (hs_) hb); (try clear hb); (try clear hb2); (try clear hk); (try clear hi); obtain ⟨Z19_0, Z19_1, Z19_2, Z19_3, Z19_4, Z19_5, Z19_6, Z19_7, F19⟩ := bc8 K110.out) | (go_at_call 69; (with_reducible refine (qbl_.calls k a0_7 t113 _ A16.out).mono ?_); rintro e w' ⟨rfl, ⟨nd, rfl⟩⟩)); go_meet
  case rel => exact ⟨_, (t113), z1_, H', ⟨z4_⟩, ⟨bk_ K110.out⟩, ⟨hs_⟩⟩
 case rest =>
  clear HC2; try clear c1
  try clear c2
  try clear p2
  try clear c5
  try clear c6
  try clear c6b0
  try clear c8
  try clear c8b0
  try clear c10
  try clear c10b0
  try clear c10b1
  try clear c12
  try clear c12b0
  try clear c12b1
  try clear c15
  try clear Z11_0 Z11_1 Z11_2 Z11_3 Z11_4 Z11_5 Z11_6 Z11_7
  try clear Z13_0 Z13_1 Z13_2 Z13_3 Z13_4 Z13_5 Z13_6 Z13_7
  try clear Z17_0 Z17_1 Z17_2 Z17_3 Z17_4 Z17_5 Z17_6 Z17_7
  try clear Z19_0 Z19_1 Z19_2 Z19_3 Z19_4 Z19_5 Z19_6 Z19_7
  try clear Z20_0 Z20_1 Z20_2 Z20_3 Z20_4 Z20_5 Z20_6 Z20_7
  try clear Z22_0 Z22_1 Z22_2 Z22_3 Z22_4 Z22_5 Z22_6 Z22_7
  try clear Z7_0 Z7_1 Z7_2 Z7_3 Z7_4 Z7_5 Z7_6 Z7_7
  try clear Z9_0 Z9_1 Z9_2 Z9_3 Z9_4 Z9_5 Z9_6 Z9_7
  try clear F11
  try clear F13
  try clear F17
  try clear F19
  try clear F20
  try clear F22
  try clear F7
  try clear F9
  obtain ⟨kq, x3_1, rfl, HA, HJ1, K110, HB⟩ := hcut
  cases kq with
  | zero => exact absurd HA.out (by simp [qp_.j0])
  | succ kj1 =>
   have H := HA.out; clear HA; simp only [qp_.j0] at H; have H' := qa_.mk H; clear H; go_wp2
   go_loopg [3, 4] kj1 (fun kq v3 v4 w' => ∃ (x3_2 : Bool) (x4_2 : Int), v3 = .bool x3_2 ∧ v4 = .int .i64 x4_2 ∧ qa_ (qp_.l0 kq x3_2 x4_2 a0_0 a0_1 a0_2 a0_3 a0_4 a0_5 a0_6 a0_7 = some r) ∧ qa_ (kq ≤ kj1) ∧ qa_ (w'.heap[g110]? = some (.cells #[.string a0_0, .int .i64 a0_1, .string a0_2, .string a0_3, .string a0_4, .int .i64 a0_5, .int .i64 a0_6, .string a0_7] 37 (0, 0))) ∧ qa_ (Below w.heap.size w w'))
   case atStart => exact ⟨(x3_1), (0), z1_, z1_, H', ⟨Nat.le_refl _⟩, ⟨bk_ K110.out⟩, ⟨hs_⟩⟩
   case round =>
    clear H'; try clear c1
    try clear c2
    try clear p2
    try clear c5
    try clear c6
    try clear c6b0
    try clear c8
    try clear c8b0
    try clear c10
    try clear c10b0
    try clear c10b1
    try clear c12
    try clear c12b0
    try clear c12b1
    try clear c15
    try clear Z11_0 Z11_1 Z11_2 Z11_3 Z11_4 Z11_5 Z11_6 Z11_7
    try clear Z13_0 Z13_1 Z13_2 Z13_3 Z13_4 Z13_5 Z13_6 Z13_7
    try clear Z17_0 Z17_1 Z17_2 Z17_3 Z17_4 Z17_5 Z17_6 Z17_7
    try clear Z19_0 Z19_1 Z19_2 Z19_3 Z19_4 Z19_5 Z19_6 Z19_7
    try clear Z20_0 Z20_1 Z20_2 Z20_3 Z20_4 Z20_5 Z20_6 Z20_7
    try clear Z22_0 Z22_1 Z22_2 Z22_3 Z22_4 Z22_5 Z22_6 Z22_7
    try clear Z7_0 Z7_1 Z7_2 Z7_3 Z7_4 Z7_5 Z7_6 Z7_7
    try clear Z9_0 Z9_1 Z9_2 Z9_3 Z9_4 Z9_5 Z9_6 Z9_7
    try clear F11
    try clear F13
    try clear F17
    try clear F19
    try clear F20
    try clear F22
    try clear F7
    try clear F9
    try clear p2
    obtain ⟨x3_2, x4_2, rfl, rfl, HA, HK2, K110, HB⟩ := hrel
    cases gk with
    | zero => exact absurd HA.out (by simp [qp_.l0])
    | succ k2 =>
     have H := HA.out; clear HA; simp only [qp_.l0] at H; by_cases c23 : x4_2 < (a0_2.size : Int); rotate_left
     ·rw [if_neg c23] at H; have c23b0 := df_ c23; clear c23; by_cases c29 : x3_2 = true
      ·subst c29; rw [if_pos rfl] at H; obtain rfl := oi_ H; obtain ⟨Z30_0, Z30_1, Z30_2, Z30_3, Z30_4, Z30_5, Z30_6, Z30_7, F30⟩ := bc8 K110.out; go_wp2
       go_ret
       exact ⟨z3_, hs_⟩
      replace c29 := Bool.eq_false_iff.mpr c29; subst c29; rw [if_neg nft_] at H; by_cases c31 : (a0_7.size : Int) > 4096
      ·rw [if_pos c31] at H; have c31b0 := dt_ c31; have c31b1 : decide (4096 < a0_7.size) = true := decide_eq_true (by omega); clear c31; obtain rfl := oi_ H; obtain ⟨Z32_0, Z32_1, Z32_2, Z32_3, Z32_4, Z32_5, Z32_6, Z32_7, F32⟩ := bc8 K110.out; go_wp2
       go_ret
       exact ⟨z3_, hs_⟩
      rw [if_neg c31] at H; have c31b0 := df_ c31; have c31b1 : decide (4096 < a0_7.size) = false := decide_eq_false (by omega); clear c31; obtain rfl := oi_ H; obtain ⟨Z33_0, Z33_1, Z33_2, Z33_3, Z33_4, Z33_5, Z33_6, Z33_7, F33⟩ := bc8 K110.out; go_wp2
      go_ret
      exact ⟨z3_, hs_⟩
     rw [if_pos c23] at H; have c23b0 := dt_ c23; clear c23; by_cases c24 : x3_2 = true
     ·subst c24; rw [if_pos rfl] at H; have H' := qa_.mk H; clear H; obtain ⟨Z25_0, Z25_1, Z25_2, Z25_3, Z25_4, Z25_5, Z25_6, Z25_7, F25⟩ := bc8 K110.out; go_wp2
      go_roundg k2
      case measure => have := HJ1.out; have := HK2.out; omega
      case rel => exact ⟨(true), (wrap64 (x4_2 + 1)), z1_, z1_, H', ⟨by have := HJ1.out; have := HK2.out; omega⟩, ⟨bk_ K110.out⟩, ⟨hs_⟩⟩
     replace c24 := Bool.eq_false_iff.mpr c24; subst c24; rw [if_neg nft_] at H; by_cases c26 : 0 ≤ x4_2; rotate_left
     ·rw [if_neg c26] at H; exact no_ H
     rw [if_pos c26] at H; have c26b0 := dt_ c26; clear c26; have H' := qa_.mk H; clear H; obtain ⟨Z28_0, Z28_1, Z28_2, Z28_3, Z28_4, Z28_5, Z28_6, Z28_7, F28⟩ := bc8 K110.out; have p27 : 0 ≤ (x4_2 : Int) := y0_; have q27 : x4_2 < (a0_2.size : Int) := y0_; have hx27 := bt_at a0_2 x4_2; replace p27 := eq_true p27; replace q27 := eq_true q27; go_wp2
     go_roundg k2
     case measure => have := HJ1.out; have := HK2.out; omega
     case rel => exact ⟨(decide ((bt a0_2 x4_2) ≤ 32)), (wrap64 (x4_2 + 1)), z1_, z1_, H', ⟨by have := HJ1.out; have := HK2.out; omega⟩, ⟨bk_ K110.out⟩, ⟨hs_⟩⟩
def qx_.j0 : Nat → ByteArray → Int → Bool → ByteArray → Int → ByteArray → ByteArray → ByteArray → Int → Int → ByteArray → Option (ByteArray × Int × ByteArray × ByteArray × ByteArray × Int × Int × ByteArray × Int)
 | 0, _, _, _, _, _, _, _, _, _, _, _ => none
 | k + 1, x0, x14, x94, x162000, x162001, x162002, x162003, x162004, x162005, x162006, x162007 => if x94 = true then (some ((⟨#[]⟩ : ByteArray), 0, (⟨#[]⟩ : ByteArray), (⟨#[]⟩ : ByteArray), (⟨#[]⟩ : ByteArray), 0, 0, (⟨#[]⟩ : ByteArray), 2)) else (if 0 ≤ (wrap64 (x14 + 1)) then (if (wrap64 (x14 + 1)) ≤ (x0.size : Int) then ((qp_.f k x162000 x162001 x162002 x162003 x162004 x162005 x162006 (x0.extract ((wrap64 (x14 + 1)) : Int).toNat x0.size)).bind fun t163 => (if t163 = 0 then (some (x162000, x162001, x162002, x162003, x162004, x162005, x162006, x0.extract ((wrap64 (x14 + 1)) : Int).toNat x0.size, 0)) else (some ((⟨#[]⟩ : ByteArray), 0, (⟨#[]⟩ : ByteArray), (⟨#[]⟩ : ByteArray), (⟨#[]⟩ : ByteArray), 0, 0, (⟨#[]⟩ : ByteArray), t163)))) else (none)) else (none))
def qx_.f (k : Nat) (a0 : ByteArray) : Option (ByteArray × Int × ByteArray × ByteArray × ByteArray × Int × Int × ByteArray × Int) := (qau_.f k a0 0 ⟨#[111, 98, 106, 101, 99, 116]⟩).bind fun bt142 => ((qau_.f k a0 bt142.2.1 ⟨#[116, 121, 112, 101]⟩).bind fun bt145 => ((qau_.f k a0 bt145.2.1 ⟨#[116, 97, 103]⟩).bind fun bt148 => ((qau_.f k a0 bt148.2.1 ⟨#[116, 97, 103, 103, 101, 114]⟩).bind fun bt151 => ((qbp_.f k bt151.1 bt151.2.2).bind fun bt154 => ((qbt_.f k bt145.1).bind fun t160 => (if bt142.2.2 = true then (if bt145.2.2 = true then (if bt148.2.2 = true then (if bt154.2.2.2.2 = 0 then (qx_.j0 k a0 bt151.2.1 true bt142.1 t160 bt148.1 bt154.1 bt154.2.1 bt154.2.2.1 bt154.2.2.2.1 ⟨#[]⟩) else ((qw_.f k bt142.1).bind fun t162 => (if t162 = true then (if t160 = 0 then (qx_.j0 k a0 bt151.2.1 true bt142.1 t160 bt148.1 bt154.1 bt154.2.1 bt154.2.2.1 bt154.2.2.2.1 ⟨#[]⟩) else (if bt151.2.1 ≥ (a0.size : Int) then (qx_.j0 k a0 bt151.2.1 true bt142.1 t160 bt148.1 bt154.1 bt154.2.1 bt154.2.2.1 bt154.2.2.2.1 ⟨#[]⟩) else (if 0 ≤ bt151.2.1 then (if bt151.2.1 < (a0.size : Int) then (qx_.j0 k a0 bt151.2.1 ((bt a0 bt151.2.1) != 10) bt142.1 t160 bt148.1 bt154.1 bt154.2.1 bt154.2.2.1 bt154.2.2.2.1 ⟨#[]⟩) else (none)) else (none)))) else (qx_.j0 k a0 bt151.2.1 true bt142.1 t160 bt148.1 bt154.1 bt154.2.1 bt154.2.2.1 bt154.2.2.2.1 ⟨#[]⟩)))) else (qx_.j0 k a0 bt151.2.1 true bt142.1 t160 bt148.1 bt154.1 bt154.2.1 bt154.2.2.1 bt154.2.2.2.1 ⟨#[]⟩)) else (qx_.j0 k a0 bt151.2.1 true bt142.1 t160 bt148.1 bt154.1 bt154.2.1 bt154.2.2.1 bt154.2.2.2.1 ⟨#[]⟩)) else (qx_.j0 k a0 bt151.2.1 true bt142.1 t160 bt148.1 bt154.1 bt154.2.1 bt154.2.2.1 bt154.2.2.2.1 ⟨#[]⟩)))))))
def qx_.T6 : Bool × List (List Nat × List Nat) := (true, [([], []), ([], []), ([1], [1]), ([], []), ([], []), ([0, 2, 3, 4], [0, 2, 3, 4]), ([], []), ([6, 5, 2, 0, 1, 2, 3, 4, 5, 6], [5, 6])])
def qx_.B6 : List Nat := [0, 0, 2, 0, 0, 31, 0, 127]
theorem qx_.tab6 : rtab .any (opsOf Tryz.f24 6) = qx_.T6 := by kernel_rfl
theorem qx_.bits6 : qdi_ qx_.T6.2 qx_.B6 = true := by kernel_rfl
theorem qx_.calls (k : Nat) (a0 : ByteArray) (r1 : ByteArray) (r2 : Int) (r3 : ByteArray) (r4 : ByteArray) (r5 : ByteArray) (r6 : Int) (r7 : Int) (r8 : ByteArray) (r9 : Int) (w : World) (h : qx_.f k a0 = some (r1, r2, r3, r4, r5, r6, r7, r8, r9)) :
  Calls Tryz.prog 24 #[.string a0] w fun e w' => e = .returned (.tuple #[.agg #[.string r1, .int .i64 r2, .string r3, .string r4, .string r5, .int .i64 r6, .int .i64 r7, .string r8], .int .i64 r9]) ∧ Below w.heap.size w w' := by
 have hu37 := underlying37; have hu24 := underlying24; have HB := qa_.mk (Below.refl w.heap.size w); unfold qx_.f at h; have H := h; clear h; obtain ⟨⟨t142, t143, t144⟩, A2, H⟩ := bx_ H; dsimp only at H; obtain ⟨⟨t145, t146, t147⟩, A3, H⟩ := bx_ H; dsimp only at H; obtain ⟨⟨t148, t149, t150⟩, A4, H⟩ := bx_ H; dsimp only at H; obtain ⟨⟨t151, t152, t153⟩, A5, H⟩ := bx_ H; dsimp only at H; obtain ⟨⟨t154, t155, t156, t157, t158⟩, A6, H⟩ := bx_ H; dsimp only at H; obtain ⟨t160, A7, H⟩ := bx_ H; have HC8 := qa_.mk H; clear H; go_enter func24, ntmps24; try go_wp2_with (first | ((with_reducible refine qk_ (N := 2) rfl ?_); (try (refine qcp_ (by rfl) ?_; dsimp only)); refine be_ (cs := #[.string ⟨#[]⟩, .int .i64 0, .string ⟨#[]⟩, .string ⟨#[]⟩, .string ⟨#[]⟩, .int .i64 0, .int .i64 0, .string ⟨#[]⟩]) (t := 37) ?_; intro g141 hg w9 hbox hb; have K141 := qa_.mk (hbox); have W141 := ag_ hg HB; have E141 := ag_ hg HB; replace HB := ah_ HB hb; clear hb hbox hg) | ((with_reducible refine qb_ (f := 75) rfl ?_); refine gl_ (some 22) func75 #[.string a0, .int .i64 0, .string ⟨#[111, 98, 106, 101, 99, 116]⟩] ?_; refine cm_ (qau_.calls k a0 0 ⟨#[111, 98, 106, 101, 99, 116]⟩ t142 t143 t144 _ A2.out) ?_; rintro w' ⟨nd, rfl⟩; (try (rw [qcn_ w9]; generalize hq_ : World.drewN w9 _ = w9; have n0_ : qa_ (w9.heap[g141]? = some (.cells #[.string ⟨#[]⟩, .int .i64 0, .string ⟨#[]⟩, .string ⟨#[]⟩, .string ⟨#[]⟩, .int .i64 0, .int .i64 0, .string ⟨#[]⟩] 37 (0, 0))) := ⟨by rw [← hq_]; exact (bk_ K141.out)⟩; have n1_ : qa_ (Below w.heap.size w w9) := ⟨by rw [← hq_]; exact (hs_)⟩; clear K141 HB hq_; have K141 := n0_; have HB := n1_; clear n0_ n1_))) | ((with_reducible refine qb_ (f := 75) rfl ?_); refine gl_ (some 29) func75 #[.string a0, .int .i64 t143, .string ⟨#[116, 121, 112, 101]⟩] ?_; refine cm_ (qau_.calls k a0 t143 ⟨#[116, 121, 112, 101]⟩ t145 t146 t147 _ A3.out) ?_; rintro w' ⟨nd, rfl⟩; (try (rw [qcn_ w9]; generalize hq_ : World.drewN w9 _ = w9; have n0_ : qa_ (w9.heap[g141]? = some (.cells #[.string ⟨#[]⟩, .int .i64 0, .string ⟨#[]⟩, .string ⟨#[]⟩, .string ⟨#[]⟩, .int .i64 0, .int .i64 0, .string ⟨#[]⟩] 37 (0, 0))) := ⟨by rw [← hq_]; exact (bk_ K141.out)⟩; have n1_ : qa_ (Below w.heap.size w w9) := ⟨by rw [← hq_]; exact (hs_)⟩; clear K141 HB hq_; have K141 := n0_; have HB := n1_; clear n0_ n1_))) | ((with_reducible refine qb_ (f := 75) rfl ?_); refine gl_ (some 36) func75 #[.string a0, .int .i64 t146, .string ⟨#[116, 97, 103]⟩] ?_; refine cm_ (qau_.calls k a0 t146 ⟨#[116, 97, 103]⟩ t148 t149 t150 _ A4.out) ?_; rintro w' ⟨nd, rfl⟩; (try (rw [qcn_ w9]; generalize hq_ : World.drewN w9 _ = w9; have n0_ : qa_ (w9.heap[g141]? = some (.cells #[.string ⟨#[]⟩, .int .i64 0, .string ⟨#[]⟩, .string ⟨#[]⟩, .string ⟨#[]⟩, .int .i64 0, .int .i64 0, .string ⟨#[]⟩] 37 (0, 0))) := ⟨by rw [← hq_]; exact (bk_ K141.out)⟩; have n1_ : qa_ (Below w.heap.size w w9) := ⟨by rw [← hq_]; exact (hs_)⟩; clear K141 HB hq_; have K141 := n0_; have HB := n1_; clear n0_ n1_))) | ((with_reducible refine qb_ (f := 75) rfl ?_); refine gl_ (some 43) func75 #[.string a0, .int .i64 t149, .string ⟨#[116, 97, 103, 103, 101, 114]⟩] ?_; refine cm_ (qau_.calls k a0 t149 ⟨#[116, 97, 103, 103, 101, 114]⟩ t151 t152 t153 _ A5.out) ?_; rintro w' ⟨nd, rfl⟩; (try (rw [qcn_ w9]; generalize hq_ : World.drewN w9 _ = w9; have n0_ : qa_ (w9.heap[g141]? = some (.cells #[.string ⟨#[]⟩, .int .i64 0, .string ⟨#[]⟩, .string ⟨#[]⟩, .string ⟨#[]⟩, .int .i64 0, .int .i64 0, .string ⟨#[]⟩] 37 (0, 0))) := ⟨by rw [← hq_]; exact (bk_ K141.out)⟩; have n1_ : qa_ (Below w.heap.size w w9) := ⟨by rw [← hq_]; exact (hs_)⟩; clear K141 HB hq_; have K141 := n0_; have HB := n1_; clear n0_ n1_))) | ((with_reducible refine qb_ (f := 76) rfl ?_); refine gl_ (some 50) func76 #[.string t151, .bool t153] ?_; refine cm_ (qbp_.calls k t151 t153 t154 t155 t156 t157 t158 _ A6.out) fun w10 hb => ?_; replace K141 := ab_ K141 hb; replace HB := qa_.mk (qc_ (hs_) hb); (try clear hb); (try clear hb2); (try clear hk); (try clear hi)) | ((with_reducible refine qk_ (N := 16) rfl ?_); (try (refine qcp_ (by rfl) ?_; dsimp only)); refine be_ (cs := #[.string ⟨#[]⟩, .string ⟨#[]⟩, .int .i64 0, .int .i64 0]) (t := 24) ?_; intro g159 hg w11 hbox hb; have K159 := qa_.mk (hbox); have W159 := qa_.mk ((by rw [hg]; exact (qn_ (hs_)) : w.heap.size ≤ g159)); have E159 := qa_.mk ((by rw [hg]; exact (qn_ (hs_)) : w.heap.size ≤ g159)); replace HB := qa_.mk (qc_ (hs_) hb); have N141_159 := qa_.mk (nl2_ hg K141.out); have N159_141 := qa_.mk (ng2_ hg K141.out); replace K141 := ab_ K141 hb; clear hb hbox hg; have hnb12 := N159_141.out; have hnc12 := N141_159.out; obtain ⟨Z13_0, Z13_1, Z13_2, Z13_3, F13⟩ := bc4 K159.out))
 have n0_ : qa_ (((((w11.setCell ⟨g159, 0, none⟩ (.string t154)).setCell ⟨g159, 1, none⟩ (.string t155)).setCell ⟨g159, 2, none⟩ (.int .i64 t156)).setCell ⟨g159, 3, none⟩ (.int .i64 t157)).heap[g141]? = some (.cells #[.string ⟨#[]⟩, .int .i64 0, .string ⟨#[]⟩, .string ⟨#[]⟩, .string ⟨#[]⟩, .int .i64 0, .int .i64 0, .string ⟨#[]⟩] 37 (0, 0))) := ⟨by have b_ := K141; have f_ := N141_159; exact zb_⟩; have n1_ : qa_ (((((w11.setCell ⟨g159, 0, none⟩ (.string t154)).setCell ⟨g159, 1, none⟩ (.string t155)).setCell ⟨g159, 2, none⟩ (.int .i64 t156)).setCell ⟨g159, 3, none⟩ (.int .i64 t157)).heap[g159]? = some (.cells #[.string t154, .string t155, .int .i64 t156, .int .i64 t157] 24 (0, 0))) := ⟨by have b_ := K159; exact zb_⟩; have n2_ : qa_ (Below w.heap.size w ((((w11.setCell ⟨g159, 0, none⟩ (.string t154)).setCell ⟨g159, 1, none⟩ (.string t155)).setCell ⟨g159, 2, none⟩ (.int .i64 t156)).setCell ⟨g159, 3, none⟩ (.int .i64 t157))) := ⟨hs_⟩; (try clear K141)
 (try clear K159)
 (try clear HB)
 generalize ((((w11.setCell ⟨g159, 0, none⟩ (.string t154)).setCell ⟨g159, 1, none⟩ (.string t155)).setCell ⟨g159, 2, none⟩ (.int .i64 t156)).setCell ⟨g159, 3, none⟩ (.int .i64 t157)) = w14 at n0_ n1_ n2_ ⊢; have K141 := n0_; have K159 := n1_; have HB := n2_; clear n0_ n1_ n2_; replace K141 := ad_ K141; replace K159 := ad_ K159; replace HB := hd_ HB; refine qdl_ (n := 8) (S := fun w' => w'.cell? ⟨g159, 0, none⟩ = some (.string t154) ∧ w'.cell? ⟨g159, 1, none⟩ = some (.string t155) ∧ w'.cell? ⟨g159, 2, none⟩ = some (.int .i64 t156) ∧ w'.cell? ⟨g159, 3, none⟩ = some (.int .i64 t157)) (ds := []) (bs 8 0) (by kernel_rfl) rfl rfl (bc4o K159.out) (fun qal_ => ?_); refine qds_ qx_.tab6 qx_.bits6 (fun HT_ HW_ => ?_); generalize w14.drew = w15 at K141 K159 HB qal_ ⊢; refine pun_ 0 53 8 1 ?_; refine pun_ 1 54 8 3 ?_; refine pun_ 3 56 8 11 ?_; refine tkW4n_ 4 57 8 27 qal_ ?_; refine join_ (σ := Nat) 1 (bs 8 127) (fun s_ => [(55, .int .i64 t160), (18, .pointer (some ⟨s_, 0, none⟩)), (58, .agg #[.string t142, .int .i64 t160, .string t148, .string t154, .string t155, .int .i64 t156, .int .i64 t157, .string ⟨#[]⟩])]) (fun s_ w' => (w'.cell? ⟨g159, 0, none⟩ = some (.string t154) ∧ w'.cell? ⟨g159, 1, none⟩ = some (.string t155) ∧ w'.cell? ⟨g159, 2, none⟩ = some (.int .i64 t156) ∧ w'.cell? ⟨g159, 3, none⟩ = some (.int .i64 t157)) ∧ (w'.heap[g141]? = some (.cells #[.string ⟨#[]⟩, .int .i64 0, .string ⟨#[]⟩, .string ⟨#[]⟩, .string ⟨#[]⟩, .int .i64 0, .int .i64 0, .string ⟨#[]⟩] 37 (0, 0))) ∧ (w'.heap[g159]? = some (.cells #[.string t154, .string t155, .int .i64 t156, .int .i64 t157] 24 (0, 0))) ∧ (w'.heap[s_]? = some (.cells #[.string ⟨#[]⟩, .int .i64 0, .string ⟨#[]⟩, .string ⟨#[]⟩, .string ⟨#[]⟩, .int .i64 0, .int .i64 0, .string ⟨#[]⟩] 37 (0, 0))) ∧ (w.heap.size ≤ s_) ∧ (w.heap.size ≤ s_) ∧ (g141 ≠ s_) ∧ (s_ ≠ g141) ∧ (g159 ≠ s_) ∧ (s_ ≠ g159) ∧ (Below w.heap.size w w')) ?_ ?_; rotate_left
 ·intro hCont; refine two_ (i := 2) (j := 6) (Ni := some 55) (Nj := some 18) (bs 8 31) (bs 8 91) rfl rfl rfl rfl (two_of HT_.out (by kernel_rfl)) (by decide) (by decide) (fun K hK => ?_) (fun K hK => ?_)
  ·skip
   refine goes_ func78 (by kernel_rfl) rfl #[.string t145] (by rfl) rfl rfl z5_ ?_
   with_reducible refine (qbt_.calls k t145 t160 _ A7.out).mono ?_
   rintro e w' ⟨rfl, ⟨nd, rfl⟩⟩; refine ⟨_, rfl, ?_⟩; refine hK.out _ _ (bc4o K159.out) (fun qal_ => ?_); clear hK K; refine norm_ (a' := ?_) ?_ ?_; rotate_left
   ·show Act.put _ (some 55) _ = _
    simp only [Act.put, List.setIfInBounds_toArray, List.set_cons_zero, List.set_cons_succ, i64_w, i32_w]; rfl
   refine pun_ 5 58 8 63 ?_; refine on_ 6 18 8 127 (fun K hK => ?_); refine box_step ?hg (N := 18) ?hd (cs := #[.string ⟨#[]⟩, .int .i64 0, .string ⟨#[]⟩, .string ⟨#[]⟩, .string ⟨#[]⟩, .int .i64 0, .int .i64 0, .string ⟨#[]⟩]) (t := 37) ?hr ?_; (case hd => rfl); (case hg => rfl); (case hr => first | (go_simp; done) | (go_simp; rfl))
   intro g161 hg w16 hbox hb; have K161 := qa_.mk (hbox); have W161 := qa_.mk ((by rw [hg]; exact (qn_ (hs_)) : w.heap.size ≤ g161)); have E161 := qa_.mk ((by rw [hg]; exact (qn_ (hs_)) : w.heap.size ≤ g161)); replace HB := qa_.mk (qc_ (hs_) hb); have N141_161 := qa_.mk (nl2_ hg K141.out); have N161_141 := qa_.mk (ng2_ hg K141.out); replace K141 := ab_ K141 hb; have N159_161 := qa_.mk (nl2_ hg K159.out); have N161_159 := qa_.mk (ng2_ hg K159.out); replace K159 := ab_ K159 hb; clear hb hbox hg; refine hK.out _ _ (bc4o K159.out) (fun qal_ => ?_); clear hK K; refine norm_ (a' := ?_) ?_ ?_; rotate_left
   ·show Act.put _ (some 18) _ = _
    simp only [Act.put, List.setIfInBounds_toArray, List.set_cons_zero, List.set_cons_succ, i64_w, i32_w]; rfl
   exact norm_ (by simp only [putAll, Act.put, List.setIfInBounds_toArray, List.set_cons_zero, List.set_cons_succ]) (hCont (g161) _ ⟨qal_, (bk_ K141.out), (bk_ K159.out), (bk_ K161.out), W161.out, E161.out, N141_161.out, N161_141.out, N159_161.out, N161_159.out, (hs_)⟩)
  ·skip
   refine box_step ?hg (N := 18) ?hd (cs := #[.string ⟨#[]⟩, .int .i64 0, .string ⟨#[]⟩, .string ⟨#[]⟩, .string ⟨#[]⟩, .int .i64 0, .int .i64 0, .string ⟨#[]⟩]) (t := 37) ?hr ?_; (case hd => rfl); (case hg => rfl); (case hr => first | (go_simp; done) | (go_simp; rfl))
   intro g161 hg w16 hbox hb; have K161 := qa_.mk (hbox); have W161 := qa_.mk ((by rw [hg]; exact (qn_ (hs_)) : w.heap.size ≤ g161)); have E161 := qa_.mk ((by rw [hg]; exact (qn_ (hs_)) : w.heap.size ≤ g161)); replace HB := qa_.mk (qc_ (hs_) hb); have N141_161 := qa_.mk (nl2_ hg K141.out); have N161_141 := qa_.mk (ng2_ hg K141.out); replace K141 := ab_ K141 hb; have N159_161 := qa_.mk (nl2_ hg K159.out); have N161_159 := qa_.mk (ng2_ hg K159.out); replace K159 := ab_ K159 hb; clear hb hbox hg; refine hK.out _ _ (bc4o K159.out) (fun qal_ => ?_); clear hK K; refine norm_ (a' := ?_) ?_ ?_; rotate_left
   ·show Act.put _ (some 18) _ = _
    simp only [Act.put, List.setIfInBounds_toArray, List.set_cons_zero, List.set_cons_succ, i64_w, i32_w]; rfl
   refine on_ 2 55 8 95 (fun K hK => ?_); refine goes_ func78 (by kernel_rfl) rfl #[.string t145] (by rfl) rfl rfl z5_ ?_
   with_reducible refine (qbt_.calls k t145 t160 _ A7.out).mono ?_
   rintro e w' ⟨rfl, ⟨nd, rfl⟩⟩; refine ⟨_, rfl, ?_⟩; refine hK.out _ _ (bc4o K159.out) (fun qal_ => ?_); clear hK K; refine norm_ (a' := ?_) ?_ ?_; rotate_left
   ·show Act.put _ (some 55) _ = _
    simp only [Act.put, List.setIfInBounds_toArray, List.set_cons_zero, List.set_cons_succ, i64_w, i32_w]; rfl
   refine pun_ 5 58 8 127 ?_; exact norm_ (by simp only [putAll, Act.put, List.setIfInBounds_toArray, List.set_cons_zero, List.set_cons_succ]) (hCont (g161) _ ⟨qal_, (bk_ K141.out), (bk_ K159.out), (bk_ K161.out), W161.out, E161.out, N141_161.out, N161_141.out, N159_161.out, N161_159.out, (hs_)⟩)
 rintro g161 w17 ⟨hS_, h0_, h1_, h2_, h3_, h4_, h5_, h6_, h7_, h8_, h9_⟩; have n0_ : qa_ (w17.heap[g141]? = some (.cells #[.string ⟨#[]⟩, .int .i64 0, .string ⟨#[]⟩, .string ⟨#[]⟩, .string ⟨#[]⟩, .int .i64 0, .int .i64 0, .string ⟨#[]⟩] 37 (0, 0))) := ⟨h0_⟩; have n1_ : qa_ (w17.heap[g159]? = some (.cells #[.string t154, .string t155, .int .i64 t156, .int .i64 t157] 24 (0, 0))) := ⟨h1_⟩; have n2_ : qa_ (w17.heap[g161]? = some (.cells #[.string ⟨#[]⟩, .int .i64 0, .string ⟨#[]⟩, .string ⟨#[]⟩, .string ⟨#[]⟩, .int .i64 0, .int .i64 0, .string ⟨#[]⟩] 37 (0, 0))) := ⟨h2_⟩; have n3_ : qa_ (w.heap.size ≤ g161) := ⟨h3_⟩; have n4_ : qa_ (w.heap.size ≤ g161) := ⟨h4_⟩; have n5_ : qa_ (g141 ≠ g161) := ⟨h5_⟩; have n6_ : qa_ (g161 ≠ g141) := ⟨h6_⟩; have n7_ : qa_ (g159 ≠ g161) := ⟨h7_⟩; have n8_ : qa_ (g161 ≠ g159) := ⟨h8_⟩; have n9_ : qa_ (Below w.heap.size w w17) := ⟨h9_⟩; clear K141; clear K159; clear HB; clear h0_ h1_ h2_ h3_ h4_ h5_ h6_ h7_ h8_ h9_; have K141 := n0_; have K159 := n1_; have K161 := n2_; have W161 := n3_; have E161 := n4_; have N141_161 := n5_; have N161_141 := n6_; have N159_161 := n7_; have N161_159 := n8_; have HB := n9_; clear n0_ n1_ n2_ n3_ n4_ n5_ n6_ n7_ n8_ n9_; have qal_ : w17.cell? ⟨g159, 0, none⟩ = some (.string t154) ∧ w17.cell? ⟨g159, 1, none⟩ = some (.string t155) ∧ w17.cell? ⟨g159, 2, none⟩ = some (.int .i64 t156) ∧ w17.cell? ⟨g159, 3, none⟩ = some (.int .i64 t157) := hS_; refine norm_ (a' := ?_) ?_ ?_; rotate_left
 ·simp only [putAll, Act.put, List.setIfInBounds_toArray, List.set_cons_zero, List.set_cons_succ]; rfl
 refine one_ (i := 7) (N := none) (bs 8 255) rfl rfl (one_of HT_.out (by kernel_rfl)) (by decide) (fun K hK => ?_); have hs18 : w17.cell? ⟨g161, 0, none⟩ = some (.string ⟨#[]⟩) := (qd_ K161.out 0).trans rfl; have hfs18 := ql_ K161.out 0; have hns18_0 := N141_161.out; have hns18_1 := N159_161.out; have hms18_0 := N161_141.out; have hms18_1 := N161_159.out; have hs19 : w17.cell? ⟨g161, 1, none⟩ = some (.int .i64 0) := (qd_ K161.out 1).trans rfl; have hfs19 := ql_ K161.out 1; have hns19_0 := N141_161.out; have hns19_1 := N159_161.out; have hms19_0 := N161_141.out; have hms19_1 := N161_159.out; have hs20 : w17.cell? ⟨g161, 2, none⟩ = some (.string ⟨#[]⟩) := (qd_ K161.out 2).trans rfl; have hfs20 := ql_ K161.out 2; have hns20_0 := N141_161.out; have hns20_1 := N159_161.out; have hms20_0 := N161_141.out; have hms20_1 := N161_159.out; have hs21 : w17.cell? ⟨g161, 3, none⟩ = some (.string ⟨#[]⟩) := (qd_ K161.out 3).trans rfl; have hfs21 := ql_ K161.out 3; have hns21_0 := N141_161.out; have hns21_1 := N159_161.out; have hms21_0 := N161_141.out; have hms21_1 := N161_159.out; have hs22 : w17.cell? ⟨g161, 4, none⟩ = some (.string ⟨#[]⟩) := (qd_ K161.out 4).trans rfl; have hfs22 := ql_ K161.out 4; have hns22_0 := N141_161.out; have hns22_1 := N159_161.out; have hms22_0 := N161_141.out; have hms22_1 := N161_159.out; have hs23 : w17.cell? ⟨g161, 5, none⟩ = some (.int .i64 0) := (qd_ K161.out 5).trans rfl; have hfs23 := ql_ K161.out 5; have hns23_0 := N141_161.out; have hns23_1 := N159_161.out; have hms23_0 := N161_141.out; have hms23_1 := N161_159.out; have hs24 : w17.cell? ⟨g161, 6, none⟩ = some (.int .i64 0) := (qd_ K161.out 6).trans rfl; have hfs24 := ql_ K161.out 6; have hns24_0 := N141_161.out; have hns24_1 := N159_161.out; have hms24_0 := N161_141.out; have hms24_1 := N161_159.out; have hs25 : w17.cell? ⟨g161, 7, none⟩ = some (.string ⟨#[]⟩) := (qd_ K161.out 7).trans rfl; have hfs25 := ql_ K161.out 7; have hns25_0 := N141_161.out; have hns25_1 := N159_161.out; have hms25_0 := N161_141.out; have hms25_1 := N161_159.out; refine skip_ (w1 := ?_) (by rfl) rfl ?_ ?_; rotate_left
 ·go_simp
  rfl
 refine hK.out _ _ ⟨((qj_ (p := ⟨g161, _, none⟩) N159_161.out _).trans (((qj_ (p := ⟨g161, _, none⟩) N159_161.out _).trans (((qj_ (p := ⟨g161, _, none⟩) N159_161.out _).trans (((qj_ (p := ⟨g161, _, none⟩) N159_161.out _).trans (((qj_ (p := ⟨g161, _, none⟩) N159_161.out _).trans (((qj_ (p := ⟨g161, _, none⟩) N159_161.out _).trans (((qj_ (p := ⟨g161, _, none⟩) N159_161.out _).trans (((qj_ (p := ⟨g161, _, none⟩) N159_161.out _).trans (qal_.1)))))))))))))))), ((qj_ (p := ⟨g161, _, none⟩) N159_161.out _).trans (((qj_ (p := ⟨g161, _, none⟩) N159_161.out _).trans (((qj_ (p := ⟨g161, _, none⟩) N159_161.out _).trans (((qj_ (p := ⟨g161, _, none⟩) N159_161.out _).trans (((qj_ (p := ⟨g161, _, none⟩) N159_161.out _).trans (((qj_ (p := ⟨g161, _, none⟩) N159_161.out _).trans (((qj_ (p := ⟨g161, _, none⟩) N159_161.out _).trans (((qj_ (p := ⟨g161, _, none⟩) N159_161.out _).trans (qal_.2.1)))))))))))))))), ((qj_ (p := ⟨g161, _, none⟩) N159_161.out _).trans (((qj_ (p := ⟨g161, _, none⟩) N159_161.out _).trans (((qj_ (p := ⟨g161, _, none⟩) N159_161.out _).trans (((qj_ (p := ⟨g161, _, none⟩) N159_161.out _).trans (((qj_ (p := ⟨g161, _, none⟩) N159_161.out _).trans (((qj_ (p := ⟨g161, _, none⟩) N159_161.out _).trans (((qj_ (p := ⟨g161, _, none⟩) N159_161.out _).trans (((qj_ (p := ⟨g161, _, none⟩) N159_161.out _).trans (qal_.2.2.1)))))))))))))))), ((qj_ (p := ⟨g161, _, none⟩) N159_161.out _).trans (((qj_ (p := ⟨g161, _, none⟩) N159_161.out _).trans (((qj_ (p := ⟨g161, _, none⟩) N159_161.out _).trans (((qj_ (p := ⟨g161, _, none⟩) N159_161.out _).trans (((qj_ (p := ⟨g161, _, none⟩) N159_161.out _).trans (((qj_ (p := ⟨g161, _, none⟩) N159_161.out _).trans (((qj_ (p := ⟨g161, _, none⟩) N159_161.out _).trans (((qj_ (p := ⟨g161, _, none⟩) N159_161.out _).trans (qal_.2.2.2))))))))))))))))⟩ (fun qal_ => ?_); clear hK K; refine dn_ ?_; go_upto_region 7 with (fail)
 go_cut [94] (fun v94 wc => ∃ (kq : Nat) (x94_7 : Bool), v94 = .bool x94_7 ∧ qa_ (qx_.j0 kq a0 t152 x94_7 t142 t160 t148 t154 t155 t156 t157 ⟨#[]⟩ = some (r1, r2, r3, r4, r5, r6, r7, r8, r9)) ∧ qa_ (kq ≤ k) ∧ qa_ (wc.heap[g141]? = some (.cells #[.string ⟨#[]⟩, .int .i64 0, .string ⟨#[]⟩, .string ⟨#[]⟩, .string ⟨#[]⟩, .int .i64 0, .int .i64 0, .string ⟨#[]⟩] 37 (0, 0))) ∧ qa_ (wc.heap[g159]? = some (.cells #[.string t154, .string t155, .int .i64 t156, .int .i64 t157] 24 (0, 0))) ∧ qa_ (wc.heap[g161]? = some (.cells #[.string t142, .int .i64 t160, .string t148, .string t154, .string t155, .int .i64 t156, .int .i64 t157, .string ⟨#[]⟩] 37 (0, 0))) ∧ qa_ (Below w.heap.size w wc))
 case first =>
  have H := HC8.out; clear HC8; by_cases c26 : t144 = true; rotate_left
  ·replace c26 := Bool.eq_false_iff.mpr c26; subst c26; rw [if_neg nft_] at H; have H' := qa_.mk H; clear H; go_wp2
   go_meet
   case rel => exact ⟨_, (true), z1_, H', ⟨z4_⟩, ⟨by have b_ := K141; have f_ := N141_161; exact zb_⟩, ⟨by have b_ := K159; have f_ := N159_161; exact zb_⟩, ⟨by have b_ := K161; exact zb_⟩, ⟨hs_⟩⟩
  subst c26; rw [if_pos rfl] at H; by_cases c27 : t147 = true; rotate_left
  ·replace c27 := Bool.eq_false_iff.mpr c27; subst c27; rw [if_neg nft_] at H; have H' := qa_.mk H; clear H; go_wp2
   go_meet
   case rel => exact ⟨_, (true), z1_, H', ⟨z4_⟩, ⟨by have b_ := K141; have f_ := N141_161; exact zb_⟩, ⟨by have b_ := K159; have f_ := N159_161; exact zb_⟩, ⟨by have b_ := K161; exact zb_⟩, ⟨hs_⟩⟩
  subst c27; rw [if_pos rfl] at H; by_cases c28 : t150 = true; rotate_left
  ·replace c28 := Bool.eq_false_iff.mpr c28; subst c28; rw [if_neg nft_] at H; have H' := qa_.mk H; clear H; go_wp2
   go_meet
   case rel => exact ⟨_, (true), z1_, H', ⟨z4_⟩, ⟨by have b_ := K141; have f_ := N141_161; exact zb_⟩, ⟨by have b_ := K159; have f_ := N159_161; exact zb_⟩, ⟨by have b_ := K161; exact zb_⟩, ⟨hs_⟩⟩
  subst c28; rw [if_pos rfl] at H; by_cases c29 : t158 = 0
  ·rw [if_pos c29] at H; have c29b0 := et_ c29; have c29b1 := nf_ c29; clear c29; (first | rw [c29b0] | (simp only [i64_w, i32_w]; rw [c29b0]) | skip); have H' := qa_.mk H; clear H; go_wp2
   go_meet
   case rel => exact ⟨_, (true), z1_, H', ⟨z4_⟩, ⟨by have b_ := K141; have f_ := N141_161; exact zb_⟩, ⟨by have b_ := K159; have f_ := N159_161; exact zb_⟩, ⟨by have b_ := K161; exact zb_⟩, ⟨hs_⟩⟩
  rw [if_neg c29] at H; have c29b0 := ef_ c29; have c29b1 := nt_ c29; (first | rw [c29b0] | (simp only [i64_w, i32_w]; rw [c29b0]) | skip); obtain ⟨t162, A30, H⟩ := bx_ H; by_cases c31 : t162 = true; rotate_left
  ·replace c31 := Bool.eq_false_iff.mpr c31; subst c31; rw [if_neg nft_] at H; have H' := qa_.mk H; clear H; go_wp2_with (first | (go_at_call 61; (with_reducible refine (qw_.calls k t142 false _ A30.out).mono ?_); rintro e w' ⟨rfl, ⟨nd, rfl⟩⟩)); go_meet
   case rel => exact ⟨_, (true), z1_, H', ⟨z4_⟩, ⟨by have b_ := K141; have f_ := N141_161; exact zb_⟩, ⟨by have b_ := K159; have f_ := N159_161; exact zb_⟩, ⟨by have b_ := K161; exact zb_⟩, ⟨hs_⟩⟩
  subst c31; rw [if_pos rfl] at H; by_cases c32 : t160 = 0
  ·rw [if_pos c32] at H; have c32b0 := et_ c32; have c32b1 := nf_ c32; clear c32; have H' := qa_.mk H; clear H; go_wp2_with (first | (go_at_call 61; (with_reducible refine (qw_.calls k t142 true _ A30.out).mono ?_); rintro e w' ⟨rfl, ⟨nd, rfl⟩⟩; have hnb33 := N161_141.out; have hnc33 := N141_161.out; have hnb34 := N161_159.out; have hnc34 := N159_161.out; obtain ⟨Z35_0, Z35_1, Z35_2, Z35_3, Z35_4, Z35_5, Z35_6, Z35_7, F35⟩ := bc8 K161.out)); go_meet
   case rel => exact ⟨_, (true), z1_, H', ⟨z4_⟩, ⟨by have b_ := K141; have f_ := N141_161; exact zb_⟩, ⟨by have b_ := K159; have f_ := N159_161; exact zb_⟩, ⟨by have b_ := K161; exact zb_⟩, ⟨hs_⟩⟩
  rw [if_neg c32] at H; have c32b0 := ef_ c32; have c32b1 := nt_ c32; by_cases c36 : t152 ≥ (a0.size : Int)
  ·rw [if_pos c36] at H; have c36b0 := dt_ c36; clear c36; have H' := qa_.mk H; clear H; go_wp2_with (first | (go_at_call 61; (with_reducible refine (qw_.calls k t142 true _ A30.out).mono ?_); rintro e w' ⟨rfl, ⟨nd, rfl⟩⟩; have hnb37 := N161_141.out; have hnc37 := N141_161.out; have hnb38 := N161_159.out; have hnc38 := N159_161.out; obtain ⟨Z39_0, Z39_1, Z39_2, Z39_3, Z39_4, Z39_5, Z39_6, Z39_7, F39⟩ := bc8 K161.out)); go_meet
   case rel => exact ⟨_, (true), z1_, H', ⟨z4_⟩, ⟨by have b_ := K141; have f_ := N141_161; exact zb_⟩, ⟨by have b_ := K159; have f_ := N159_161; exact zb_⟩, ⟨by have b_ := K161; exact zb_⟩, ⟨hs_⟩⟩
  rw [if_neg c36] at H; have c36b0 := df_ c36; clear c36; by_cases c40 : 0 ≤ t152; rotate_left
  ·rw [if_neg c40] at H; exact no_ H
  rw [if_pos c40] at H; have c40b0 := dt_ c40; clear c40; by_cases c41 : t152 < (a0.size : Int); rotate_left
  ·rw [if_neg c41] at H; exact no_ H
  rw [if_pos c41] at H; have c41b0 := dt_ c41; clear c41; have H' := qa_.mk H; clear H; go_wp2_with (first | (go_at_call 61; (with_reducible refine (qw_.calls k t142 true _ A30.out).mono ?_); rintro e w' ⟨rfl, ⟨nd, rfl⟩⟩; have hnb43 := N161_141.out; have hnc43 := N141_161.out; have hnb44 := N161_159.out; have hnc44 := N159_161.out; obtain ⟨Z45_0, Z45_1, Z45_2, Z45_3, Z45_4, Z45_5, Z45_6, Z45_7, F45⟩ := bc8 K161.out; have p42 : 0 ≤ (t152 : Int) := y0_; have q42 : t152 < (a0.size : Int) := y0_; have hx42 := bt_at a0 t152; replace p42 := eq_true p42; replace q42 := eq_true q42)); go_meet
  case rel => exact ⟨_, (((bt a0 t152) != 10)), z1_, H', ⟨z4_⟩, ⟨by have b_ := K141; have f_ := N141_161; exact zb_⟩, ⟨by have b_ := K159; have f_ := N159_161; exact zb_⟩, ⟨by have b_ := K161; exact zb_⟩, ⟨hs_⟩⟩
 case rest =>
  clear HC8; try clear c1
  try clear c2
  try clear p2
  try clear c3
  try clear c4
  try clear p4
  try clear q4
  try clear hx4
  try clear c7
  try clear c12
  try clear c24
  try clear c26
  try clear c27
  try clear c28
  try clear c29
  try clear c29b0
  try clear c29b1
  try clear c31
  try clear c32
  try clear c32b0
  try clear c32b1
  try clear c33
  try clear c34
  try clear c36
  try clear c36b0
  try clear c37
  try clear c38
  try clear c40
  try clear c40b0
  try clear c41
  try clear c41b0
  try clear p42
  try clear q42
  try clear hx42
  try clear c43
  try clear c44
  try clear Z13_0 Z13_1 Z13_2 Z13_3
  try clear Z35_0 Z35_1 Z35_2 Z35_3 Z35_4 Z35_5 Z35_6 Z35_7
  try clear Z39_0 Z39_1 Z39_2 Z39_3 Z39_4 Z39_5 Z39_6 Z39_7
  try clear Z45_0 Z45_1 Z45_2 Z45_3 Z45_4 Z45_5 Z45_6 Z45_7
  try clear F13
  try clear F35
  try clear F39
  try clear F45
  try clear p42
  try clear q42
  obtain ⟨kq, x94_7, rfl, HA, HJ7, K141, K159, K161, HB⟩ := hcut
  cases kq with
  | zero => exact absurd HA.out (by simp [qx_.j0])
  | succ kj7 =>
   have H := HA.out; clear HA; simp only [qx_.j0] at H; by_cases c46 : x94_7 = true
   ·subst c46; rw [if_pos rfl] at H; obtain ⟨rfl, rfl, rfl, rfl, rfl, rfl, rfl, rfl, rfl⟩ := pj9_ H; have hnb47 := N141_159.out; have hnc47 := N159_141.out; have hnb48 := N141_161.out; have hnc48 := N161_141.out; obtain ⟨Z49_0, Z49_1, Z49_2, Z49_3, Z49_4, Z49_5, Z49_6, Z49_7, F49⟩ := bc8 K141.out; go_wp2
    refine bodyPost_ret (qby_ rfl _ _ g141 37 #[.string ⟨#[]⟩, .int .i64 0, .string ⟨#[]⟩, .string ⟨#[]⟩, .string ⟨#[]⟩, .int .i64 0, .int .i64 0, .string ⟨#[]⟩] (0, 0) _ rfl (by have b_ := K141; exact zb_) underlying37 rfl (by kernel_rfl)) rfl ?_; exact ⟨z3_, hs_⟩
   replace c46 := Bool.eq_false_iff.mpr c46; subst c46; rw [if_neg nft_] at H; obtain ⟨ji50, hji50⟩ : ∃ j_ : Int, (wrap64 (t152 + 1)) = j_ := ⟨_, rfl⟩; replace H : (if 0 ≤ (ji50) then (if (ji50) ≤ (a0.size : Int) then ((qp_.f kj7 t142 t160 t148 t154 t155 t156 t157 (a0.extract ((ji50) : Int).toNat a0.size)).bind fun t163 => (if t163 = 0 then (some (t142, t160, t148, t154, t155, t156, t157, a0.extract ((ji50) : Int).toNat a0.size, 0)) else (some ((⟨#[]⟩ : ByteArray), 0, (⟨#[]⟩ : ByteArray), (⟨#[]⟩ : ByteArray), (⟨#[]⟩ : ByteArray), 0, 0, (⟨#[]⟩ : ByteArray), t163)))) else (none)) else (none)) = some (r1, r2, r3, r4, r5, r6, r7, r8, r9) := by first | (rw [hji50] at H; exact H) | (simp only [hji50] at H ⊢; exact H)
   have hji50w : (IntKind.i64.wrap (t152 + 1)) = ji50 := (i64_w _).trans hji50; by_cases c51 : 0 ≤ (ji50); rotate_left
   ·rw [if_neg c51] at H; exact no_ H
   rw [if_pos c51] at H; have c51b0 := eq_true c51; have c51b1 := dt_ c51; clear c51; by_cases c52 : (ji50) ≤ (a0.size : Int); rotate_left
   ·rw [if_neg c52] at H; exact no_ H
   rw [if_pos c52] at H; have c52b0 := eq_true c52; have c52b1 := dt_ c52; clear c52; obtain ⟨t163, A53, H⟩ := bx_ H; by_cases c54 : t163 = 0; rotate_left
   ·rw [if_neg c54] at H; have c54b0 := ef_ c54; have c54b1 := nt_ c54; obtain ⟨rfl, rfl, rfl, rfl, rfl, rfl, rfl, rfl, rfl⟩ := pj9_ H; have hnb62 := N161_141.out; have hnc62 := N141_161.out; have hnb63 := N161_159.out; have hnc63 := N159_161.out; obtain ⟨Z64_0, Z64_1, Z64_2, Z64_3, Z64_4, Z64_5, Z64_6, Z64_7, F64⟩ := bc8 K161.out; go_wp2_with (first | ((with_reducible refine qb_ (f := 28) rfl ?_); refine goesL_ (some 102) rfl rfl func28 (by kernel_rfl) rfl #[.agg #[.string t142, .int .i64 t160, .string t148, .string t154, .string t155, .int .i64 t156, .int .i64 t157, .string (a0.extract ((ji50) : Int).toNat a0.size)]] rfl (by (try simp only [List.map_toArray, List.map_cons, List.map_nil]); first | done | (simp only [hji50]; rfl) | rfl | (simp only [List.length_drop, List.length_take]; rfl)) ?_; refine cm_ (qp_.calls kj7 t142 t160 t148 t154 t155 t156 t157 (a0.extract ((ji50) : Int).toNat a0.size) t163 _ A53.out) fun w65 hb => ?_; replace K141 := qa_.mk (qab_ (g := g141) (o := .cells #[.string ⟨#[]⟩, .int .i64 0, .string ⟨#[]⟩, .string ⟨#[]⟩, .string ⟨#[]⟩, .int .i64 0, .int .i64 0, .string ⟨#[]⟩] 37 (0, 0)) (by have b_ := K141; have f_ := N141_161; exact zb_) hb); replace K159 := qa_.mk (qab_ (g := g159) (o := .cells #[.string t154, .string t155, .int .i64 t156, .int .i64 t157] 24 (0, 0)) (by have b_ := K159; have f_ := N159_161; exact zb_) hb); replace K161 := qa_.mk (qab_ (g := g161) (o := .cells #[.string t142, .int .i64 t160, .string t148, .string t154, .string t155, .int .i64 t156, .int .i64 t157, .string (a0.extract ((ji50) : Int).toNat a0.size)] 37 (0, 0)) (by have b_ := K161; exact zb_) hb); replace HB := qa_.mk (qc_ (hs_) hb); (try clear hb); (try clear hb2); (try clear hk); (try clear hi); have hnb66 := N141_159.out; have hnc66 := N159_141.out; obtain ⟨Z67_0, Z67_1, Z67_2, Z67_3, Z67_4, Z67_5, Z67_6, Z67_7, F67⟩ := bc8 K141.out)); refine bodyPost_ret (qby_ rfl _ _ g141 37 #[.string ⟨#[]⟩, .int .i64 0, .string ⟨#[]⟩, .string ⟨#[]⟩, .string ⟨#[]⟩, .int .i64 0, .int .i64 0, .string ⟨#[]⟩] (0, 0) _ rfl (by have b_ := K141; exact zb_) underlying37 rfl (by kernel_rfl)) rfl ?_; exact ⟨by first | rfl | (simp [qbi_, qbj_] <;> rfl) | (simp only [← hji50]; first | rfl | (simp [qbi_, qbj_] <;> rfl)) | (simp [*, qbi_, qbj_] <;> rfl) | (simp [qbq_]; done) | (simp [*, qbq_]; done), hs_⟩
   rw [if_pos c54] at H; have c54b0 := et_ c54; have c54b1 := nf_ c54; clear c54; obtain ⟨rfl, rfl, rfl, rfl, rfl, rfl, rfl, rfl, rfl⟩ := pj9_ H; have hnb55 := N161_141.out; have hnc55 := N141_161.out; have hnb56 := N161_159.out; have hnc56 := N159_161.out; obtain ⟨Z57_0, Z57_1, Z57_2, Z57_3, Z57_4, Z57_5, Z57_6, Z57_7, F57⟩ := bc8 K161.out; go_wp2_with (first | ((with_reducible refine qb_ (f := 28) rfl ?_); refine goesL_ (some 102) rfl rfl func28 (by kernel_rfl) rfl #[.agg #[.string t142, .int .i64 t160, .string t148, .string t154, .string t155, .int .i64 t156, .int .i64 t157, .string (a0.extract ((ji50) : Int).toNat a0.size)]] rfl (by (try simp only [List.map_toArray, List.map_cons, List.map_nil]); first | done | (simp only [hji50]; rfl) | rfl | (simp only [List.length_drop, List.length_take]; rfl)) ?_; refine cm_ (qp_.calls kj7 t142 t160 t148 t154 t155 t156 t157 (a0.extract ((ji50) : Int).toNat a0.size) t163 _ A53.out) fun w58 hb => ?_; replace K141 := qa_.mk (qab_ (g := g141) (o := .cells #[.string ⟨#[]⟩, .int .i64 0, .string ⟨#[]⟩, .string ⟨#[]⟩, .string ⟨#[]⟩, .int .i64 0, .int .i64 0, .string ⟨#[]⟩] 37 (0, 0)) (by have b_ := K141; have f_ := N141_161; exact zb_) hb); replace K159 := qa_.mk (qab_ (g := g159) (o := .cells #[.string t154, .string t155, .int .i64 t156, .int .i64 t157] 24 (0, 0)) (by have b_ := K159; have f_ := N159_161; exact zb_) hb); replace K161 := qa_.mk (qab_ (g := g161) (o := .cells #[.string t142, .int .i64 t160, .string t148, .string t154, .string t155, .int .i64 t156, .int .i64 t157, .string (a0.extract ((ji50) : Int).toNat a0.size)] 37 (0, 0)) (by have b_ := K161; exact zb_) hb); replace HB := qa_.mk (qc_ (hs_) hb); (try clear hb); (try clear hb2); (try clear hk); (try clear hi); obtain ⟨Z59_0, Z59_1, Z59_2, Z59_3, Z59_4, Z59_5, Z59_6, Z59_7, F59⟩ := bc8 K161.out; have hnb60 := N141_159.out; have hnc60 := N159_141.out; obtain ⟨Z61_0, Z61_1, Z61_2, Z61_3, Z61_4, Z61_5, Z61_6, Z61_7, F61⟩ := bc8 K141.out)); refine bodyPost_ret (qby_ rfl _ _ g141 37 #[.string t142, .int .i64 t160, .string t148, .string t154, .string t155, .int .i64 t156, .int .i64 t157, .string (a0.extract ((ji50) : Int).toNat a0.size)] (0, 0) _ rfl (by have b_ := K141; exact zb_) underlying37 rfl (by kernel_rfl)) rfl ?_; exact ⟨by first | rfl | (simp [qbi_, qbj_] <;> rfl) | (simp only [← hji50]; first | rfl | (simp [qbi_, qbj_] <;> rfl)) | (simp [*, qbi_, qbj_] <;> rfl) | (simp [qbq_]; done) | (simp [*, qbq_]; done), hs_⟩
variable {P : Program} {ops : Array Oper} {Q : Exit → Act → World → Prop}
theorem goesF_ {rest : List Oper} {oi : Oper} {a : Act} {w : World} (N : Option Tmp) (hd : oi.dst = N) (hg : oi.guard = none) {t : Tmp} {g : Nat} {lb : Array Value} {os : Array Operand} {ts : Array TypeId}
    (eg : ∀ args w, (callFunc g args).run P w = .ok (.enter g args) w) (args : Array Value)
    (hop : oi.op = .call { callee := .value (.tmp t), args := os, argTypes := ts }) (hf : a.eval (.tmp t) = .func (.func g) #[] lb) (hargs : os.map a.eval = args) (all : Array Value) (hall : args ++ lb = all)
    (h : Calls P g all w fun e w' => ∃ v, e = .returned v ∧ wpList P ops Q rest (a.put N v) w') : wpList P ops Q (oi :: rest) a w := by
  refine wpList_plain hg fun K hK => ?_
  have hrun : (execOp a.eval oi).run P w = .ok (.enter g all) w := by
    unfold execOp
    simp [hop, resolve, Deferred.ofValue, invoke, hf, hargs, eg, hall]
  unfold Oper.wp
  rw [hrun, Oper.upon_enter]
  refine h.mono fun e w'' hh => ?_
  obtain ⟨v, rfl, hk⟩ := hh
  subst hd
  exact hK _ _ hk
theorem goesT_ {oi : Oper} {N : Option Tmp} {a : Act} {w : World} {K : Act → World → Prop} {f : FuncId} {fn : Func} {t : Tmp} {os : Array Operand} {ts : Array TypeId} (hf : P.funcs[f]? = some fn) (hname : (fn.name == "runtime.NumGoroutine") = false) (hb : fn.body.isSome = true) (args : Array Value)
    (hw : Region.wanted oi (yielded ops a.tmps) = true) (hN : oi.dst = N) (hop : oi.op = .call { callee := .value (.tmp t), args := os, argTypes := ts }) (hfv : a.eval (.tmp t) = .func (.func f) #[] #[]) (hargs : os.map a.eval = args)
    (h : Calls P f args w fun e w' => ∃ v, e = .returned v ∧ K (a.put N v) w') : if Region.wanted oi (yielded ops a.tmps) = true then Oper.wp P oi a w K Q else K (a.put N undef) w := by
  refine call_ f args hw hN ?_ h
  have he := qeg_ hf hname hb args w
  unfold execOp
  simp [hop, resolve, Deferred.ofValue, invoke, hfv, hargs, he]
def qcw_.f (a0 : Int) : Option (ByteArray) := (qcg_.f (Int.tmod (wrap64 (Int.tdiv a0 10)) 10)).bind fun t125 => ((qcg_.f (Int.tmod a0 10)).bind fun t126 => (if t125.size + t126.size ≤ 9223372036854775807 then (some (t125 ++ t126)) else (none)))
theorem qcw_.calls (a0 : Int) (r : ByteArray) (w : World) (hgv : GV w) (h : qcw_.f a0 = some r) :
  Calls Tryz.prog 90 #[.int .i64 a0] w fun e w' => e = .returned (.string r) ∧ Below w.heap.size w w' := by
 have HB := qa_.mk (Below.refl w.heap.size w); unfold qcw_.f at h; have H := h; clear h; obtain ⟨t125, A2, H⟩ := bx_ H; obtain ⟨t126, A3, H⟩ := bx_ H; by_cases c4 : t125.size + t126.size ≤ 9223372036854775807; rotate_left
 ·rw [if_neg c4] at H; exact no_ H
 rw [if_pos c4] at H; have c4b0 := eq_true c4; have c4b1 := dt_ c4; try have c4b2 := nl_ c4
 obtain rfl := oi_ H; go_enter func90, ntmps90; have tk7_ : True := trivial; have tk8_ : True := trivial; go_wp2_with (first | (have _t := tk7_; (with_reducible refine qb_ (f := 91) rfl ?_); refine gl_ (some 6) func91 #[.int .i64 (Int.tmod (wrap64 (Int.tdiv a0 10)) 10)] ?_; (with_reducible refine (qcg_.calls (Int.tmod (wrap64 (Int.tdiv a0 10)) 10) t125 _ ?side1 A2.out).mono ?_); (case side1 => exact GV.below hgv (hb_ HB.out)); rintro e w5 ⟨rfl, hb⟩; refine ⟨_, rfl, ?_⟩; replace HB := ah_ HB hb; (try clear hb); (try clear hb2); (try clear hk); (try clear hi); clear tk7_) | (have _t := tk8_; (with_reducible refine qb_ (f := 91) rfl ?_); refine gl_ (some 9) func91 #[.int .i64 (Int.tmod a0 10)] ?_; (with_reducible refine (qcg_.calls (Int.tmod a0 10) t126 _ ?side1 A3.out).mono ?_); (case side1 => exact GV.below hgv (hb_ HB.out)); rintro e w6 ⟨rfl, hb⟩; refine ⟨_, rfl, ?_⟩; replace HB := ah_ HB hb; (try clear hb); (try clear hb2); (try clear hk); (try clear hi); clear tk8_)); go_ret
 exact ⟨z3_, hb_ HB.out⟩
def qcf_.f (a0_0 : ByteArray) (a0_1 : ByteArray) (a0_2 : Int) (a0_3 : Int) : Option (ByteArray) := if a0_3 < 0 then (if a0_0.size + 2 ≤ 9223372036854775807 then (if (a0_0 ++ (⟨#[32, 60]⟩ : ByteArray)).size + a0_1.size ≤ 9223372036854775807 then (if ((a0_0 ++ (⟨#[32, 60]⟩ : ByteArray)) ++ a0_1).size + 2 ≤ 9223372036854775807 then ((qcg_.f a0_2).bind fun t102 => (if (((a0_0 ++ (⟨#[32, 60]⟩ : ByteArray)) ++ a0_1) ++ (⟨#[62, 32]⟩ : ByteArray)).size + t102.size ≤ 9223372036854775807 then (if ((((a0_0 ++ (⟨#[32, 60]⟩ : ByteArray)) ++ a0_1) ++ (⟨#[62, 32]⟩ : ByteArray)) ++ t102).size + 1 ≤ 9223372036854775807 then (if (((((a0_0 ++ (⟨#[32, 60]⟩ : ByteArray)) ++ a0_1) ++ (⟨#[62, 32]⟩ : ByteArray)) ++ t102) ++ (⟨#[32]⟩ : ByteArray)).size + 1 ≤ 9223372036854775807 then ((qcw_.f (wrap64 (Int.tdiv (wrap64 (-a0_3)) 60))).bind fun t103 => (if ((((((a0_0 ++ (⟨#[32, 60]⟩ : ByteArray)) ++ a0_1) ++ (⟨#[62, 32]⟩ : ByteArray)) ++ t102) ++ (⟨#[32]⟩ : ByteArray)) ++ (⟨#[45]⟩ : ByteArray)).size + t103.size ≤ 9223372036854775807 then ((qcw_.f (Int.tmod (wrap64 (-a0_3)) 60)).bind fun t104 => (if (((((((a0_0 ++ (⟨#[32, 60]⟩ : ByteArray)) ++ a0_1) ++ (⟨#[62, 32]⟩ : ByteArray)) ++ t102) ++ (⟨#[32]⟩ : ByteArray)) ++ (⟨#[45]⟩ : ByteArray)) ++ t103).size + t104.size ≤ 9223372036854775807 then (some ((((((((a0_0 ++ (⟨#[32, 60]⟩ : ByteArray)) ++ a0_1) ++ (⟨#[62, 32]⟩ : ByteArray)) ++ t102) ++ (⟨#[32]⟩ : ByteArray)) ++ (⟨#[45]⟩ : ByteArray)) ++ t103) ++ t104)) else (none))) else (none))) else (none)) else (none)) else (none))) else (none)) else (none)) else (none)) else (if a0_0.size + 2 ≤ 9223372036854775807 then (if (a0_0 ++ (⟨#[32, 60]⟩ : ByteArray)).size + a0_1.size ≤ 9223372036854775807 then (if ((a0_0 ++ (⟨#[32, 60]⟩ : ByteArray)) ++ a0_1).size + 2 ≤ 9223372036854775807 then ((qcg_.f a0_2).bind fun t105 => (if (((a0_0 ++ (⟨#[32, 60]⟩ : ByteArray)) ++ a0_1) ++ (⟨#[62, 32]⟩ : ByteArray)).size + t105.size ≤ 9223372036854775807 then (if ((((a0_0 ++ (⟨#[32, 60]⟩ : ByteArray)) ++ a0_1) ++ (⟨#[62, 32]⟩ : ByteArray)) ++ t105).size + 1 ≤ 9223372036854775807 then (if (((((a0_0 ++ (⟨#[32, 60]⟩ : ByteArray)) ++ a0_1) ++ (⟨#[62, 32]⟩ : ByteArray)) ++ t105) ++ (⟨#[32]⟩ : ByteArray)).size + 1 ≤ 9223372036854775807 then ((qcw_.f (wrap64 (Int.tdiv a0_3 60))).bind fun t106 => (if ((((((a0_0 ++ (⟨#[32, 60]⟩ : ByteArray)) ++ a0_1) ++ (⟨#[62, 32]⟩ : ByteArray)) ++ t105) ++ (⟨#[32]⟩ : ByteArray)) ++ (⟨#[43]⟩ : ByteArray)).size + t106.size ≤ 9223372036854775807 then ((qcw_.f (Int.tmod a0_3 60)).bind fun t107 => (if (((((((a0_0 ++ (⟨#[32, 60]⟩ : ByteArray)) ++ a0_1) ++ (⟨#[62, 32]⟩ : ByteArray)) ++ t105) ++ (⟨#[32]⟩ : ByteArray)) ++ (⟨#[43]⟩ : ByteArray)) ++ t106).size + t107.size ≤ 9223372036854775807 then (some ((((((((a0_0 ++ (⟨#[32, 60]⟩ : ByteArray)) ++ a0_1) ++ (⟨#[62, 32]⟩ : ByteArray)) ++ t105) ++ (⟨#[32]⟩ : ByteArray)) ++ (⟨#[43]⟩ : ByteArray)) ++ t106) ++ t107)) else (none))) else (none))) else (none)) else (none)) else (none))) else (none)) else (none)) else (none))
def qcf_.T5 : Bool × List (List Nat × List Nat) := (true, [([], []), ([0], [0]), ([1], [1]), ([], []), ([3], [3]), ([2, 4], [2, 4]), ([5], [5]), ([], []), ([7], [7]), ([8], [8]), ([6, 9], [6, 9]), ([10], [10]), ([], []), ([11, 12], [11, 12]), ([], []), ([], []), ([15], [15]), ([14, 16, 9], [14, 16]), ([13, 17], [13, 17]), ([], []), ([], []), ([20], [20]), ([19, 21, 17], [19, 21]), ([18, 22], [18, 22]), ([23, 22, 0, 1, 2, 3, 4, 5, 6, 7, 8, 9, 10, 11, 12, 13, 14, 15, 16, 17, 18, 19, 20, 21, 22, 23], [23])])
def qcf_.B5 : List Nat := [0, 1, 3, 0, 8, 31, 63, 0, 128, 384, 1023, 2047, 0, 8191, 0, 0, 32768, 115584, 262143, 0, 0, 1048576, 3916672, 8388607, 16777215]
theorem qcf_.tab5 : rtab .any (opsOf Tryz.f31 5) = qcf_.T5 := by kernel_rfl
theorem qcf_.bits5 : qdi_ qcf_.T5.2 qcf_.B5 = true := by kernel_rfl
theorem qcf_.calls (a0_0 : ByteArray) (a0_1 : ByteArray) (a0_2 : Int) (a0_3 : Int) (r : ByteArray) (w : World) (hgv : GV w) (h : qcf_.f a0_0 a0_1 a0_2 a0_3 = some r) :
  Calls Tryz.prog 31 #[.agg #[.string a0_0, .string a0_1, .int .i64 a0_2, .int .i64 a0_3]] w fun e w' => e = .returned (.string r) ∧ Below w.heap.size w w' := by
 have hu24 := underlying24; have HB := qa_.mk (Below.refl w.heap.size w); unfold qcf_.f at h; have H := h; clear h; by_cases c2 : a0_3 < 0
 ·rw [if_pos c2] at H; have c2b0 := dt_ c2; clear c2; by_cases c3 : a0_0.size + 2 ≤ 9223372036854775807; rotate_left
  ·rw [if_neg c3] at H; exact no_ H
  rw [if_pos c3] at H; have c3b0 := eq_true c3; have c3b1 := dt_ c3; try have c3b2 := nl_ c3
  by_cases c4 : (a0_0 ++ (⟨#[32, 60]⟩ : ByteArray)).size + a0_1.size ≤ 9223372036854775807; rotate_left
  ·rw [if_neg c4] at H; exact no_ H
  rw [if_pos c4] at H; have c4b0 := eq_true c4; have c4b1 := dt_ c4; try have c4b3 : (9223372036854775807 < a0_0.size + 2 + a0_1.size) = False := have h_ := c4; ns_
  try have c4b2 := nl_ c4
  by_cases c5 : ((a0_0 ++ (⟨#[32, 60]⟩ : ByteArray)) ++ a0_1).size + 2 ≤ 9223372036854775807; rotate_left
  ·rw [if_neg c5] at H; exact no_ H
  rw [if_pos c5] at H; have c5b0 := eq_true c5; have c5b1 := dt_ c5; try have c5b3 : (9223372036854775807 < a0_0.size + 2 + a0_1.size + 2) = False := have h_ := c5; ns_
  try have c5b2 := nl_ c5
  obtain ⟨t102, A6, H⟩ := bx_ H; by_cases c7 : (((a0_0 ++ (⟨#[32, 60]⟩ : ByteArray)) ++ a0_1) ++ (⟨#[62, 32]⟩ : ByteArray)).size + t102.size ≤ 9223372036854775807; rotate_left
  ·rw [if_neg c7] at H; exact no_ H
  rw [if_pos c7] at H; have c7b0 := eq_true c7; have c7b1 := dt_ c7; try have c7b3 : (9223372036854775807 < a0_0.size + 2 + a0_1.size + 2 + t102.size) = False := have h_ := c7; ns_
  try have c7b2 := nl_ c7
  by_cases c8 : ((((a0_0 ++ (⟨#[32, 60]⟩ : ByteArray)) ++ a0_1) ++ (⟨#[62, 32]⟩ : ByteArray)) ++ t102).size + 1 ≤ 9223372036854775807; rotate_left
  ·rw [if_neg c8] at H; exact no_ H
  rw [if_pos c8] at H; have c8b0 := eq_true c8; have c8b1 := dt_ c8; try have c8b3 : (9223372036854775807 < a0_0.size + 2 + a0_1.size + 2 + t102.size + 1) = False := have h_ := c8; ns_
  try have c8b2 := nl_ c8
  by_cases c9 : (((((a0_0 ++ (⟨#[32, 60]⟩ : ByteArray)) ++ a0_1) ++ (⟨#[62, 32]⟩ : ByteArray)) ++ t102) ++ (⟨#[32]⟩ : ByteArray)).size + 1 ≤ 9223372036854775807; rotate_left
  ·rw [if_neg c9] at H; exact no_ H
  rw [if_pos c9] at H; have c9b0 := eq_true c9; have c9b1 := dt_ c9; try have c9b3 : (9223372036854775807 < a0_0.size + 2 + a0_1.size + 2 + t102.size + 1 + 1) = False := have h_ := c9; ns_
  try have c9b2 := nl_ c9
  obtain ⟨t103, A10, H⟩ := bx_ H; by_cases c11 : ((((((a0_0 ++ (⟨#[32, 60]⟩ : ByteArray)) ++ a0_1) ++ (⟨#[62, 32]⟩ : ByteArray)) ++ t102) ++ (⟨#[32]⟩ : ByteArray)) ++ (⟨#[45]⟩ : ByteArray)).size + t103.size ≤ 9223372036854775807; rotate_left
  ·rw [if_neg c11] at H; exact no_ H
  rw [if_pos c11] at H; have c11b0 := eq_true c11; have c11b1 := dt_ c11; try have c11b3 : (9223372036854775807 < a0_0.size + 2 + a0_1.size + 2 + t102.size + 1 + 1 + t103.size) = False := have h_ := c11; ns_
  try have c11b2 := nl_ c11
  obtain ⟨t104, A12, H⟩ := bx_ H; by_cases c13 : (((((((a0_0 ++ (⟨#[32, 60]⟩ : ByteArray)) ++ a0_1) ++ (⟨#[62, 32]⟩ : ByteArray)) ++ t102) ++ (⟨#[32]⟩ : ByteArray)) ++ (⟨#[45]⟩ : ByteArray)) ++ t103).size + t104.size ≤ 9223372036854775807; rotate_left
  ·rw [if_neg c13] at H; exact no_ H
  rw [if_pos c13] at H; have c13b0 := eq_true c13; have c13b1 := dt_ c13; try have c13b3 : (9223372036854775807 < a0_0.size + 2 + a0_1.size + 2 + t102.size + 1 + 1 + t103.size + t104.size) = False := have h_ := c13; ns_
  try have c13b2 := nl_ c13
  obtain rfl := oi_ H; go_enter func31, ntmps31; try go_wp2_with (first | ((with_reducible refine qk_ (N := 1) rfl ?_); refine be_ (cs := #[.string a0_0, .string a0_1, .int .i64 a0_2, .int .i64 a0_3]) (t := 24) ?_; intro g101 hg w14 hbox hb; have K101 := qa_.mk (hbox); have W101 := ag_ hg HB; have E101 := ag_ hg HB; replace HB := ah_ HB hb; clear hb hbox hg)); replace K101 := ad_ K101; replace HB := hd_ HB; refine qdl_ (n := 4) (S := fun w' => w'.cell? ⟨g101, 0, none⟩ = some (.string a0_0) ∧ w'.cell? ⟨g101, 1, none⟩ = some (.string a0_1) ∧ w'.cell? ⟨g101, 2, none⟩ = some (.int .i64 a0_2) ∧ w'.cell? ⟨g101, 3, none⟩ = some (.int .i64 a0_3)) (ds := []) (bs 4 0) (by kernel_rfl) rfl rfl (bc4o K101.out) (fun qal_ => ?_); generalize w14.drew = w15 at K101 HB qal_ ⊢; refine pkn_ 0 6 4 1 ?_; refine pkn_ 2 3 4 5 ?_; refine tkK4n_ 1 7 4 7 qal_ ?_; refine pkn_ 3 4 4 15 ?_; refine done_ (by kernel_rfl) ?_; try go_wp2
  replace K101 := ad_ K101; replace HB := hd_ HB; refine qdl_ (n := 25) (S := fun w' => w'.cell? ⟨g101, 0, none⟩ = some (.string a0_0) ∧ w'.cell? ⟨g101, 1, none⟩ = some (.string a0_1) ∧ w'.cell? ⟨g101, 2, none⟩ = some (.int .i64 a0_2) ∧ w'.cell? ⟨g101, 3, none⟩ = some (.int .i64 a0_3)) (ds := []) (bs 25 0) (by kernel_rfl) rfl rfl (bc4o K101.out) (fun qal_ => ?_); refine qds_ qcf_.tab5 qcf_.bits5 (fun HT_ HW_ => ?_); generalize w15.drew = w16 at K101 HB qal_ ⊢; refine pun_ 0 12 25 1 ?_; refine pun_ 3 15 25 9 ?_; refine pun_ 7 19 25 137 ?_; refine pun_ 12 24 25 4233 ?_; refine pun_ 14 26 25 20617 ?_; refine pun_ 15 27 25 53385 ?_; refine pun_ 16 28 25 118921 ?_; refine pun_ 19 31 25 643209 ?_; refine pun_ 20 32 25 1691785 ?_; refine pun_ 21 33 25 3788937 ?_; refine tkW4n_ 1 13 25 3788939 qal_ ?_; refine pun_ 2 14 25 3788943 ?_; refine tkW4n_ 4 16 25 3788959 qal_ ?_; refine pun_ 5 17 25 3788991 ?_; refine pun_ 6 18 25 3789055 ?_; refine tkW4n_ 8 20 25 3789311 qal_ ?_; refine on_ 9 21 25 3789823 (fun K hK => ?_); refine goes_ func91 (by kernel_rfl) rfl #[.int .i64 a0_2] (by rfl) rfl rfl z5_ ?_
  with_reducible refine (qcg_.calls a0_2 t102 _ ?side1 A6.out).mono ?_
  (case side1 => exact GV.below hgv (hs_))
  rintro e w17 ⟨rfl, hb⟩; refine ⟨_, rfl, ?_⟩; replace K101 := ab_ K101 hb; replace HB := qa_.mk (qc_ (hs_) hb); (try clear hb)
  (try clear hb2)
  (try clear hk)
  (try clear hi)
  refine hK.out _ _ (bc4o K101.out) (fun qal_ => ?_); clear hK K; refine norm_ (a' := ?_) ?_ ?_; rotate_left
  ·show Act.put _ (some 21) _ = _
   simp only [Act.put, List.setIfInBounds_toArray, List.set_cons_zero, List.set_cons_succ, i64_w, i32_w]; rfl
  refine pun_ 10 22 25 3790847 ?_; refine pun_ 11 23 25 3792895 ?_; refine pun_ 13 25 25 3801087 ?_; refine on_ 17 29 25 3932159 (fun K hK => ?_); refine goesT_ func90 (by kernel_rfl) rfl #[.int .i64 (wrap64 (Int.tdiv (wrap64 (-a0_3)) 60))] (by rfl) rfl rfl rfl z8_ ?_
  with_reducible refine (qcw_.calls (wrap64 (Int.tdiv (wrap64 (-a0_3)) 60))  t103 _ ?side1 A10.out).mono ?_
  (case side1 => exact GV.below hgv (hs_))
  rintro e w18 ⟨rfl, hb⟩; refine ⟨_, rfl, ?_⟩; replace K101 := ab_ K101 hb; replace HB := qa_.mk (qc_ (hs_) hb); (try clear hb)
  (try clear hb2)
  (try clear hk)
  (try clear hi)
  refine hK.out _ _ (bc4o K101.out) (fun qal_ => ?_); clear hK K; refine norm_ (a' := ?_) ?_ ?_; rotate_left
  ·show Act.put _ (some 29) _ = _
   simp only [Act.put, List.setIfInBounds_toArray, List.set_cons_zero, List.set_cons_succ, i64_w, i32_w]; rfl
  refine pun_ 18 30 25 4194303 ?_; refine on_ 22 34 25 8388607 (fun K hK => ?_); refine goesT_ func90 (by kernel_rfl) rfl #[.int .i64 (Int.tmod (wrap64 (-a0_3)) 60)] (by rfl) rfl rfl rfl z8_ ?_
  with_reducible refine (qcw_.calls (Int.tmod (wrap64 (-a0_3)) 60)  t104 _ ?side1 A12.out).mono ?_
  (case side1 => exact GV.below hgv (hs_))
  rintro e w19 ⟨rfl, hb⟩; refine ⟨_, rfl, ?_⟩; replace K101 := ab_ K101 hb; replace HB := qa_.mk (qc_ (hs_) hb); (try clear hb)
  (try clear hb2)
  (try clear hk)
  (try clear hi)
  refine hK.out _ _ (bc4o K101.out) (fun qal_ => ?_); clear hK K; refine norm_ (a' := ?_) ?_ ?_; rotate_left
  ·show Act.put _ (some 34) _ = _
   simp only [Act.put, List.setIfInBounds_toArray, List.set_cons_zero, List.set_cons_succ, i64_w, i32_w]; rfl
  refine pun_ 23 35 25 16777215 ?_; refine pun_ 24 2 25 33554431 ?_; refine dn_ ?_; try go_wp2
  go_ret
  exact ⟨z3_, hs_⟩
 rw [if_neg c2] at H; have c2b0 := df_ c2; clear c2; by_cases c20 : a0_0.size + 2 ≤ 9223372036854775807; rotate_left
 ·rw [if_neg c20] at H; exact no_ H
 rw [if_pos c20] at H; have c20b0 := eq_true c20; have c20b1 := dt_ c20; try have c20b2 := nl_ c20
 by_cases c21 : (a0_0 ++ (⟨#[32, 60]⟩ : ByteArray)).size + a0_1.size ≤ 9223372036854775807; rotate_left
 ·rw [if_neg c21] at H; exact no_ H
 rw [if_pos c21] at H; have c21b0 := eq_true c21; have c21b1 := dt_ c21; try have c21b3 : (9223372036854775807 < a0_0.size + 2 + a0_1.size) = False := have h_ := c21; ns_
 try have c21b2 := nl_ c21
 by_cases c22 : ((a0_0 ++ (⟨#[32, 60]⟩ : ByteArray)) ++ a0_1).size + 2 ≤ 9223372036854775807; rotate_left
 ·rw [if_neg c22] at H; exact no_ H
 rw [if_pos c22] at H; have c22b0 := eq_true c22; have c22b1 := dt_ c22; try have c22b3 : (9223372036854775807 < a0_0.size + 2 + a0_1.size + 2) = False := have h_ := c22; ns_
 try have c22b2 := nl_ c22
 obtain ⟨t105, A23, H⟩ := bx_ H; by_cases c24 : (((a0_0 ++ (⟨#[32, 60]⟩ : ByteArray)) ++ a0_1) ++ (⟨#[62, 32]⟩ : ByteArray)).size + t105.size ≤ 9223372036854775807; rotate_left
 ·rw [if_neg c24] at H; exact no_ H
 rw [if_pos c24] at H; have c24b0 := eq_true c24; have c24b1 := dt_ c24; try have c24b3 : (9223372036854775807 < a0_0.size + 2 + a0_1.size + 2 + t105.size) = False := have h_ := c24; ns_
 try have c24b2 := nl_ c24
 by_cases c25 : ((((a0_0 ++ (⟨#[32, 60]⟩ : ByteArray)) ++ a0_1) ++ (⟨#[62, 32]⟩ : ByteArray)) ++ t105).size + 1 ≤ 9223372036854775807; rotate_left
 ·rw [if_neg c25] at H; exact no_ H
 rw [if_pos c25] at H; have c25b0 := eq_true c25; have c25b1 := dt_ c25; try have c25b3 : (9223372036854775807 < a0_0.size + 2 + a0_1.size + 2 + t105.size + 1) = False := have h_ := c25; ns_
 try have c25b2 := nl_ c25
 by_cases c26 : (((((a0_0 ++ (⟨#[32, 60]⟩ : ByteArray)) ++ a0_1) ++ (⟨#[62, 32]⟩ : ByteArray)) ++ t105) ++ (⟨#[32]⟩ : ByteArray)).size + 1 ≤ 9223372036854775807; rotate_left
 ·rw [if_neg c26] at H; exact no_ H
 rw [if_pos c26] at H; have c26b0 := eq_true c26; have c26b1 := dt_ c26; try have c26b3 : (9223372036854775807 < a0_0.size + 2 + a0_1.size + 2 + t105.size + 1 + 1) = False := have h_ := c26; ns_
 try have c26b2 := nl_ c26
 obtain ⟨t106, A27, H⟩ := bx_ H; by_cases c28 : ((((((a0_0 ++ (⟨#[32, 60]⟩ : ByteArray)) ++ a0_1) ++ (⟨#[62, 32]⟩ : ByteArray)) ++ t105) ++ (⟨#[32]⟩ : ByteArray)) ++ (⟨#[43]⟩ : ByteArray)).size + t106.size ≤ 9223372036854775807; rotate_left
 ·rw [if_neg c28] at H; exact no_ H
 rw [if_pos c28] at H; have c28b0 := eq_true c28; have c28b1 := dt_ c28; try have c28b3 : (9223372036854775807 < a0_0.size + 2 + a0_1.size + 2 + t105.size + 1 + 1 + t106.size) = False := have h_ := c28; ns_
 try have c28b2 := nl_ c28
 obtain ⟨t107, A29, H⟩ := bx_ H; by_cases c30 : (((((((a0_0 ++ (⟨#[32, 60]⟩ : ByteArray)) ++ a0_1) ++ (⟨#[62, 32]⟩ : ByteArray)) ++ t105) ++ (⟨#[32]⟩ : ByteArray)) ++ (⟨#[43]⟩ : ByteArray)) ++ t106).size + t107.size ≤ 9223372036854775807; rotate_left
 ·rw [if_neg c30] at H; exact no_ H
 rw [if_pos c30] at H; have c30b0 := eq_true c30; have c30b1 := dt_ c30; try have c30b3 : (9223372036854775807 < a0_0.size + 2 + a0_1.size + 2 + t105.size + 1 + 1 + t106.size + t107.size) = False := have h_ := c30; ns_
 try have c30b2 := nl_ c30
 obtain rfl := oi_ H; go_enter func31, ntmps31; try go_wp2_with (first | ((with_reducible refine qk_ (N := 1) rfl ?_); refine be_ (cs := #[.string a0_0, .string a0_1, .int .i64 a0_2, .int .i64 a0_3]) (t := 24) ?_; intro g101 hg w31 hbox hb; have K101 := qa_.mk (hbox); have W101 := ag_ hg HB; have E101 := ag_ hg HB; replace HB := ah_ HB hb; clear hb hbox hg)); replace K101 := ad_ K101; replace HB := hd_ HB; refine qdl_ (n := 4) (S := fun w' => w'.cell? ⟨g101, 0, none⟩ = some (.string a0_0) ∧ w'.cell? ⟨g101, 1, none⟩ = some (.string a0_1) ∧ w'.cell? ⟨g101, 2, none⟩ = some (.int .i64 a0_2) ∧ w'.cell? ⟨g101, 3, none⟩ = some (.int .i64 a0_3)) (ds := []) (bs 4 0) (by kernel_rfl) rfl rfl (bc4o K101.out) (fun qal_ => ?_); generalize w31.drew = w32 at K101 HB qal_ ⊢; refine pkn_ 0 6 4 1 ?_; refine pkn_ 2 3 4 5 ?_; refine tkK4n_ 1 7 4 7 qal_ ?_; refine pkn_ 3 4 4 15 ?_; refine done_ (by kernel_rfl) ?_; try go_wp2
 replace K101 := ad_ K101; replace HB := hd_ HB; refine qdl_ (n := 25) (S := fun w' => w'.cell? ⟨g101, 0, none⟩ = some (.string a0_0) ∧ w'.cell? ⟨g101, 1, none⟩ = some (.string a0_1) ∧ w'.cell? ⟨g101, 2, none⟩ = some (.int .i64 a0_2) ∧ w'.cell? ⟨g101, 3, none⟩ = some (.int .i64 a0_3)) (ds := []) (bs 25 0) (by kernel_rfl) rfl rfl (bc4o K101.out) (fun qal_ => ?_); refine qds_ qcf_.tab5 qcf_.bits5 (fun HT_ HW_ => ?_); generalize w32.drew = w33 at K101 HB qal_ ⊢; refine pun_ 0 12 25 1 ?_; refine pun_ 3 15 25 9 ?_; refine pun_ 7 19 25 137 ?_; refine pun_ 12 24 25 4233 ?_; refine pun_ 14 26 25 20617 ?_; refine pun_ 15 27 25 53385 ?_; refine pun_ 16 28 25 118921 ?_; refine pun_ 19 31 25 643209 ?_; refine pun_ 20 32 25 1691785 ?_; refine pun_ 21 33 25 3788937 ?_; refine tkW4n_ 1 13 25 3788939 qal_ ?_; refine pun_ 2 14 25 3788943 ?_; refine tkW4n_ 4 16 25 3788959 qal_ ?_; refine pun_ 5 17 25 3788991 ?_; refine pun_ 6 18 25 3789055 ?_; refine tkW4n_ 8 20 25 3789311 qal_ ?_; refine on_ 9 21 25 3789823 (fun K hK => ?_); refine goes_ func91 (by kernel_rfl) rfl #[.int .i64 a0_2] (by rfl) rfl rfl z5_ ?_
 with_reducible refine (qcg_.calls a0_2 t105 _ ?side1 A23.out).mono ?_
 (case side1 => exact GV.below hgv (hs_))
 rintro e w34 ⟨rfl, hb⟩; refine ⟨_, rfl, ?_⟩; replace K101 := ab_ K101 hb; replace HB := qa_.mk (qc_ (hs_) hb); (try clear hb)
 (try clear hb2)
 (try clear hk)
 (try clear hi)
 refine hK.out _ _ (bc4o K101.out) (fun qal_ => ?_); clear hK K; refine norm_ (a' := ?_) ?_ ?_; rotate_left
 ·show Act.put _ (some 21) _ = _
  simp only [Act.put, List.setIfInBounds_toArray, List.set_cons_zero, List.set_cons_succ, i64_w, i32_w]; rfl
 refine pun_ 10 22 25 3790847 ?_; refine pun_ 11 23 25 3792895 ?_; refine pun_ 13 25 25 3801087 ?_; refine on_ 17 29 25 3932159 (fun K hK => ?_); refine goesT_ func90 (by kernel_rfl) rfl #[.int .i64 (wrap64 (Int.tdiv a0_3 60))] (by rfl) rfl rfl rfl z8_ ?_
 with_reducible refine (qcw_.calls (wrap64 (Int.tdiv a0_3 60))  t106 _ ?side1 A27.out).mono ?_
 (case side1 => exact GV.below hgv (hs_))
 rintro e w35 ⟨rfl, hb⟩; refine ⟨_, rfl, ?_⟩; replace K101 := ab_ K101 hb; replace HB := qa_.mk (qc_ (hs_) hb); (try clear hb)
 (try clear hb2)
 (try clear hk)
 (try clear hi)
 refine hK.out _ _ (bc4o K101.out) (fun qal_ => ?_); clear hK K; refine norm_ (a' := ?_) ?_ ?_; rotate_left
 ·show Act.put _ (some 29) _ = _
  simp only [Act.put, List.setIfInBounds_toArray, List.set_cons_zero, List.set_cons_succ, i64_w, i32_w]; rfl
 refine pun_ 18 30 25 4194303 ?_; refine on_ 22 34 25 8388607 (fun K hK => ?_); refine goesT_ func90 (by kernel_rfl) rfl #[.int .i64 (Int.tmod a0_3 60)] (by rfl) rfl rfl rfl z8_ ?_
 with_reducible refine (qcw_.calls (Int.tmod a0_3 60)  t107 _ ?side1 A29.out).mono ?_
 (case side1 => exact GV.below hgv (hs_))
 rintro e w36 ⟨rfl, hb⟩; refine ⟨_, rfl, ?_⟩; replace K101 := ab_ K101 hb; replace HB := qa_.mk (qc_ (hs_) hb); (try clear hb)
 (try clear hb2)
 (try clear hk)
 (try clear hi)
 refine hK.out _ _ (bc4o K101.out) (fun qal_ => ?_); clear hK K; refine norm_ (a' := ?_) ?_ ?_; rotate_left
 ·show Act.put _ (some 34) _ = _
  simp only [Act.put, List.setIfInBounds_toArray, List.set_cons_zero, List.set_cons_succ, i64_w, i32_w]; rfl
 refine pun_ 23 35 25 16777215 ?_; refine pun_ 24 2 25 33554431 ?_; refine dn_ ?_; try go_wp2
 go_ret
 exact ⟨z3_, hs_⟩
def qm_.l0 : Nat → List ByteArray → (ByteArray → Option (Bool)) → Int → Int → Option (Int)
 | 0, _, _, _, _ => none
 | k + 1, x0, x1, x7, x8 => if x8 < x7 then (if 0 ≤ x8 then (if x8 < (x0.length : Int) then ((x1 (rdOf ByteArray.empty x0 x8)).bind fun t188 => (if t188 = true then (some x8) else (qm_.l0 k x0 x1 x7 (wrap64 (x8 + 1))))) else (none)) else (none)) else (some (-1))
def qm_.f (k : Nat) (l0 : List ByteArray) (a1 : (ByteArray → Option (Bool))) : Option (Int) := qm_.l0 k l0 a1 (l0.length : Int) 0
theorem qm_.mono_l : ∀ k, (∀ y0 y1 y2 y3, LeO (qm_.l0 k y0 y1 y2 y3) (qm_.l0 (k + 1) y0 y1 y2 y3))
 | 0 => fun _ _ _ _ r h => by simp [qm_.l0] at h
 | k + 1 => by
  have ih0 := qm_.mono_l k
  ·intro y0 y1 y2 y3
   unfold qm_.l0
   have m0_ := @ih0
   exact mz_
theorem qm_.mono : ∀ a0 a1 k, LeO (qm_.f k a0 a1) (qm_.f (k + 1) a0 a1) := by
 intro a0 a1 k; have ih0 := qm_.mono_l k; unfold qm_.f; have m0_ := @ih0; exact mz_
theorem qm_.calls (k : Nat) (A0 : Option Addr) (c0 : Nat) (l0 : List ByteArray) (G1_ : Nat) (B1_ : Array Value) (a1 : (ByteArray → Option (Bool))) (r : Int) (w : World) (hr0 : Kd.C Kd.string w A0 l0.length l0) (hc0 : l0.length ≤ c0) (eg1_ : ∀ args w, (callFunc G1_ args).run Tryz.prog w = .ok (.enter G1_ args) w) (hq1_ : ∀ (z0 : ByteArray) (zr0 : Bool) (W_ : World), Below w.heap.size w W_ → a1 z0 = some zr0 → Calls Tryz.prog G1_ (#[.string z0] ++ B1_) W_ fun e w' => e = .returned (.bool zr0) ∧ Below W_.heap.size W_ w') (h : qm_.f k l0 a1 = some r) :
  Calls Tryz.prog 138 #[.slice A0 l0.length c0, .func (.func G1_) #[] B1_] w fun e w' => e = .returned (.int .i64 r) ∧ Below w.heap.size w w' := by
 have HR0 := qa_.mk hr0; have HC0 := qa_.mk hc0; clear hr0 hc0; have HB := qa_.mk (Below.refl w.heap.size w); unfold qm_.f at h; have H := h; clear h; have H' := qa_.mk H; clear H; go_enter func138, ntmps138; go_wp2
 go_loopg [8] k (fun kq v8 w' => ∃ (x8_1 : Int), v8 = .int .i64 x8_1 ∧ qa_ (qm_.l0 kq l0 a1 (l0.length : Int) x8_1 = some r) ∧ qa_ (kq ≤ k) ∧ qa_ (Below w.heap.size w w'))
 case atStart => exact ⟨(0), z1_, H', ⟨Nat.le_refl _⟩, ⟨hb_ HB.out⟩⟩
 case round =>
  clear H'; try clear c1
  try clear p2
  obtain ⟨x8_1, rfl, HA, HK1, HB⟩ := hrel
  cases gk with
  | zero => exact absurd HA.out (by simp [qm_.l0])
  | succ k1 =>
   have H := HA.out; clear HA; simp only [qm_.l0] at H; by_cases c3 : x8_1 < (l0.length : Int); rotate_left
   ·rw [if_neg c3] at H; have c3b0 := df_ c3; clear c3; obtain rfl := oi_ H; go_wp2
    go_ret
    exact ⟨z3_, hb_ HB.out⟩
   rw [if_pos c3] at H; have c3b0 := dt_ c3; clear c3; by_cases c4 : 0 ≤ x8_1; rotate_left
   ·rw [if_neg c4] at H; exact no_ H
   rw [if_pos c4] at H; have c4b0 := dt_ c4; clear c4; by_cases c5 : x8_1 < (l0.length : Int); rotate_left
   ·rw [if_neg c5] at H; exact no_ H
   rw [if_pos c5] at H; have c5b0 := dt_ c5; clear c5; obtain ⟨t188, A6, H⟩ := bx_ H; by_cases c7 : t188 = true
   ·subst c7; rw [if_pos rfl] at H; obtain rfl := oi_ H; have p187 : 0 ≤ (x8_1 : Int) := y0_; have q187 : x8_1 < (l0.length : Int) := y0_; obtain ⟨ad187, e187, hx187_0⟩ := Kd.at_string HR0.out x8_1 p187 q187
    cases e187
    replace hx187_0 := (HB.out.cell (World.block_lt_of_cell? w _ hx187_0)).trans hx187_0; replace p187 := eq_true p187; replace q187 := eq_true q187; go_wp2_with (first | (refine goesF_ (some 16) rfl rfl (g := G1_) (lb := B1_) eg1_ #[.string (rdOf ByteArray.empty l0 x8_1)] rfl rfl z8_ (#[.string (rdOf ByteArray.empty l0 x8_1)] ++ B1_) (by first | rfl | simp) ?_; (refine (hq1_ (rdOf ByteArray.empty l0 x8_1) true _  ?side1 A6.out).mono ?_); (case side1 => repeat (first | (with_reducible first | exact HB.out | apply qap_ | apply qar_ | apply qbh_) | exact HB.out)); rintro e w8 ⟨rfl, hb⟩; refine ⟨_, rfl, ?_⟩; replace HB := ah_ HB hb; (try clear hb); (try clear hb2); (try clear hk); (try clear hi)))
    go_ret
    exact ⟨z3_, hb_ HB.out⟩
   replace c7 := Bool.eq_false_iff.mpr c7; subst c7; rw [if_neg nft_] at H; have H' := qa_.mk H; clear H; have p187 : 0 ≤ (x8_1 : Int) := y0_; have q187 : x8_1 < (l0.length : Int) := y0_; obtain ⟨ad187, e187, hx187_0⟩ := Kd.at_string HR0.out x8_1 p187 q187
   cases e187
   replace hx187_0 := (HB.out.cell (World.block_lt_of_cell? w _ hx187_0)).trans hx187_0; replace p187 := eq_true p187; replace q187 := eq_true q187; go_wp2_with (first | (refine goesF_ (some 16) rfl rfl (g := G1_) (lb := B1_) eg1_ #[.string (rdOf ByteArray.empty l0 x8_1)] rfl rfl z8_ (#[.string (rdOf ByteArray.empty l0 x8_1)] ++ B1_) (by first | rfl | simp) ?_; (refine (hq1_ (rdOf ByteArray.empty l0 x8_1) false _  ?side1 A6.out).mono ?_); (case side1 => repeat (first | (with_reducible first | exact HB.out | apply qap_ | apply qar_ | apply qbh_) | exact HB.out)); rintro e w9 ⟨rfl, hb⟩; refine ⟨_, rfl, ?_⟩; replace HB := ah_ HB hb; (try clear hb); (try clear hb2); (try clear hk); (try clear hi)))
   go_roundg k1
   case measure => have := HK1.out; omega
   case rel => exact ⟨(wrap64 (x8_1 + 1)), z1_, H', ⟨by have := HK1.out; omega⟩, ⟨hb_ HB.out⟩⟩
def qaf_.f (k : Nat) (l0 : List ByteArray) (a1 : (ByteArray → Option (Bool))) : Option (Bool) := (qm_.f k l0 a1).bind fun t189 => (some (decide (t189 ≥ 0)))
theorem qaf_.mono : ∀ a0 a1 k, LeO (qaf_.f k a0 a1) (qaf_.f (k + 1) a0 a1) := by
 intro a0 a1 k; unfold qaf_.f; have m0_ := @qm_.mono; exact mz_
theorem qaf_.calls (k : Nat) (A0 : Option Addr) (c0 : Nat) (l0 : List ByteArray) (G1_ : Nat) (B1_ : Array Value) (a1 : (ByteArray → Option (Bool))) (r : Bool) (w : World) (hr0 : Kd.C Kd.string w A0 l0.length l0) (hc0 : l0.length ≤ c0) (eg1_ : ∀ args w, (callFunc G1_ args).run Tryz.prog w = .ok (.enter G1_ args) w) (hq1_ : ∀ (z0 : ByteArray) (zr0 : Bool) (W_ : World), Below w.heap.size w W_ → a1 z0 = some zr0 → Calls Tryz.prog G1_ (#[.string z0] ++ B1_) W_ fun e w' => e = .returned (.bool zr0) ∧ Below W_.heap.size W_ w') (h : qaf_.f k l0 a1 = some r) :
  Calls Tryz.prog 66 #[.slice A0 l0.length c0, .func (.func G1_) #[] B1_] w fun e w' => e = .returned (.bool r) ∧ Below w.heap.size w w' := by
 have HR0 := qa_.mk hr0; have HC0 := qa_.mk hc0; clear hr0 hc0; have HB := qa_.mk (Below.refl w.heap.size w); unfold qaf_.f at h; have H := h; clear h; obtain ⟨t189, A3, H⟩ := bx_ H; obtain rfl := oi_ H; go_enter func66, ntmps66; go_wp2_with (first | ((with_reducible refine qb_ (f := 138) rfl ?_); refine gl_ (some 7) func138 #[.slice A0 l0.length c0, .func (.func G1_) #[] B1_] ?_; (with_reducible refine (qm_.calls k _ _ l0 G1_ B1_ a1 t189 _ ?side1 ?side2 ?side3 ?side4 A3.out).mono ?_); (case side1 => repeat (first | exact HR0.out | (with_reducible refine Kd.C_alloc ?_ _) | (with_reducible refine Kd.C_drewN ?_ _) | (with_reducible refine Kd.C_drew ?_))); (case side2 => exact HC0.out); (case side3 => exact eg1_); (case side4 => intro z0_ z1_ W_ hB_ h_; exact hq1_ z0_ z1_ _ (Below.trans (hb_ HB.out) (hB_.mono (qn_ (hb_ HB.out)))) h_); rintro e w4 ⟨rfl, hb⟩; refine ⟨_, rfl, ?_⟩; replace HB := ah_ HB hb; (try clear hb); (try clear hb2); (try clear hk); (try clear hi)))
 go_ret
 exact ⟨z3_, hb_ HB.out⟩
mutual
def qy_.j0 : Nat → ByteArray → Bool → Option (Bool)
 | 0, _, _ => none
 | k + 1, x0, x24 => if x24 = true then (some false) else (qy_.l0 k x0 (x0.size : Int) 0)
def qy_.l0 : Nat → ByteArray → Int → Int → Option (Bool)
 | 0, _, _, _ => none
 | k + 1, x0, x26, x27 => if x27 < x26 then (if 0 ≤ x27 then (if x27 < (x0.size : Int) then (if (bt x0 x27) < 32 then (some false) else (if (bt x0 x27) = 60 then (some false) else (if (bt x0 x27) = 62 then (some false) else (qy_.l0 k x0 x26 (wrap64 (x27 + 1)))))) else (none)) else (none)) else (some true)
end
def qy_.f (k : Nat) (a0 : ByteArray) : Option (Bool) := if (a0.size : Int) < 1 then (qy_.j0 k a0 true) else (if (a0.size : Int) > 64 then (qy_.j0 k a0 true) else (if 0 < (a0.size : Int) then (if (bt a0 0) = 32 then (qy_.j0 k a0 true) else (if 0 ≤ (wrap64 ((a0.size : Int) - 1)) then (if (wrap64 ((a0.size : Int) - 1)) < (a0.size : Int) then (qy_.j0 k a0 ((bt a0 (wrap64 ((a0.size : Int) - 1))) == 32)) else (none)) else (none))) else (none)))
theorem qy_.mono_l : ∀ k, (∀ y0 y1, LeO (qy_.j0 k y0 y1) (qy_.j0 (k + 1) y0 y1)) ∧ (∀ y0 y1 y2, LeO (qy_.l0 k y0 y1 y2) (qy_.l0 (k + 1) y0 y1 y2))
 | 0 => ⟨fun _ _ r h => by simp [qy_.j0] at h, fun _ _ _ r h => by simp [qy_.l0] at h⟩
 | k + 1 => by
  obtain ⟨ih0, ih1⟩ := qy_.mono_l k
  refine ⟨?_, ?_⟩
  ·intro y0 y1
   unfold qy_.j0
   have m0_ := @ih0
   have m1_ := @ih1
   exact mz_
  ·intro y0 y1 y2
   unfold qy_.l0
   have m0_ := @ih0
   have m1_ := @ih1
   exact mz_
theorem qy_.mono : ∀ a0 k, LeO (qy_.f k a0) (qy_.f (k + 1) a0) := by
 intro a0 k; obtain ⟨ih0, ih1⟩ := qy_.mono_l k; unfold qy_.f; have m0_ := @ih0; have m1_ := @ih1; exact mz_
theorem qy_.calls (k : Nat) (a0 : ByteArray) (r : Bool) (w : World) (h : qy_.f k a0 = some r) :
  Calls Tryz.prog 139 #[.string a0] w fun e w' => e = .returned (.bool r) ∧ Drawn0 w w' := by
 unfold qy_.f at h; have H := h; clear h; have HC2 := qa_.mk H; clear H; go_enter func139, ntmps139; go_upto_region 1 with (fail)
 go_cut [24] (fun v24 wc => ∃ (kq : Nat) (x24_1 : Bool), v24 = .bool x24_1 ∧ qa_ (qy_.j0 kq a0 x24_1 = some r) ∧ qa_ (kq ≤ k) ∧ Drawn0 w wc)
 case first =>
  have H := HC2.out; clear HC2; by_cases c3 : (a0.size : Int) < 1
  ·rw [if_pos c3] at H; have c3b0 := dt_ c3; have c3b1 : decide (a0.size < 1) = true := decide_eq_true (by omega); clear c3; (first | rw [c3b0] | (simp only [i64_w, i32_w]; rw [c3b0]) | skip); have H' := qa_.mk H; clear H; go_wp2
   go_meet
   case rel => exact ⟨_, (true), z1_, H', ⟨z4_⟩, z2_⟩
  rw [if_neg c3] at H; have c3b0 := df_ c3; have c3b1 : decide (a0.size < 1) = false := decide_eq_false (by omega); clear c3; (first | rw [c3b0] | (simp only [i64_w, i32_w]; rw [c3b0]) | skip); by_cases c4 : (a0.size : Int) > 64
  ·rw [if_pos c4] at H; have c4b0 := dt_ c4; have c4b1 : decide (64 < a0.size) = true := decide_eq_true (by omega); clear c4; have H' := qa_.mk H; clear H; go_wp2
   go_meet
   case rel => exact ⟨_, (true), z1_, H', ⟨z4_⟩, z2_⟩
  rw [if_neg c4] at H; have c4b0 := df_ c4; have c4b1 : decide (64 < a0.size) = false := decide_eq_false (by omega); clear c4; by_cases c5 : 0 < (a0.size : Int); rotate_left
  ·rw [if_neg c5] at H; exact no_ H
  rw [if_pos c5] at H; have c5b0 := dt_ c5; have c5b1 : decide (0 < a0.size) = true := decide_eq_true (by omega); clear c5; by_cases c7 : (bt a0 0) = 32
  ·rw [if_pos c7] at H; have c7b0 := et_ c7; have c7b1 := nf_ c7; clear c7; have H' := qa_.mk H; clear H; have p6 : 0 ≤ (0 : Int) := (by omega); have q6 : 0 < a0.size := (by have : (0 : Int) < (a0.size : Int) := y0_; omega)
   have hx6 : ∀ h : 0 < a0.size, ((a0[0]'h).toNat : Int) = bt a0 0 := bt_at a0 0; clear p6; have qi6 : (0 < (a0.size : Int)) = True := eq_true (y0_); replace q6 := eq_true q6; go_wp2
   go_meet
   case rel => exact ⟨_, (true), z1_, H', ⟨z4_⟩, z2_⟩
  rw [if_neg c7] at H; have c7b0 := ef_ c7; have c7b1 := nt_ c7; obtain ⟨ji8, hji8⟩ : ∃ j_ : Int, (wrap64 ((a0.size : Int) - 1)) = j_ := ⟨_, rfl⟩; replace H : (if 0 ≤ (ji8) then (if (ji8) < (a0.size : Int) then (qy_.j0 k a0 ((bt a0 (ji8)) == 32)) else (none)) else (none)) = some r := by first | (rw [hji8] at H; exact H) | (simp only [hji8] at H ⊢; exact H)
  have hji8w : (IntKind.i64.wrap ((a0.size : Int) - 1)) = ji8 := (i64_w _).trans hji8; by_cases c9 : 0 ≤ (ji8); rotate_left
  ·rw [if_neg c9] at H; exact no_ H
  rw [if_pos c9] at H; have c9b0 := dt_ c9; clear c9; by_cases c10 : (ji8) < (a0.size : Int); rotate_left
  ·rw [if_neg c10] at H; exact no_ H
  rw [if_pos c10] at H; have c10b0 := dt_ c10; clear c10; have H' := qa_.mk H; clear H; have p6 : 0 ≤ (0 : Int) := (by omega); have q6 : 0 < a0.size := (by have : (0 : Int) < (a0.size : Int) := y0_; omega)
  have hx6 : ∀ h : 0 < a0.size, ((a0[0]'h).toNat : Int) = bt a0 0 := bt_at a0 0; clear p6; have qi6 : (0 < (a0.size : Int)) = True := eq_true (y0_); replace q6 := eq_true q6; have p11 : 0 ≤ ((ji8) : Int) := y0_; have q11 : (ji8) < (a0.size : Int) := y0_; have hx11 := bt_at a0 (ji8); replace p11 := eq_true p11; replace q11 := eq_true q11; go_wp2
  go_meet
  case rel => exact ⟨_, (((bt a0 (ji8)) == 32)), (by first | rfl | (simp; done) | (simp only [← hji8] <;> (first | rfl | simp)) | (simp [*]; done)), H', ⟨z4_⟩, z2_⟩
 case rest =>
  clear HC2; try clear c1
  try clear p1
  try clear q1
  try clear hx1
  try clear p2
  try clear c3
  try clear c3b0
  try clear c3b1
  try clear c4
  try clear c4b0
  try clear c4b1
  try clear c5
  try clear c5b0
  try clear c5b1
  try clear p6
  try clear q6
  try clear hx6
  try clear qi6
  try clear c7
  try clear c7b0
  try clear c7b1
  try clear c9
  try clear c9b0
  try clear c10
  try clear c10b0
  try clear p11
  try clear q11
  try clear hx11
  try clear p11
  try clear p6
  try clear q11
  try clear q6
  obtain ⟨kq, x24_1, rfl, HA, HJ1, ⟨mc1, rfl⟩⟩ := hcut
  cases kq with
  | zero => exact absurd HA.out (by simp [qy_.j0])
  | succ kj1 =>
   have H := HA.out; clear HA; simp only [qy_.j0] at H; by_cases c12 : x24_1 = true
   ·subst c12; rw [if_pos rfl] at H; obtain rfl := oi_ H; go_wp2
    go_ret
    exact ⟨z1_, z2_⟩
   replace c12 := Bool.eq_false_iff.mpr c12; subst c12; rw [if_neg nft_] at H; have H' := qa_.mk H; clear H; go_wp2
   go_loopg [27] kj1 (fun kq v27 w' => ∃ (x27_2 : Int), v27 = .int .i64 x27_2 ∧ qa_ (qy_.l0 kq a0 (a0.size : Int) x27_2 = some r) ∧ qa_ (kq ≤ kj1) ∧ Drawn0 w w')
   case atStart => exact ⟨(0), z1_, H', ⟨Nat.le_refl _⟩, z2_⟩
   case round =>
    clear H'; try clear c1
    try clear p1
    try clear q1
    try clear hx1
    try clear p2
    try clear c3
    try clear c3b0
    try clear c3b1
    try clear c4
    try clear c4b0
    try clear c4b1
    try clear c5
    try clear c5b0
    try clear c5b1
    try clear p6
    try clear q6
    try clear hx6
    try clear qi6
    try clear c7
    try clear c7b0
    try clear c7b1
    try clear c9
    try clear c9b0
    try clear c10
    try clear c10b0
    try clear p11
    try clear q11
    try clear hx11
    try clear c12
    try clear p1
    try clear p11
    try clear p2
    try clear p6
    try clear q1
    try clear q11
    try clear q6
    obtain ⟨x27_2, rfl, HA, HK2, ⟨m2, rfl⟩⟩ := hrel
    cases gk with
    | zero => exact absurd HA.out (by simp [qy_.l0])
    | succ k2 =>
     have H := HA.out; clear HA; simp only [qy_.l0] at H; by_cases c13 : x27_2 < (a0.size : Int); rotate_left
     ·rw [if_neg c13] at H; have c13b0 := df_ c13; clear c13; obtain rfl := oi_ H; go_wp2
      go_ret
      exact ⟨z1_, z2_⟩
     rw [if_pos c13] at H; have c13b0 := dt_ c13; clear c13; by_cases c14 : 0 ≤ x27_2; rotate_left
     ·rw [if_neg c14] at H; exact no_ H
     rw [if_pos c14] at H; have c14b0 := dt_ c14; clear c14; by_cases c15 : x27_2 < (a0.size : Int); rotate_left
     ·rw [if_neg c15] at H; exact no_ H
     rw [if_pos c15] at H; have c15b0 := dt_ c15; clear c15; by_cases c17 : (bt a0 x27_2) < 32
     ·rw [if_pos c17] at H; have c17b0 := dt_ c17; clear c17; obtain rfl := oi_ H; have p16 : 0 ≤ (x27_2 : Int) := y0_; have q16 : x27_2 < (a0.size : Int) := y0_; have hx16 := bt_at a0 x27_2; replace p16 := eq_true p16; replace q16 := eq_true q16; go_wp2
      go_ret
      exact ⟨z1_, z2_⟩
     rw [if_neg c17] at H; have c17b0 := df_ c17; clear c17; by_cases c19 : (bt a0 x27_2) = 60
     ·rw [if_pos c19] at H; have c19b0 := et_ c19; have c19b1 := nf_ c19; clear c19; obtain rfl := oi_ H; have p16 : 0 ≤ (x27_2 : Int) := y0_; have q16 : x27_2 < (a0.size : Int) := y0_; have hx16 := bt_at a0 x27_2; replace p16 := eq_true p16; replace q16 := eq_true q16; have p18 : 0 ≤ (x27_2 : Int) := y0_; have q18 : x27_2 < (a0.size : Int) := y0_; have hx18 := bt_at a0 x27_2; replace p18 := eq_true p18; replace q18 := eq_true q18; go_wp2
      go_ret
      exact ⟨z1_, z2_⟩
     rw [if_neg c19] at H; have c19b0 := ef_ c19; have c19b1 := nt_ c19; by_cases c21 : (bt a0 x27_2) = 62
     ·rw [if_pos c21] at H; have c21b0 := et_ c21; have c21b1 := nf_ c21; clear c21; obtain rfl := oi_ H; have p16 : 0 ≤ (x27_2 : Int) := y0_; have q16 : x27_2 < (a0.size : Int) := y0_; have hx16 := bt_at a0 x27_2; replace p16 := eq_true p16; replace q16 := eq_true q16; have p18 : 0 ≤ (x27_2 : Int) := y0_; have q18 : x27_2 < (a0.size : Int) := y0_; have hx18 := bt_at a0 x27_2; replace p18 := eq_true p18; replace q18 := eq_true q18; have p20 : 0 ≤ (x27_2 : Int) := y0_; have q20 : x27_2 < (a0.size : Int) := y0_; have hx20 := bt_at a0 x27_2; replace p20 := eq_true p20; replace q20 := eq_true q20; go_wp2
      go_ret
      exact ⟨z1_, z2_⟩
     rw [if_neg c21] at H; have c21b0 := ef_ c21; have c21b1 := nt_ c21; have H' := qa_.mk H; clear H; have p16 : 0 ≤ (x27_2 : Int) := y0_; have q16 : x27_2 < (a0.size : Int) := y0_; have hx16 := bt_at a0 x27_2; replace p16 := eq_true p16; replace q16 := eq_true q16; have p18 : 0 ≤ (x27_2 : Int) := y0_; have q18 : x27_2 < (a0.size : Int) := y0_; have hx18 := bt_at a0 x27_2; replace p18 := eq_true p18; replace q18 := eq_true q18; have p20 : 0 ≤ (x27_2 : Int) := y0_; have q20 : x27_2 < (a0.size : Int) := y0_; have hx20 := bt_at a0 x27_2; replace p20 := eq_true p20; replace q20 := eq_true q20; go_wp2
     go_roundg k2
     case measure => have := HJ1.out; have := HK2.out; omega
     case rel => exact ⟨(wrap64 (x27_2 + 1)), z1_, H', ⟨by have := HJ1.out; have := HK2.out; omega⟩, z2_⟩
def qax_.f (k : Nat) (a0_0 : ByteArray) (a0_1 : ByteArray) (a0_2 : Int) (a0_3 : Int) : Option (Bool) := (qy_.f k a0_0).bind fun t105 => (if t105 = true then ((qy_.f k a0_1).bind fun t106 => (if t106 = true then (if a0_2 ≥ 0 then (if a0_2 ≤ 1099511627776 then (if a0_3 ≥ (-840) then (some (decide (a0_3 ≤ 840))) else (some false)) else (some false)) else (some false)) else (some false))) else (some false))
theorem qax_.mono : ∀ a0 a1 a2 a3 k, LeO (qax_.f k a0 a1 a2 a3) (qax_.f (k + 1) a0 a1 a2 a3) := by
 intro a0 a1 a2 a3 k; unfold qax_.f; have m0_ := @qy_.mono; exact mz_
theorem qax_.calls (k : Nat) (a0_0 : ByteArray) (a0_1 : ByteArray) (a0_2 : Int) (a0_3 : Int) (r : Bool) (w : World) (h : qax_.f k a0_0 a0_1 a0_2 a0_3 = some r) :
  Calls Tryz.prog 67 #[.agg #[.string a0_0, .string a0_1, .int .i64 a0_2, .int .i64 a0_3]] w fun e w' => e = .returned (.bool r) ∧ Below w.heap.size w w' := by
 have hu24 := underlying24; have HB := qa_.mk (Below.refl w.heap.size w); unfold qax_.f at h; have H := h; clear h; obtain ⟨t105, A2, H⟩ := bx_ H; by_cases c3 : t105 = true; rotate_left
 ·replace c3 := Bool.eq_false_iff.mpr c3; subst c3; rw [if_neg nft_] at H; obtain rfl := oi_ H; go_enter func67, ntmps67; go_wp2_with (first | ((with_reducible refine qk_ (N := 1) rfl ?_); refine be_ (cs := #[.string a0_0, .string a0_1, .int .i64 a0_2, .int .i64 a0_3]) (t := 24) ?_; intro g104 hg w19 hbox hb; have K104 := qa_.mk (hbox); have W104 := ag_ hg HB; have E104 := ag_ hg HB; replace HB := ah_ HB hb; clear hb hbox hg; obtain ⟨Z20_0, Z20_1, Z20_2, Z20_3, F20⟩ := bc4 K104.out) | ((with_reducible refine qb_ (f := 139) rfl ?_); refine gl_ (some 5) func139 #[.string a0_0] ?_; refine cm_ (qy_.calls k a0_0 false _ A2.out) ?_; rintro w' ⟨nd, rfl⟩)); go_ret
  exact ⟨z3_, hs_⟩
 subst c3; rw [if_pos rfl] at H; obtain ⟨t106, A4, H⟩ := bx_ H; by_cases c5 : t106 = true; rotate_left
 ·replace c5 := Bool.eq_false_iff.mpr c5; subst c5; rw [if_neg nft_] at H; obtain rfl := oi_ H; go_enter func67, ntmps67; have tk9_ : True := trivial; have tk10_ : True := trivial; go_wp2_with (first | ((with_reducible refine qk_ (N := 1) rfl ?_); refine be_ (cs := #[.string a0_0, .string a0_1, .int .i64 a0_2, .int .i64 a0_3]) (t := 24) ?_; intro g104 hg w17 hbox hb; have K104 := qa_.mk (hbox); have W104 := ag_ hg HB; have E104 := ag_ hg HB; replace HB := ah_ HB hb; clear hb hbox hg; obtain ⟨Z18_0, Z18_1, Z18_2, Z18_3, F18⟩ := bc4 K104.out) | (have _t := tk9_; (with_reducible refine qb_ (f := 139) rfl ?_); refine gl_ (some 5) func139 #[.string a0_0] ?_; refine cm_ (qy_.calls k a0_0 true _ A2.out) ?_; rintro w' ⟨nd, rfl⟩; clear tk9_) | (go_at_call 139; have _t := tk10_; (with_reducible refine (qy_.calls k a0_1 false _ A4.out).mono ?_); rintro e w' ⟨rfl, ⟨nd, rfl⟩⟩; clear tk10_)); go_ret
  exact ⟨z3_, hs_⟩
 subst c5; rw [if_pos rfl] at H; by_cases c6 : a0_2 ≥ 0; rotate_left
 ·rw [if_neg c6] at H; have c6b0 := df_ c6; clear c6; obtain rfl := oi_ H; go_enter func67, ntmps67; have tk7_ : True := trivial; have tk8_ : True := trivial; go_wp2_with (first | ((with_reducible refine qk_ (N := 1) rfl ?_); refine be_ (cs := #[.string a0_0, .string a0_1, .int .i64 a0_2, .int .i64 a0_3]) (t := 24) ?_; intro g104 hg w15 hbox hb; have K104 := qa_.mk (hbox); have W104 := ag_ hg HB; have E104 := ag_ hg HB; replace HB := ah_ HB hb; clear hb hbox hg; obtain ⟨Z16_0, Z16_1, Z16_2, Z16_3, F16⟩ := bc4 K104.out) | (have _t := tk7_; (with_reducible refine qb_ (f := 139) rfl ?_); refine gl_ (some 5) func139 #[.string a0_0] ?_; refine cm_ (qy_.calls k a0_0 true _ A2.out) ?_; rintro w' ⟨nd, rfl⟩; clear tk7_) | (go_at_call 139; have _t := tk8_; (with_reducible refine (qy_.calls k a0_1 true _ A4.out).mono ?_); rintro e w' ⟨rfl, ⟨nd, rfl⟩⟩; clear tk8_)); go_ret
  exact ⟨z3_, hs_⟩
 rw [if_pos c6] at H; have c6b0 := dt_ c6; clear c6; by_cases c7 : a0_2 ≤ 1099511627776; rotate_left
 ·rw [if_neg c7] at H; have c7b0 := df_ c7; clear c7; obtain rfl := oi_ H; go_enter func67, ntmps67; have tk5_ : True := trivial; have tk6_ : True := trivial; go_wp2_with (first | ((with_reducible refine qk_ (N := 1) rfl ?_); refine be_ (cs := #[.string a0_0, .string a0_1, .int .i64 a0_2, .int .i64 a0_3]) (t := 24) ?_; intro g104 hg w13 hbox hb; have K104 := qa_.mk (hbox); have W104 := ag_ hg HB; have E104 := ag_ hg HB; replace HB := ah_ HB hb; clear hb hbox hg; obtain ⟨Z14_0, Z14_1, Z14_2, Z14_3, F14⟩ := bc4 K104.out) | (have _t := tk5_; (with_reducible refine qb_ (f := 139) rfl ?_); refine gl_ (some 5) func139 #[.string a0_0] ?_; refine cm_ (qy_.calls k a0_0 true _ A2.out) ?_; rintro w' ⟨nd, rfl⟩; clear tk5_) | (go_at_call 139; have _t := tk6_; (with_reducible refine (qy_.calls k a0_1 true _ A4.out).mono ?_); rintro e w' ⟨rfl, ⟨nd, rfl⟩⟩; clear tk6_)); go_ret
  exact ⟨z3_, hs_⟩
 rw [if_pos c7] at H; have c7b0 := dt_ c7; clear c7; by_cases c8 : a0_3 ≥ (-840)
 ·rw [if_pos c8] at H; have c8b0 := dt_ c8; clear c8; obtain rfl := oi_ H; go_enter func67, ntmps67; have tk1_ : True := trivial; have tk2_ : True := trivial; go_wp2_with (first | ((with_reducible refine qk_ (N := 1) rfl ?_); refine be_ (cs := #[.string a0_0, .string a0_1, .int .i64 a0_2, .int .i64 a0_3]) (t := 24) ?_; intro g104 hg w9 hbox hb; have K104 := qa_.mk (hbox); have W104 := ag_ hg HB; have E104 := ag_ hg HB; replace HB := ah_ HB hb; clear hb hbox hg; obtain ⟨Z10_0, Z10_1, Z10_2, Z10_3, F10⟩ := bc4 K104.out) | (have _t := tk1_; (with_reducible refine qb_ (f := 139) rfl ?_); refine gl_ (some 5) func139 #[.string a0_0] ?_; refine cm_ (qy_.calls k a0_0 true _ A2.out) ?_; rintro w' ⟨nd, rfl⟩; clear tk1_) | (go_at_call 139; have _t := tk2_; (with_reducible refine (qy_.calls k a0_1 true _ A4.out).mono ?_); rintro e w' ⟨rfl, ⟨nd, rfl⟩⟩; clear tk2_)); go_ret
  exact ⟨z3_, hs_⟩
 rw [if_neg c8] at H; have c8b0 := df_ c8; clear c8; obtain rfl := oi_ H; go_enter func67, ntmps67; have tk3_ : True := trivial; have tk4_ : True := trivial; go_wp2_with (first | ((with_reducible refine qk_ (N := 1) rfl ?_); refine be_ (cs := #[.string a0_0, .string a0_1, .int .i64 a0_2, .int .i64 a0_3]) (t := 24) ?_; intro g104 hg w11 hbox hb; have K104 := qa_.mk (hbox); have W104 := ag_ hg HB; have E104 := ag_ hg HB; replace HB := ah_ HB hb; clear hb hbox hg; obtain ⟨Z12_0, Z12_1, Z12_2, Z12_3, F12⟩ := bc4 K104.out) | (have _t := tk3_; (with_reducible refine qb_ (f := 139) rfl ?_); refine gl_ (some 5) func139 #[.string a0_0] ?_; refine cm_ (qy_.calls k a0_0 true _ A2.out) ?_; rintro w' ⟨nd, rfl⟩; clear tk3_) | (go_at_call 139; have _t := tk4_; (with_reducible refine (qy_.calls k a0_1 true _ A4.out).mono ?_); rintro e w' ⟨rfl, ⟨nd, rfl⟩⟩; clear tk4_)); go_ret
 exact ⟨z3_, hs_⟩
end Go.Proofs.YtbhfbbfjdklfgaaGreatDoor.Q
namespace Go.Proofs.YtbhfbbfjdklfgaaGreatDoor.Q
open Go.Proofs.Tryz Go.RowKit Go.Lib Go.Proofs.YtbhfbbfjdklfgaaGreatDoorW.PrintWords Go.Proofs.YtbhfbbfjdklfgaaGreatDoorW.PrintLast
theorem R_strings (e : Nat) (w : World) (l : List ByteArray) (hl : l.length ≤ maxLen) :
    Kd.R Kd.string e (w.alloc (.cells (l.map Value.string).toArray e)) w.heap.size (fun _ => True) (.slice (some ⟨w.heap.size, 0, none⟩) l.length l.length) l := by
  refine ⟨fun _ _ => trivial, l.map Value.string, ⟨by simp [Kd.string, Kd.scalar], .inr ⟨w.heap.size, l.length, (l.map Value.string).toArray, rfl, Nat.le_refl _, heap_alloc_new w _, Nat.le_refl _, hl, by simp [Kd.string, Kd.scalar], List.take_of_length_le (by simp [Kd.string, Kd.scalar])⟩⟩, by simp [Kd.string, Kd.scalar], fun j p hp => ?_⟩
  show ((l.map Value.string).drop (j * 1)).take 1 = [.string p]
  have hj := (List.getElem?_eq_some_iff.1 hp).1
  rw [Nat.mul_one, List.drop_eq_getElem_cons (by simpa using hj)]
  have : l[j] = p := by simpa [List.getElem?_eq_getElem hj] using hp
  simp [this]
def qdw_.f (a0 : ByteArray) (a1 : ByteArray) : Option (List ByteArray) := if a1.size = 1 ∧ a0.size < 4294967281 then some (Lib.splitB a1 0 (Lib.countB a0 a1) a0) else none
theorem qdw_.calls (a0 : ByteArray) (a1 : ByteArray) (r : List ByteArray) (w : World) (h : qdw_.f a0 a1 = some r) :
    Calls Tryz.prog 200 #[.string a0, .string a1] w fun e w' => ∃ v0_ : Value, e = .returned (v0_) ∧ Kd.R Kd.string 9 w' w.heap.size (fun _ => True) v0_ r ∧ Below w.heap.size w w' := by
  unfold qdw_.f at h
  split at h
  case isFalse => cases h
  case isTrue hc =>
  obtain rfl := Option.some.inj h
  obtain ⟨c, rfl⟩ := Lib.one_byte a1 hc.1
  have h1 : 1 ≤ (⟨#[c]⟩ : ByteArray).size := by rw [hc.1]; exact Nat.le_refl _
  have hle := Lib.countB_le ⟨#[c]⟩ h1 a0.size a0 (Nat.le_refl _)
  have hlen := Lib.splitB_all ⟨#[c]⟩ h1 0 _ a0 rfl
  have ct := Any.strings_genSplit_core Tryz.lays221 (by kernel_rfl) a0 ⟨#[c]⟩ 0 (-1) (Lib.countB a0 ⟨#[c]⟩ + 1) w hc.2 h1 (Nat.zero_le _)
    (fun x C hx => by
      refine (Tryz.strings_Index_one x c _).mono fun e w' ⟨he, hw⟩ => ⟨?_, hw⟩
      rw [he]
      show _ = Ending.returned (Value.int .i64 (Lib.index x.data.toList [c]))
      rw [Lib.index_one])
    (by
      refine (Tryz.strings_Count_one a0 c w).mono fun e w' ⟨he, hw⟩ => ⟨?_, hw⟩
      rw [he]
      show _ = Ending.returned (Value.int .i64 ((Lib.count a0.data.toList [c] : Nat) : Int))
      rw [Lib.count_one]
      rfl) (by decide) (by decide) (by rw [if_pos (by decide)]; omega)
  rw [Nat.add_sub_cancel, hlen] at ct
  have e2 : Lib.cellsOf (Lib.splitB ⟨#[c]⟩ 0 (Lib.countB a0 ⟨#[c]⟩) a0) (Lib.countB a0 ⟨#[c]⟩ + 1) = ((Lib.splitB ⟨#[c]⟩ 0 (Lib.countB a0 ⟨#[c]⟩) a0).map Value.string).toArray := by rw [← hlen]; exact Lib.cellsOf_full _
  rw [e2] at ct
  have HR := R_strings 9 w (Lib.splitB ⟨#[c]⟩ 0 (Lib.countB a0 ⟨#[c]⟩) a0) (by rw [hlen]; unfold maxLen; omega)
  rw [hlen] at HR
  go_enter func200, ntmps200
  go_wp2_with (go_at_call 234; refine (show Calls _ 234 _ _ _ from ct).mono ?_; rintro e w' ⟨rfl, hw⟩; rw [hw])
  go_ret
  exact ⟨_, rfl, HR, qap_ (Below.refl _ _) _⟩
end Go.Proofs.YtbhfbbfjdklfgaaGreatDoor.Q
namespace Go.Proofs.YtbhfbbfjdklfgaaGreatDoor.Q
open Go.Proofs.Tryz Go.RowKit Go.Proofs.YtbhfbbfjdklfgaaGreatDoorW.PrintWords Go.Proofs.YtbhfbbfjdklfgaaGreatDoorW.PrintLast Go.Proofs.YtbhfbbfjdklfgaaGreatDoorW.PrintMore
attribute [local go_sem] qec_ qef_ qen_ qeo_ qdt_ qdu_ qdz_ qee_
mutual
def qbm_.j0 : Nat → ByteArray → Bool → Option (Bool)
 | 0, _, _ => none
 | k + 1, x0, x23 => if x23 = true then (some false) else (qbm_.l0 k x0 (x0.size : Int) 0)
def qbm_.l0 : Nat → ByteArray → Int → Int → Option (Bool)
 | 0, _, _, _ => none
 | k + 1, x0, x25, x26 => if x26 < x25 then (if 0 ≤ x26 then (if x26 < (x0.size : Int) then (if (bt x0 x26) < 32 then (some false) else (qbm_.l0 k x0 x25 (wrap64 (x26 + 1)))) else (none)) else (none)) else (some true)
end
def qbm_.f (k : Nat) (a0 : ByteArray) : Option (Bool) := if (a0.size : Int) < 1 then (qbm_.j0 k a0 true) else (if (a0.size : Int) > 64 then (qbm_.j0 k a0 true) else (if a0.toList = ([46] : List UInt8) then (qbm_.j0 k a0 true) else (if a0.toList = ([46, 46] : List UInt8) then (qbm_.j0 k a0 true) else (qbm_.j0 k a0 (a0.toList == ([46, 103, 114, 97, 102, 116] : List UInt8))))))
theorem qbm_.mono_l : ∀ k, (∀ y0 y1, LeO (qbm_.j0 k y0 y1) (qbm_.j0 (k + 1) y0 y1)) ∧ (∀ y0 y1 y2, LeO (qbm_.l0 k y0 y1 y2) (qbm_.l0 (k + 1) y0 y1 y2))
 | 0 => ⟨fun _ _ r h => by simp [qbm_.j0] at h, fun _ _ _ r h => by simp [qbm_.l0] at h⟩
 | k + 1 => by
  obtain ⟨ih0, ih1⟩ := qbm_.mono_l k
  refine ⟨?_, ?_⟩
  ·intro y0 y1
   unfold qbm_.j0
   have m0_ := @ih0
   have m1_ := @ih1
   exact mz_
  ·intro y0 y1 y2
   unfold qbm_.l0
   have m0_ := @ih0
   have m1_ := @ih1
   exact mz_
theorem qbm_.mono : ∀ a0 k, LeO (qbm_.f k a0) (qbm_.f (k + 1) a0) := by
 intro a0 k; obtain ⟨ih0, ih1⟩ := qbm_.mono_l k; unfold qbm_.f; have m0_ := @ih0; have m1_ := @ih1; exact mz_
theorem qbm_.calls (k : Nat) (a0 : ByteArray) (r : Bool) (w : World) (h : qbm_.f k a0 = some r) :
  Calls Tryz.prog 201 #[.string a0] w fun e w' => e = .returned (.bool r) ∧ Drawn0 w w' := by
 unfold qbm_.f at h; have H := h; clear h; have HC2 := qa_.mk H; clear H; go_enter func201, ntmps201; go_upto_region 1 with (fail)
 go_cut [23] (fun v23 wc => ∃ (kq : Nat) (x23_1 : Bool), v23 = .bool x23_1 ∧ qa_ (qbm_.j0 kq a0 x23_1 = some r) ∧ qa_ (kq ≤ k) ∧ Drawn0 w wc)
 case first =>
  have H := HC2.out; clear HC2; by_cases c3 : (a0.size : Int) < 1
  ·rw [if_pos c3] at H; have c3b0 := dt_ c3; have c3b1 : decide (a0.size < 1) = true := decide_eq_true (by omega); clear c3; (first | rw [c3b0] | (simp only [i64_w, i32_w]; rw [c3b0]) | skip); have H' := qa_.mk H; clear H; go_wp2
   go_meet
   case rel => exact ⟨_, (true), z1_, H', ⟨z4_⟩, z2_⟩
  rw [if_neg c3] at H; have c3b0 := df_ c3; have c3b1 : decide (a0.size < 1) = false := decide_eq_false (by omega); clear c3; (first | rw [c3b0] | (simp only [i64_w, i32_w]; rw [c3b0]) | skip); by_cases c4 : (a0.size : Int) > 64
  ·rw [if_pos c4] at H; have c4b0 := dt_ c4; have c4b1 : decide (64 < a0.size) = true := decide_eq_true (by omega); clear c4; have H' := qa_.mk H; clear H; go_wp2
   go_meet
   case rel => exact ⟨_, (true), z1_, H', ⟨z4_⟩, z2_⟩
  rw [if_neg c4] at H; have c4b0 := df_ c4; have c4b1 : decide (64 < a0.size) = false := decide_eq_false (by omega); clear c4; by_cases c5 : a0.toList = ([46] : List UInt8)
  ·rw [if_pos c5] at H; have c5b0 := et_ c5; have c5b1 := nf_ c5; clear c5; have H' := qa_.mk H; clear H; go_wp2
   go_meet
   case rel => exact ⟨_, (true), z1_, H', ⟨z4_⟩, z2_⟩
  rw [if_neg c5] at H; have c5b0 := ef_ c5; have c5b1 := nt_ c5; by_cases c6 : a0.toList = ([46, 46] : List UInt8)
  ·rw [if_pos c6] at H; have c6b0 := et_ c6; have c6b1 := nf_ c6; clear c6; have H' := qa_.mk H; clear H; go_wp2
   go_meet
   case rel => exact ⟨_, (true), z1_, H', ⟨z4_⟩, z2_⟩
  rw [if_neg c6] at H; have c6b0 := ef_ c6; have c6b1 := nt_ c6; have H' := qa_.mk H; clear H; go_wp2
  go_meet
  case rel => exact ⟨_, ((a0.toList == ([46, 103, 114, 97, 102, 116] : List UInt8))), z1_, H', ⟨z4_⟩, z2_⟩
 case rest =>
  clear HC2; try clear c2
  try clear p2
  try clear c3
  try clear c3b0
  try clear c3b1
  try clear c4
  try clear c4b0
  try clear c4b1
  try clear c5
  try clear c5b0
  try clear c5b1
  try clear c6
  try clear c6b0
  try clear c6b1
  obtain ⟨kq, x23_1, rfl, HA, HJ1, ⟨mc1, rfl⟩⟩ := hcut
  cases kq with
  | zero => exact absurd HA.out (by simp [qbm_.j0])
  | succ kj1 =>
   have H := HA.out; clear HA; simp only [qbm_.j0] at H; by_cases c7 : x23_1 = true
   ·subst c7; rw [if_pos rfl] at H; obtain rfl := oi_ H; go_wp2
    go_ret
    exact ⟨z1_, z2_⟩
   replace c7 := Bool.eq_false_iff.mpr c7; subst c7; rw [if_neg nft_] at H; have H' := qa_.mk H; clear H; go_wp2
   go_loopg [26] kj1 (fun kq v26 w' => ∃ (x26_2 : Int), v26 = .int .i64 x26_2 ∧ qa_ (qbm_.l0 kq a0 (a0.size : Int) x26_2 = some r) ∧ qa_ (kq ≤ kj1) ∧ Drawn0 w w')
   case atStart => exact ⟨(0), z1_, H', ⟨Nat.le_refl _⟩, z2_⟩
   case round =>
    clear H'; try clear c1
    try clear c2
    try clear p2
    try clear c3
    try clear c3b0
    try clear c3b1
    try clear c4
    try clear c4b0
    try clear c4b1
    try clear c5
    try clear c5b0
    try clear c5b1
    try clear c6
    try clear c6b0
    try clear c6b1
    try clear c7
    try clear p2
    obtain ⟨x26_2, rfl, HA, HK2, ⟨m2, rfl⟩⟩ := hrel
    cases gk with
    | zero => exact absurd HA.out (by simp [qbm_.l0])
    | succ k2 =>
     have H := HA.out; clear HA; simp only [qbm_.l0] at H; by_cases c8 : x26_2 < (a0.size : Int); rotate_left
     ·rw [if_neg c8] at H; have c8b0 := df_ c8; clear c8; obtain rfl := oi_ H; go_wp2
      go_ret
      exact ⟨z1_, z2_⟩
     rw [if_pos c8] at H; have c8b0 := dt_ c8; clear c8; by_cases c9 : 0 ≤ x26_2; rotate_left
     ·rw [if_neg c9] at H; exact no_ H
     rw [if_pos c9] at H; have c9b0 := dt_ c9; clear c9; by_cases c10 : x26_2 < (a0.size : Int); rotate_left
     ·rw [if_neg c10] at H; exact no_ H
     rw [if_pos c10] at H; have c10b0 := dt_ c10; clear c10; by_cases c12 : (bt a0 x26_2) < 32
     ·rw [if_pos c12] at H; have c12b0 := dt_ c12; clear c12; obtain rfl := oi_ H; have p11 : 0 ≤ (x26_2 : Int) := y0_; have q11 : x26_2 < (a0.size : Int) := y0_; have hx11 := bt_at a0 x26_2; replace p11 := eq_true p11; replace q11 := eq_true q11; go_wp2
      go_ret
      exact ⟨z1_, z2_⟩
     rw [if_neg c12] at H; have c12b0 := df_ c12; clear c12; have H' := qa_.mk H; clear H; have p11 : 0 ≤ (x26_2 : Int) := y0_; have q11 : x26_2 < (a0.size : Int) := y0_; have hx11 := bt_at a0 x26_2; replace p11 := eq_true p11; replace q11 := eq_true q11; go_wp2
     go_roundg k2
     case measure => have := HJ1.out; have := HK2.out; omega
     case rel => exact ⟨(wrap64 (x26_2 + 1)), z1_, H', ⟨by have := HJ1.out; have := HK2.out; omega⟩, z2_⟩
mutual
def qcd_.j0 : Nat → ByteArray → Bool → Option (Bool)
 | 0, _, _ => none
 | k + 1, x0, x12 => if x12 = true then (some false) else ((qdw_.f x0 ⟨#[47]⟩).bind fun t107 => (qcd_.l0 k t107 t107 (t107.length : Int) 0))
def qcd_.l0 : Nat → List ByteArray → List ByteArray → Int → Int → Option (Bool)
 | 0, _, _, _, _ => none
 | k + 1, x3, x15, x16, x17 => if x17 < x16 then (if 0 ≤ x17 then (if x17 < (x15.length : Int) then ((qbm_.f k (rdOf ByteArray.empty x15 x17)).bind fun t111 => (if t111 = true then (qcd_.l0 k x3 x15 x16 (wrap64 (x17 + 1))) else (some false))) else (none)) else (none)) else (some (decide ((x3.length : Int) ≤ 16)))
end
def qcd_.f (k : Nat) (a0 : ByteArray) : Option (Bool) := if a0.toList = ([] : List UInt8) then (qcd_.j0 k a0 true) else (qcd_.j0 k a0 (decide ((a0.size : Int) > 255)))
theorem qcd_.mono_l : ∀ k, (∀ y0 y1, LeO (qcd_.j0 k y0 y1) (qcd_.j0 (k + 1) y0 y1)) ∧ (∀ y0 y1 y2 y3, LeO (qcd_.l0 k y0 y1 y2 y3) (qcd_.l0 (k + 1) y0 y1 y2 y3))
 | 0 => ⟨fun _ _ r h => by simp [qcd_.j0] at h, fun _ _ _ _ r h => by simp [qcd_.l0] at h⟩
 | k + 1 => by
  obtain ⟨ih0, ih1⟩ := qcd_.mono_l k
  refine ⟨?_, ?_⟩
  ·intro y0 y1
   unfold qcd_.j0
   have m0_ := @ih0
   have m1_ := @ih1
   have m2_ := @qbm_.mono
   exact mz_
  ·intro y0 y1 y2 y3
   unfold qcd_.l0
   have m0_ := @ih0
   have m1_ := @ih1
   have m2_ := @qbm_.mono
   exact mz_
theorem qcd_.mono : ∀ a0 k, LeO (qcd_.f k a0) (qcd_.f (k + 1) a0) := by
 intro a0 k; obtain ⟨ih0, ih1⟩ := qcd_.mono_l k; unfold qcd_.f; have m0_ := @ih0; have m1_ := @ih1; have m2_ := @qbm_.mono; exact mz_
theorem qcd_.calls (k : Nat) (a0 : ByteArray) (r : Bool) (w : World) (h : qcd_.f k a0 = some r) :
  Calls Tryz.prog 156 #[.string a0] w fun e w' => e = .returned (.bool r) ∧ Below w.heap.size w w' := by
 have HB := qa_.mk (Below.refl w.heap.size w); unfold qcd_.f at h; have H := h; clear h; have HC2 := qa_.mk H; clear H; go_enter func156, ntmps156; go_upto_region 1 with (fail)
 go_cut [12] (fun v12 wc => ∃ (kq : Nat) (x12_1 : Bool), v12 = .bool x12_1 ∧ qa_ (qcd_.j0 kq a0 x12_1 = some r) ∧ qa_ (kq ≤ k) ∧ qa_ (Below w.heap.size w wc))
 case first =>
  have H := HC2.out; clear HC2; by_cases c3 : a0.toList = ([] : List UInt8)
  ·rw [if_pos c3] at H; have c3b0 := et_ c3; have c3b1 := nf_ c3; clear c3; (first | rw [c3b0] | (simp only [i64_w, i32_w]; rw [c3b0]) | skip); have H' := qa_.mk H; clear H; go_wp2
   go_meet
   case rel => exact ⟨_, (true), z1_, H', ⟨z4_⟩, ⟨hb_ HB.out⟩⟩
  rw [if_neg c3] at H; have c3b0 := ef_ c3; have c3b1 := nt_ c3; (first | rw [c3b0] | (simp only [i64_w, i32_w]; rw [c3b0]) | skip); have H' := qa_.mk H; clear H; go_wp2
  go_meet
  case rel => exact ⟨_, (decide ((a0.size : Int) > 255)), z1_, H', ⟨z4_⟩, ⟨hb_ HB.out⟩⟩
 case rest =>
  clear HC2; try clear c1
  try clear p2
  try clear c3
  try clear c3b0
  try clear c3b1
  obtain ⟨kq, x12_1, rfl, HA, HJ1, HB⟩ := hcut
  cases kq with
  | zero => exact absurd HA.out (by simp [qcd_.j0])
  | succ kj1 =>
   have H := HA.out; clear HA; simp only [qcd_.j0] at H; by_cases c4 : x12_1 = true
   ·subst c4; rw [if_pos rfl] at H; obtain rfl := oi_ H; go_wp2
    go_ret
    exact ⟨z3_, hb_ HB.out⟩
   replace c4 := Bool.eq_false_iff.mpr c4; subst c4; rw [if_neg nft_] at H; obtain ⟨t107, A5, H⟩ := bx_ H; have H' := qa_.mk H; clear H; go_wp2_with (first | ((with_reducible refine qb_ (f := 200) rfl ?_); refine gl_ (some 14) func200 #[.string a0, .string ⟨#[47]⟩] ?_; (with_reducible refine (qdw_.calls a0 ⟨#[47]⟩ t107 _ A5.out).mono ?_); rintro e w6 ⟨v108, rfl, ho0, hb⟩; refine ⟨_, rfl, ?_⟩; have HO109 := qa_.mk (Kd.R_lower ho0 (qn_ (hb_ HB.out))); replace HB := ah_ HB hb; (try clear hb); (try clear hb2); (try clear hk); (try clear hi); (try clear ho0); obtain ⟨Ao7, co7, eo7⟩ := Kd.R_slice HO109.out; subst eo7)); go_loopg [17] kj1 (fun kq v17 w' => ∃ (x17_2 : Int), v17 = .int .i64 x17_2 ∧ qa_ (qcd_.l0 kq t107 t107 (t107.length : Int) x17_2 = some r) ∧ qa_ (kq ≤ kj1) ∧ qa_ (Kd.R Kd.string 9 w' w.heap.size (fun _ => True) (.slice Ao7 t107.length co7) t107) ∧ qa_ (Kd.R Kd.string 9 w' w.heap.size (fun _ => True) (.slice Ao7 t107.length co7) t107) ∧ qa_ (Below w.heap.size w w'))
   case atStart => exact ⟨(0), z1_, H', ⟨Nat.le_refl _⟩, ⟨by (with_reducible repeat (first | apply Kd.R_alloc | apply Kd.R_drewN | apply Kd.R_drew)); exact HO109.out⟩, ⟨by (with_reducible repeat (first | apply Kd.R_alloc | apply Kd.R_drewN | apply Kd.R_drew)); exact HO109.out⟩, ⟨hb_ HB.out⟩⟩
   case round =>
    clear H'; try clear c1
    try clear c2
    try clear p2
    try clear c3
    try clear c3b0
    try clear c3b1
    try clear c4
    try clear p2
    obtain ⟨x17_2, rfl, HA, HK2, HO_3, HO_15, HB⟩ := hrel
    cases gk with
    | zero => exact absurd HA.out (by simp [qcd_.l0])
    | succ k2 =>
     have H := HA.out; clear HA; simp only [qcd_.l0] at H; by_cases c8 : x17_2 < (t107.length : Int); rotate_left
     ·rw [if_neg c8] at H; have c8b0 := df_ c8; clear c8; obtain rfl := oi_ H; go_wp2
      go_ret
      exact ⟨z3_, hb_ HB.out⟩
     rw [if_pos c8] at H; have c8b0 := dt_ c8; clear c8; by_cases c9 : 0 ≤ x17_2; rotate_left
     ·rw [if_neg c9] at H; exact no_ H
     rw [if_pos c9] at H; have c9b0 := dt_ c9; clear c9; by_cases c10 : x17_2 < (t107.length : Int); rotate_left
     ·rw [if_neg c10] at H; exact no_ H
     rw [if_pos c10] at H; have c10b0 := dt_ c10; clear c10; obtain ⟨t111, A11, H⟩ := bx_ H; by_cases c12 : t111 = true; rotate_left
     ·replace c12 := Bool.eq_false_iff.mpr c12; subst c12; rw [if_neg nft_] at H; obtain rfl := oi_ H; have p110 : 0 ≤ (x17_2 : Int) := y0_; have q110 : x17_2 < (t107.length : Int) := y0_; obtain ⟨ad110, e110, hx110_0⟩ := Kd.at_string (Kd.R_reads' HO_15.out).2.2 x17_2 p110 q110
      cases e110
      replace p110 := eq_true p110; replace q110 := eq_true q110; go_wp2_with (first | ((with_reducible refine qb_ (f := 201) rfl ?_); refine gl_ (some 22) func201 #[.string (rdOf ByteArray.empty t107 x17_2)] ?_; refine cm_ (qbm_.calls k2 (rdOf ByteArray.empty t107 x17_2) false _ A11.out) ?_; rintro w' ⟨nd, rfl⟩)); go_ret
      exact ⟨z3_, hb_ HB.out⟩
     subst c12; rw [if_pos rfl] at H; have H' := qa_.mk H; clear H; have p110 : 0 ≤ (x17_2 : Int) := y0_; have q110 : x17_2 < (t107.length : Int) := y0_; obtain ⟨ad110, e110, hx110_0⟩ := Kd.at_string (Kd.R_reads' HO_15.out).2.2 x17_2 p110 q110
     cases e110
     replace p110 := eq_true p110; replace q110 := eq_true q110; go_wp2_with (first | ((with_reducible refine qb_ (f := 201) rfl ?_); refine gl_ (some 22) func201 #[.string (rdOf ByteArray.empty t107 x17_2)] ?_; refine cm_ (qbm_.calls k2 (rdOf ByteArray.empty t107 x17_2) true _ A11.out) ?_; rintro w' ⟨nd, rfl⟩)); go_roundg k2
     case measure => have := HJ1.out; have := HK2.out; omega
     case rel => exact ⟨(wrap64 (x17_2 + 1)), z1_, H', ⟨by have := HJ1.out; have := HK2.out; omega⟩, ⟨z15_⟩, ⟨by (with_reducible repeat (first | apply Kd.R_alloc | apply Kd.R_drewN | apply Kd.R_drew)); exact HO_15.out⟩, ⟨hb_ HB.out⟩⟩
theorem qbw_ {x : Int} (h0 : -9223372036854775808 ≤ x) (h1 : x ≤ 9223372036854775807) : wrap64 x = x := by unfold wrap64; omega
theorem rd_ext (l : List ByteArray) (i : Nat) (h : i < l.length) : rdOf ByteArray.empty l i = l[i] := by
  simp [rdOf, List.getD, List.getElem?_eq_getElem h]
theorem qei_ {a b : ByteArray} (h : a.data.toList = b.data.toList) : a = b := by
  cases a; cases b; simp at h; simp [h]
theorem qdr_ (a b : ByteArray) : (a ++ b).data.toList = a.data.toList ++ b.data.toList := by simp
theorem bt_get (s : ByteArray) (i : Nat) (h : i < s.size) : bt s i = ((s.data.toList[i]'(by rw [← Lib.size_eq]; exact h)).toNat : Int) := by
  unfold bt
  simp only [Int.toNat_natCast]
  rw [dif_pos h]
  rfl
end Go.Proofs.YtbhfbbfjdklfgaaGreatDoor.Q
namespace Go.Proofs.YtbhfbbfjdklfgaaGreatDoor.Q
open Go.Proofs.Tryz Go.RowKit Go.Proofs.YtbhfbbfjdklfgaaGreatDoorW.PrintWords Go.Proofs.YtbhfbbfjdklfgaaGreatDoorW.PrintLast
def qcv_.f (a0 : ByteArray) (a1 : Int) : Option Int := some (Lib.indexByte a0.data.toList a1.toNat.toUInt8)
theorem qcv_.calls (a0 : ByteArray) (a1 : Int) (r : Int) (w : World) (h : qcv_.f a0 a1 = some r) :
    Calls Tryz.prog 167 #[.string a0, .int .u8 a1] w fun e w' => e = .returned (.int .i64 r) ∧ Drawn0 w w' := by
  unfold qcv_.f at h
  obtain rfl := Option.some.inj h
  refine (Tryz.strings_IndexByte a0 a1 w).mono ?_
  rintro e w' ⟨rfl, rfl⟩
  exact ⟨rfl, Drawn0.refl _⟩
def qbv_.f (a0 : ByteArray) : Option (Int × Option Int) := if a0.size ≤ 18 then (Lib.atoi a0.data.toList).bind fun n => some (n, none) else none
theorem qbv_.calls (a0 : ByteArray) (r1 : Int) (r2 : Option Int) (w : World) (h : qbv_.f a0 = some (r1, r2)) :
    Calls Tryz.prog 145 #[.string a0] w fun e w' => e = .returned (.tuple #[.int .i64 r1, errW r2]) ∧ Below w.heap.size w w' := by
  unfold qbv_.f at h
  split at h
  · rename_i hl
    obtain ⟨n, hn, h2⟩ := Option.bind_eq_some_iff.1 h
    obtain ⟨rfl, rfl⟩ := Prod.mk.inj (Option.some.inj h2)
    refine (Tryz.strconv_Atoi a0 n hl hn w).mono ?_
    rintro e w' ⟨rfl, t, rfl⟩
    exact ⟨rfl, Lib.bytesWorld_below _ _ _⟩
  · cases h
end Go.Proofs.YtbhfbbfjdklfgaaGreatDoor.Q
namespace Go.Proofs.YtbhfbbfjdklfgaaGreatDoor.Q
open Go.Proofs.Tryz Go.RowKit Go.Proofs.YtbhfbbfjdklfgaaGreatDoorW.PrintWords Go.Proofs.YtbhfbbfjdklfgaaGreatDoorW.PrintLast Go.Proofs.YtbhfbbfjdklfgaaGreatDoorW.PrintMore
attribute [local go_sem] qec_ qef_ qen_ qeo_ qdt_ qdu_ qdz_ qee_
def qej_.f (a0 : Int) : Option (Int) := (qcv_.f ⟨#[48, 49, 50, 51, 52, 53, 54, 55, 56, 57, 97, 98, 99, 100, 101, 102]⟩ a0).bind fun t101 => (some t101)
theorem qej_.calls (a0 : Int) (r : Int) (w : World) (h : qej_.f a0 = some r) :
  Calls Tryz.prog 181 #[.int .u8 a0] w fun e w' => e = .returned (.int .i64 r) ∧ Drawn0 w w' := by
 unfold qej_.f at h; have H := h; clear h; obtain ⟨t101, A2, H⟩ := bx_ H; obtain rfl := oi_ H; go_enter func181, ntmps181; go_wp2_with (first | ((with_reducible refine qb_ (f := 167) rfl ?_); refine gl_ (some 4) func167 #[.string ⟨#[48, 49, 50, 51, 52, 53, 54, 55, 56, 57, 97, 98, 99, 100, 101, 102]⟩, .int .u8 a0] ?_; refine cm_ (qcv_.calls ⟨#[48, 49, 50, 51, 52, 53, 54, 55, 56, 57, 97, 98, 99, 100, 101, 102]⟩ a0 t101 _ A2.out) ?_; rintro w' ⟨nd, rfl⟩)); go_ret
 exact ⟨z1_, z2_⟩
def qcb_.l0 : Nat → ByteArray → Int → Int → Option (Bool)
 | 0, _, _, _ => none
 | k + 1, x0, x5, x6 => if x6 < x5 then (if 0 ≤ x6 then (if x6 < (x0.size : Int) then ((qej_.f (bt x0 x6)).bind fun t102 => (if t102 < 0 then (some false) else (qcb_.l0 k x0 x5 (wrap64 (x6 + 1))))) else (none)) else (none)) else (some true)
def qcb_.f (k : Nat) (a0 : ByteArray) : Option (Bool) := qcb_.l0 k a0 (a0.size : Int) 0
theorem qcb_.mono_l : ∀ k, (∀ y0 y1 y2, LeO (qcb_.l0 k y0 y1 y2) (qcb_.l0 (k + 1) y0 y1 y2))
 | 0 => fun _ _ _ r h => by simp [qcb_.l0] at h
 | k + 1 => by
  have ih0 := qcb_.mono_l k
  ·intro y0 y1 y2
   unfold qcb_.l0
   have m0_ := @ih0
   exact mz_
theorem qcb_.mono : ∀ a0 k, LeO (qcb_.f k a0) (qcb_.f (k + 1) a0) := by
 intro a0 k; have ih0 := qcb_.mono_l k; unfold qcb_.f; have m0_ := @ih0; exact mz_
theorem qcb_.calls (k : Nat) (a0 : ByteArray) (r : Bool) (w : World) (h : qcb_.f k a0 = some r) :
  Calls Tryz.prog 137 #[.string a0] w fun e w' => e = .returned (.bool r) ∧ Drawn0 w w' := by
 unfold qcb_.f at h; have H := h; clear h; have H' := qa_.mk H; clear H; go_enter func137, ntmps137; go_wp2
 go_loopg [6] k (fun kq v6 w' => ∃ (x6_1 : Int), v6 = .int .i64 x6_1 ∧ qa_ (qcb_.l0 kq a0 (a0.size : Int) x6_1 = some r) ∧ qa_ (kq ≤ k) ∧ Drawn0 w w')
 case atStart => exact ⟨(0), z1_, H', ⟨Nat.le_refl _⟩, z2_⟩
 case round =>
  clear H'; try clear c1
  obtain ⟨x6_1, rfl, HA, HK1, ⟨m1, rfl⟩⟩ := hrel
  cases gk with
  | zero => exact absurd HA.out (by simp [qcb_.l0])
  | succ k1 =>
   have H := HA.out; clear HA; simp only [qcb_.l0] at H; by_cases c2 : x6_1 < (a0.size : Int); rotate_left
   ·rw [if_neg c2] at H; have c2b0 := df_ c2; clear c2; obtain rfl := oi_ H; go_wp2
    go_ret
    exact ⟨z1_, z2_⟩
   rw [if_pos c2] at H; have c2b0 := dt_ c2; clear c2; by_cases c3 : 0 ≤ x6_1; rotate_left
   ·rw [if_neg c3] at H; exact no_ H
   rw [if_pos c3] at H; have c3b0 := dt_ c3; clear c3; by_cases c4 : x6_1 < (a0.size : Int); rotate_left
   ·rw [if_neg c4] at H; exact no_ H
   rw [if_pos c4] at H; have c4b0 := dt_ c4; clear c4; obtain ⟨t102, A6, H⟩ := bx_ H; by_cases c7 : t102 < 0
   ·rw [if_pos c7] at H; have c7b0 := dt_ c7; clear c7; obtain rfl := oi_ H; have p5 : 0 ≤ (x6_1 : Int) := y0_; have q5 : x6_1 < (a0.size : Int) := y0_; have hx5 := bt_at a0 x6_1; replace p5 := eq_true p5; replace q5 := eq_true q5; go_wp2_with (first | ((with_reducible refine qb_ (f := 181) rfl ?_); refine gl_ (some 12) func181 #[.int .u8 (bt a0 x6_1)] ?_; refine cm_ (qej_.calls (bt a0 x6_1) t102 _ A6.out) ?_; rintro w' ⟨nd, rfl⟩)); go_ret
    exact ⟨z1_, z2_⟩
   rw [if_neg c7] at H; have c7b0 := df_ c7; clear c7; have H' := qa_.mk H; clear H; have p5 : 0 ≤ (x6_1 : Int) := y0_; have q5 : x6_1 < (a0.size : Int) := y0_; have hx5 := bt_at a0 x6_1; replace p5 := eq_true p5; replace q5 := eq_true q5; go_wp2_with (first | ((with_reducible refine qb_ (f := 181) rfl ?_); refine gl_ (some 12) func181 #[.int .u8 (bt a0 x6_1)] ?_; refine cm_ (qej_.calls (bt a0 x6_1) t102 _ A6.out) ?_; rintro w' ⟨nd, rfl⟩)); go_roundg k1
   case measure => have := HK1.out; omega
   case rel => exact ⟨(wrap64 (x6_1 + 1)), z1_, H', ⟨by have := HK1.out; omega⟩, z2_⟩
def qck_.f (k : Nat) (a0 : ByteArray) : Option (Bool) := if (a0.size : Int) = 40 then ((qcb_.f k a0).bind fun t103 => (some t103)) else (some false)
theorem qck_.mono : ∀ a0 k, LeO (qck_.f k a0) (qck_.f (k + 1) a0) := by
 intro a0 k; unfold qck_.f; have m0_ := @qcb_.mono; exact mz_
theorem qck_.calls (k : Nat) (a0 : ByteArray) (r : Bool) (w : World) (h : qck_.f k a0 = some r) :
  Calls Tryz.prog 65 #[.string a0] w fun e w' => e = .returned (.bool r) ∧ Drawn0 w w' := by
 unfold qck_.f at h; have H := h; clear h; by_cases c2 : (a0.size : Int) = 40; rotate_left
 ·rw [if_neg c2] at H; have c2b0 := ef_ c2; have c2b1 := nt_ c2; obtain rfl := oi_ H; go_enter func65, ntmps65; go_wp2
  go_ret
  exact ⟨z1_, z2_⟩
 rw [if_pos c2] at H; have c2b0 := et_ c2; have c2b1 := nf_ c2; clear c2; obtain ⟨t103, A3, H⟩ := bx_ H; obtain rfl := oi_ H; go_enter func65, ntmps65; go_wp2_with (first | (go_at_call 137; (with_reducible refine (qcb_.calls k a0 t103 _ A3.out).mono ?_); rintro e w' ⟨rfl, ⟨nd, rfl⟩⟩)); go_ret
 exact ⟨z1_, z2_⟩
end Go.Proofs.YtbhfbbfjdklfgaaGreatDoor.Q
namespace Go.Proofs.YtbhfbbfjdklfgaaGreatDoor.Q
open Go.Proofs.Tryz Go.RowKit Go.Lib Go.Proofs.YtbhfbbfjdklfgaaGreatDoorW.PrintWords Go.Proofs.YtbhfbbfjdklfgaaGreatDoorW.PrintLast Go.Proofs.YtbhfbbfjdklfgaaGreatDoorW.PrintMore
section
variable {P : Program}
end
theorem qgj_ {α : Type} {R : α → List Value → Prop} {size : Nat} {ps qs : List α} {cs ds : List Value} (h : Reps R size ps cs) (k : Reps R size qs ds) : Reps R size (ps ++ qs) (cs ++ ds) := by
  refine ⟨by rw [List.length_append, List.length_append, h.1, k.1, Nat.add_mul], fun j p hj => ?_⟩
  rcases Nat.lt_or_ge j ps.length with hlt | hge
  · rw [List.getElem?_append_left hlt] at hj
    have hle : j * size + size ≤ cs.length := by rw [h.1, ← Nat.succ_mul]; exact Nat.mul_le_mul_right _ hlt
    rw [List.drop_append_of_le_length (by omega), List.take_append_of_le_length (by rw [List.length_drop]; omega)]
    exact h.2 j p hj
  · rw [List.getElem?_append_right hge] at hj
    have e : j * size = cs.length + (j - ps.length) * size := by rw [h.1, ← Nat.add_mul]; congr 1; omega
    rw [e, List.drop_append, List.drop_of_length_le (by omega : cs.length ≤ cs.length + (j - ps.length) * size), List.nil_append]
    rw [show cs.length + (j - ps.length) * size - cs.length = (j - ps.length) * size by omega]
    exact k.2 _ p hj
section
variable {P : Program} {ops : Array Oper} {rest : List Oper} {o : Oper} {a : Act} {Q : Exit → Act → World → Prop} {α : Type}
theorem R_makecap (d : Kd α) {w0 W : World} (base e : Nat) (hgd : o.guard = none) {N : Tmp} (_hd : o.dst = some N) (t : TypeId) (x y : Operand) (ho : o.op = .makeSlice t x y) (n : Int) (hx : a.eval x = .int .i64 0) (hy : a.eval y = .int .i64 n)
    (ht : P.underlying t = some (.slice e)) (z : Value) (bytes : Nat) (hinfo : (P.info? e).map (fun i => (i.zero, i.size, i.bytes)) = some (some z, d.sz, bytes)) (hz : z.cells.size = d.sz) (hb0 : 0 < bytes)
    {ok : Nat → Prop} (hfresh : ok W.heap.size) (h0 : 0 ≤ n) (hl : n.toNat * bytes ≤ 281474976710656) (HB : Below base w0 W) (hbase : base ≤ W.heap.size)
    (h : ∀ v1 w1, d.R e w1 base ok v1 [] → Below base w0 w1 → W.grownBy w1 none → (∃ b, v1.ownBlock = some b ∧ W.heap.size ≤ b) → wpList P ops Q rest (a.put o.dst v1) w1) : wpList P ops Q (o :: rest) a W := by
  obtain ⟨m, rfl⟩ := Int.eq_ofNat_of_zero_le h0
  simp only [Int.toNat_natCast] at hl
  obtain ⟨i0, hi, hzz⟩ := Option.map_eq_some_iff.1 hinfo
  simp only [Prod.mk.injEq] at hzz
  obtain ⟨hz0, hz1, hz2⟩ := hzz
  have hm : m ≤ 281474976710656 := Nat.le_trans (Nat.le_mul_of_pos_right _ hb0) hl
  have hr := run_make (P := P) W t e i0 z ht hi hz0 .i64 .i64 0 (m : Int) (by omega) (by omega)
    (by
      have h3 : ((i0.bytes * m : Nat) : Int) ≤ 281474976710656 := by rw [hz2, Nat.mul_comm]; omega
      rwa [Int.natCast_mul] at h3) (by omega)
  simp only [Int.toNat_natCast] at hr
  rw [hz1] at hr
  refine Kd.event_run hgd (v := .slice (some ⟨W.heap.size, 0, none⟩) 0 m) (w1 := W.alloc (.cells (madeCells z.cells (m * d.sz)) e)) (by simp [execOp, ho, hx, hy, hr]) (h _ _ ⟨fun k hk => ?_, [], ?_, ⟨by simp, fun j p hj => by simp at hj⟩⟩ (HB.alloc hbase _) (World.grownBy_alloc W _ none) ⟨W.heap.size, by simp [Value.ownBlock], Nat.le_refl _⟩)
  · have : W.heap.size = k := by simpa [Value.ownBlock] using hk
    subst this
    exact hfresh
  · exact World.ownsRow_made W (madeCells z.cells (m * d.sz)) m hbase (by unfold maxLen; omega) (by simp [madeCells])
end
section
variable {P : Program} {ops : Array Oper} {o : Oper} {a : Act} {Q : Exit → Act → World → Prop} {Kc : Act → World → Prop}
end
end Go.Proofs.YtbhfbbfjdklfgaaGreatDoor.Q
namespace Go.Proofs.YtbhfbbfjdklfgaaGreatDoor.Q
open Go.Proofs.Tryz Go.RowKit Go.Proofs.YtbhfbbfjdklfgaaGreatDoorW.PrintWords Go.Proofs.YtbhfbbfjdklfgaaGreatDoorW.PrintLast Go.Proofs.YtbhfbbfjdklfgaaGreatDoorW.PrintMore
attribute [local go_sem] qec_ qef_ qen_ qeo_ qdt_ qdu_ qdz_ qee_
def qbn_.l0 : Nat → ByteArray → List Int → Int → Int → Option (ByteArray)
 | 0, _, _, _, _ => none
 | k + 1, x0, x3, x10, x11 => if x11 < x10 then (if 0 ≤ x11 then (if x11 < (x0.size : Int) then (if 0 ≤ ((bt x0 x11) / 16) then (if ((bt x0 x11) / 16) < 16 then (if 0 ≤ (Go.bits .and .u8 (bt x0 x11) 15) then (if (Go.bits .and .u8 (bt x0 x11) 15) < 16 then ((some (([bt ⟨#[48, 49, 50, 51, 52, 53, 54, 55, 56, 57, 97, 98, 99, 100, 101, 102]⟩ ((bt x0 x11) / 16), bt ⟨#[48, 49, 50, 51, 52, 53, 54, 55, 56, 57, 97, 98, 99, 100, 101, 102]⟩ (Go.bits .and .u8 (bt x0 x11) 15)] : List Int) : List Int)).bind fun y184 => (if x3.length + y184.length < 140737488355328 then (qbn_.l0 k x0 (x3 ++ y184) x10 (wrap64 (x11 + 1))) else (none))) else (none)) else (none)) else (none)) else (none)) else (none)) else (none)) else (some (strOfNums x3))
def qbn_.f (k : Nat) (a0 : ByteArray) : Option (ByteArray) := if 0 ≤ (wrap64 (2 * (a0.size : Int))) then (if (wrap64 (2 * (a0.size : Int)) : Int).toNat ≤ 281474976710656 then (qbn_.l0 k a0 (([] : List Int)) (a0.size : Int) 0) else (none)) else (none)
theorem qbn_.mono_l : ∀ k, (∀ y0 y1 y2 y3, LeO (qbn_.l0 k y0 y1 y2 y3) (qbn_.l0 (k + 1) y0 y1 y2 y3))
 | 0 => fun _ _ _ _ r h => by simp [qbn_.l0] at h
 | k + 1 => by
  have ih0 := qbn_.mono_l k
  ·intro y0 y1 y2 y3
   unfold qbn_.l0
   have m0_ := @ih0
   exact mz_
theorem qbn_.mono : ∀ a0 k, LeO (qbn_.f k a0) (qbn_.f (k + 1) a0) := by
 intro a0 k; have ih0 := qbn_.mono_l k; unfold qbn_.f; have m0_ := @ih0; exact mz_
def qbn_.T5 : Bool × List (List Nat × List Nat) := (true, [([], []), ([], []), ([], []), ([1, 2], [1, 2]), ([3], [3]), ([4], [4]), ([], []), ([], []), ([6, 7], [6, 7]), ([8], [8]), ([9], [9]), ([5, 10], [5, 10]), ([0, 11], [0, 11]), ([12, 12, 0, 1, 2, 3, 4, 5, 6, 7, 8, 9, 10, 11, 12], [0, 12])])
def qbn_.B5 : List Nat := [0, 0, 0, 6, 14, 30, 0, 0, 192, 448, 960, 2046, 4095, 8191]
theorem qbn_.tab5 : rtab .any (opsOf Tryz.f149 5) = qbn_.T5 := by kernel_rfl
theorem qbn_.bits5 : qdi_ qbn_.T5.2 qbn_.B5 = true := by kernel_rfl
theorem qbn_.calls (k : Nat) (a0 : ByteArray) (r : ByteArray) (w : World) (h : qbn_.f k a0 = some r) :
  Calls Tryz.prog 149 #[.string a0] w fun e w' => e = .returned (.string r) ∧ Below w.heap.size w w' := by
 have HB := qa_.mk (Below.refl w.heap.size w); unfold qbn_.f at h; have H := h; clear h; obtain ⟨ji2, hji2⟩ : ∃ j_ : Int, (wrap64 (2 * (a0.size : Int))) = j_ := ⟨_, rfl⟩; replace H : (if 0 ≤ (ji2) then (if (ji2 : Int).toNat ≤ 281474976710656 then (qbn_.l0 k a0 (([] : List Int)) (a0.size : Int) 0) else (none)) else (none)) = some r := by first | (rw [hji2] at H; exact H) | (simp only [hji2] at H ⊢; exact H)
 have hji2w : (IntKind.i64.wrap (2 * (a0.size : Int))) = ji2 := (i64_w _).trans hji2; by_cases c3 : 0 ≤ (ji2); rotate_left
 ·rw [if_neg c3] at H; exact no_ H
 rw [if_pos c3] at H; have c3b0 := eq_true c3; have c3b1 := dt_ c3; clear c3; by_cases c4 : (ji2 : Int).toNat ≤ 281474976710656; rotate_left
 ·rw [if_neg c4] at H; exact no_ H
 rw [if_pos c4] at H; have c4b0 := eq_true c4; have c4b1 := dt_ c4; clear c4; obtain ⟨y181, hy181⟩ : ∃ y_ : List Int, y_ = (([] : List Int)) := ⟨_, rfl⟩; replace H : (qbn_.l0 k a0 y181 (a0.size : Int) 0) = some r := by first | (rw [hy181]; with_reducible exact H) | (have H2_ := (Option.bind_some _ _).symm.trans H; rw [hy181]; with_reducible exact H2_) | (have H2_ := (Option.bind_some _ _).symm.trans H; with_reducible exact H2_) | with_reducible exact H | (rw [hy181]; exact H) | exact H
 have Ny181 := qa_.mk hy181; clear hy181; have H' := qa_.mk H; clear H; go_enter func149, ntmps149; go_wp2_with (first | ((with_reducible refine qk_ (N := 8) rfl ?_); refine R_makecap (Kd.int .u8) _ 5 rfl (N := 8) rfl 103 _ _ rfl ji2 rfl rfl underlying103 (.int .u8 0) 1 info5 rfl (by decide) (ok := fun _ => True) trivial (y0_) (Nat.le_trans (Nat.mul_le_mul_right _ (y0_ : ji2.toNat ≤ 281474976710656)) (by omega)) (Below.refl _ _) (Nat.le_refl _) ?_; intro v182 w5 ho6 hb hg_ hnew_; clear hg_ hnew_; (first | rw [← Ny181.out] at ho6 | (simp only [Int.reduceToNat] at ho6; rw [← Ny181.out] at ho6)); have HO183 := qa_.mk (Kd.R_lower ho6 (qn_ (hb_ HB.out))); replace HB := ah_ HB hb; clear hb ho6)); go_loopg [3, 11] k (fun kq v3 v11 w' => ∃ (x3_1 : List Int) (x11_1 : Int), v11 = .int .i64 x11_1 ∧ qa_ (qbn_.l0 kq a0 x3_1 (a0.size : Int) x11_1 = some r) ∧ qa_ (kq ≤ k) ∧ qa_ (Kd.R (Kd.int .u8) 5 w' w.heap.size (fun _ => True) v3 x3_1) ∧ qa_ (Below w.heap.size w w'))
 case atStart => exact ⟨(y181), (0), z1_, H', ⟨Nat.le_refl _⟩, ⟨by (with_reducible repeat (first | apply Kd.R_alloc | apply Kd.R_drewN | apply Kd.R_drew)); exact HO183.out⟩, ⟨hb_ HB.out⟩⟩
 case round =>
  clear H'; try clear c1
  try clear p2
  try clear c3
  try clear c3b0
  try clear c3b1
  try clear c4
  try clear c4b0
  try clear c4b1
  try clear p6
  obtain ⟨x3_1, x11_1, rfl, HA, HK1, HO_3, HB⟩ := hrel
  cases gk with
  | zero => exact absurd HA.out (by simp [qbn_.l0])
  | succ k1 =>
   have H := HA.out; clear HA; simp only [qbn_.l0] at H; by_cases c7 : x11_1 < (a0.size : Int); rotate_left
   ·rw [if_neg c7] at H; have c7b0 := df_ c7; clear c7; obtain rfl := oi_ H; have hcv25 := own_string (P := Tryz.prog) underlying103 underlying5 underlying9 (Kd.own_of_R HO_3.out); go_wp2
    go_ret
    exact ⟨by first | rfl | (simp [qbi_, qbj_] <;> rfl) | (simp only [← hji2]; first | rfl | (simp [qbi_, qbj_] <;> rfl)) | (simp [*, qbi_, qbj_] <;> rfl) | (simp [qbq_]; done) | (simp [*, qbq_]; done), hb_ HB.out⟩
   rw [if_pos c7] at H; have c7b0 := dt_ c7; clear c7; by_cases c8 : 0 ≤ x11_1; rotate_left
   ·rw [if_neg c8] at H; exact no_ H
   rw [if_pos c8] at H; have c8b0 := dt_ c8; clear c8; by_cases c9 : x11_1 < (a0.size : Int); rotate_left
   ·rw [if_neg c9] at H; exact no_ H
   rw [if_pos c9] at H; have c9b0 := dt_ c9; clear c9; obtain ⟨ji11, hji11⟩ : ∃ j_ : Int, ((bt a0 x11_1) / 16) = j_ := ⟨_, rfl⟩; replace H : (if 0 ≤ (ji11) then (if (ji11) < 16 then (if 0 ≤ (Go.bits .and .u8 (bt a0 x11_1) 15) then (if (Go.bits .and .u8 (bt a0 x11_1) 15) < 16 then ((some (([bt ⟨#[48, 49, 50, 51, 52, 53, 54, 55, 56, 57, 97, 98, 99, 100, 101, 102]⟩ (ji11), bt ⟨#[48, 49, 50, 51, 52, 53, 54, 55, 56, 57, 97, 98, 99, 100, 101, 102]⟩ (Go.bits .and .u8 (bt a0 x11_1) 15)] : List Int) : List Int)).bind fun y184 => (if x3_1.length + y184.length < 140737488355328 then (qbn_.l0 k1 a0 (x3_1 ++ y184) (a0.size : Int) (wrap64 (x11_1 + 1))) else (none))) else (none)) else (none)) else (none)) else (none)) = some r := by first | (rw [hji11] at H; exact H) | (simp only [hji11] at H ⊢; exact H)
   by_cases c12 : 0 ≤ (ji11); rotate_left
   ·rw [if_neg c12] at H; exact no_ H
   rw [if_pos c12] at H; have c12b0 := dt_ c12; clear c12; by_cases c13 : (ji11) < 16; rotate_left
   ·rw [if_neg c13] at H; exact no_ H
   rw [if_pos c13] at H; have c13b0 := dt_ c13; clear c13; by_cases c16 : 0 ≤ (Go.bits .and .u8 (bt a0 x11_1) 15); rotate_left
   ·rw [if_neg c16] at H; exact no_ H
   rw [if_pos c16] at H; have c16b0 := dt_ c16; clear c16; by_cases c17 : (Go.bits .and .u8 (bt a0 x11_1) 15) < 16; rotate_left
   ·rw [if_neg c17] at H; exact no_ H
   rw [if_pos c17] at H; have c17b0 := dt_ c17; clear c17; obtain ⟨y184, hy184⟩ : ∃ y_ : List Int, y_ = (([bt ⟨#[48, 49, 50, 51, 52, 53, 54, 55, 56, 57, 97, 98, 99, 100, 101, 102]⟩ (ji11), bt ⟨#[48, 49, 50, 51, 52, 53, 54, 55, 56, 57, 97, 98, 99, 100, 101, 102]⟩ (Go.bits .and .u8 (bt a0 x11_1) 15)] : List Int)) := ⟨_, rfl⟩; replace H : (if x3_1.length + y184.length < 140737488355328 then (qbn_.l0 k1 a0 (x3_1 ++ y184) (a0.size : Int) (wrap64 (x11_1 + 1))) else (none)) = some r := by first | (rw [hy184]; with_reducible exact H) | (have H2_ := (Option.bind_some _ _).symm.trans H; rw [hy184]; with_reducible exact H2_) | (have H2_ := (Option.bind_some _ _).symm.trans H; with_reducible exact H2_) | with_reducible exact H | (rw [hy184]; exact H) | exact H
   have Ny184 := qa_.mk hy184; clear hy184; by_cases c19 : x3_1.length + y184.length < 140737488355328; rotate_left
   ·rw [if_neg c19] at H; exact no_ H
   rw [if_pos c19] at H; have LMc19 := qa_.mk c19; clear c19; obtain ⟨y187, hy187⟩ : ∃ y_ : List Int, y_ = (x3_1 ++ y184) := ⟨_, rfl⟩; replace H : (qbn_.l0 k1 a0 y187 (a0.size : Int) (wrap64 (x11_1 + 1))) = some r := by first | (rw [hy187]; with_reducible exact H) | (have H2_ := (Option.bind_some _ _).symm.trans H; rw [hy187]; with_reducible exact H2_) | (have H2_ := (Option.bind_some _ _).symm.trans H; with_reducible exact H2_) | with_reducible exact H | (rw [hy187]; exact H) | exact H
   have Ny187 := qa_.mk hy187; clear hy187; have H' := qa_.mk H; clear H; try go_wp2
   replace HO_3 := qa_.mk (Kd.R_drew HO_3.out); replace HB := hd_ HB; have p10 : 0 ≤ (x11_1 : Int) := y0_; have q10 : x11_1 < (a0.size : Int) := y0_; have hx10 := bt_at a0 x11_1; replace p10 := eq_true p10; replace q10 := eq_true q10; have p14 : 0 ≤ ((ji11) : Int) := y0_; have q14 : (ji11) < (16 : Int) := y0_; have hx14 := bt_at ⟨#[48, 49, 50, 51, 52, 53, 54, 55, 56, 57, 97, 98, 99, 100, 101, 102]⟩ (ji11); replace p14 := eq_true p14; replace q14 := eq_true q14; have p15 : 0 ≤ (x11_1 : Int) := y0_; have q15 : x11_1 < (a0.size : Int) := y0_; have hx15 := bt_at a0 x11_1; replace p15 := eq_true p15; replace q15 := eq_true q15; have p18 : 0 ≤ ((Go.bits .and .u8 (bt a0 x11_1) 15) : Int) := y0_; have q18 : (Go.bits .and .u8 (bt a0 x11_1) 15) < (16 : Int) := y0_; have hx18 := bt_at ⟨#[48, 49, 50, 51, 52, 53, 54, 55, 56, 57, 97, 98, 99, 100, 101, 102]⟩ (Go.bits .and .u8 (bt a0 x11_1) 15); replace p18 := eq_true p18; replace q18 := eq_true q18; refine qdl_ (n := 14) (S := fun w' => True) (ds := []) (bs 14 0) (by kernel_rfl) rfl rfl trivial (fun qal_ => ?_); refine qds_ qbn_.tab5 qbn_.bits5 (fun HT_ HW_ => ?_); generalize wr.drew = w20 at HO_3 HB qal_ ⊢; refine pun_ 0 14 14 1 ?_; refine pun_ 1 15 14 3 ?_; refine pun_ 2 16 14 7 ?_; refine pun_ 6 20 14 71 ?_; refine pun_ 7 21 14 199 ?_; refine tkW0n_ 3 17 14 207 qal_ ?_; refine pun_ 4 18 14 223 ?_; refine tkW0n_ 5 19 14 255 qal_ ?_; refine tkW0n_ 8 22 14 511 qal_ ?_; refine pun_ 9 23 14 1023 ?_; refine tkW0n_ 10 24 14 2047 qal_ ?_; refine on_ 11 25 14 4095 (fun K hK => ?_); refine Kd.R_lit_step (Kd.int .u8) _ 5 ?hg (N := 25) ?hd (xs := ([bt ⟨#[48, 49, 50, 51, 52, 53, 54, 55, 56, 57, 97, 98, 99, 100, 101, 102]⟩ (ji11), bt ⟨#[48, 49, 50, 51, 52, 53, 54, 55, 56, 57, 97, 98, 99, 100, 101, 102]⟩ (Go.bits .and .u8 (bt a0 x11_1) 15)] : List Int)) (inner := [.int .u8 (bt ⟨#[48, 49, 50, 51, 52, 53, 54, 55, 56, 57, 97, 98, 99, 100, 101, 102]⟩ (ji11)), .int .u8 (bt ⟨#[48, 49, 50, 51, 52, 53, 54, 55, 56, 57, 97, 98, 99, 100, 101, 102]⟩ (Go.bits .and .u8 (bt a0 x11_1) 15))]) (ok := fun _ => True) (okp := fun _ => True) ?hr ?hp (fun _ hk => hk) trivial (Below.refl _ _) (Nat.le_refl _) (by simp) ?_; (case hd => rfl); (case hg => rfl); (case hr => first | (go_simp; done) | (go_simp; rfl)); (case hp => exact (Reps.one (show Kd.M (Kd.int .u8) _ _ _ (bt ⟨#[48, 49, 50, 51, 52, 53, 54, 55, 56, 57, 97, 98, 99, 100, 101, 102]⟩ (ji11)) [.int .u8 (bt ⟨#[48, 49, 50, 51, 52, 53, 54, 55, 56, 57, 97, 98, 99, 100, 101, 102]⟩ (ji11))] from rfl) (Reps.one (show Kd.M (Kd.int .u8) _ _ _ (bt ⟨#[48, 49, 50, 51, 52, 53, 54, 55, 56, 57, 97, 98, 99, 100, 101, 102]⟩ (Go.bits .and .u8 (bt a0 x11_1) 15)) [.int .u8 (bt ⟨#[48, 49, 50, 51, 52, 53, 54, 55, 56, 57, 97, 98, 99, 100, 101, 102]⟩ (Go.bits .and .u8 (bt a0 x11_1) 15))] from rfl) (Reps.none _ _))))
   intro v185 w21 ho22 hb hg_ hnew_; clear hg_ hnew_; (first | rw [← Ny184.out] at ho22 | (simp only [Int.reduceToNat] at ho22; rw [← Ny184.out] at ho22)); have HO186 := qa_.mk (Kd.R_lower (Kd.R_new' ho22 (Kd.R_lt (rk_ HO_3.out))) (qn_ (hb_ HB.out))); replace HO_3 := qa_.mk (Kd.R_elder' (rk_ HO_3.out) (Kd.R_base ho22) hb); replace HB := ah_ HB hb; clear hb ho22; obtain ⟨Ao24, co24, eo24⟩ := Kd.R_slice HO186.out; (first | subst eo24 | (injection eo24 with f1_ f2_ f3_; have f4_ := f1_.symm; have f5_ := f3_.symm; clear f1_ f2_ f3_; subst f4_; subst f5_)); refine hK.out _ _ trivial (fun qal_ => ?_); clear hK K; refine norm_ (a' := ?_) ?_ ?_; rotate_left
   ·show Act.put _ (some 25) _ = _
    simp only [Act.put, List.setIfInBounds_toArray, List.set_cons_zero, List.set_cons_succ, i64_w, i32_w]; rfl
   refine on_ 12 26 14 8191 (fun K hK => ?_); refine Kd.R_append_rows_step (Kd.int .u8) (w0 := w) w.heap.size (by rfl) (.tmp 14) (.tmp 25) 103 5 (.int .u8 0) 1 rfl underlying103 info5 rfl (by decide) (by omega) u3 x3_1 y184 _ _ _ (fun k_ => some k_ ≠ (.slice Ao24 y184.length co24 : Value).ownBlock) (fun _ => False) rfl rfl ?aO ?aR (fun _ _ h => h) (fun _ h => h.elim) ?aF ?aB ?aS ?aL ?_; (case aR => repeat (first | exact (Kd.R_reads' HO186.out).2.2 | (with_reducible refine Kd.C_alloc ?_ _) | (with_reducible refine Kd.C_drewN ?_ _) | (with_reducible refine Kd.C_drew ?_)))
   (case aB => exact (hb_ HB.out))
   (case aF => exact (fun k_ hk => Kd.fresh' (Kd.R_lt (rk_ HO186.out)) k_ hk))
   (case aO => exact (by (with_reducible repeat (first | apply Kd.R_alloc | apply Kd.R_drewN | apply Kd.R_drew)); exact Kd.R_mono HO_3.out (fun _ hk => hk.2)))
   (case aS => exact (qn_ (hb_ HB.out)))
   (case aL => have := LMc19.out; omega)
   intro v188 w23 ho hb hg hat; rw [← Ny187.out] at ho; have n0_ := qa_.mk (Kd.R_after (ok := (fun _ => True)) (rk_ HO186.out) hg hat); have n1_ := qa_.mk (hb); have n2_ := qa_.mk (ho); clear HO186; clear HB; clear HO_3; have HO186 := n0_; have HB := n1_; have HO189 := n2_; clear n0_ n1_ n2_; clear ho hb hg hat; refine hK.out _ _ trivial (fun qal_ => ?_); clear hK K; refine norm_ (a' := ?_) ?_ ?_; rotate_left
   ·show Act.put _ (some 26) _ = _
    simp only [Act.put, List.setIfInBounds_toArray, List.set_cons_zero, List.set_cons_succ, i64_w, i32_w]; rfl
   refine pun_ 13 3 14 16383 ?_; refine dn_ ?_; try go_wp2
   go_roundg k1
   case measure => have := HK1.out; omega
   case rel => exact ⟨(y187), (wrap64 (x11_1 + 1)), z1_, H', ⟨by have := HK1.out; omega⟩, ⟨by (with_reducible repeat (first | apply Kd.R_alloc | apply Kd.R_drewN | apply Kd.R_drew)); exact Kd.R_mono HO189.out (fun _ hk => trivial)⟩, ⟨hb_ HB.out⟩⟩
def qdf_.T6 : Bool × List (List Nat × List Nat) := (true, [([], []), ([], []), ([], []), ([], []), ([2, 3], [2, 3]), ([4], [4]), ([1, 5], [1, 5]), ([], []), ([], []), ([], []), ([8, 9], [8, 9]), ([10], [10]), ([7, 11], [7, 11]), ([6, 12], [6, 12]), ([0, 13], [0, 13]), ([14, 14, 0, 1, 2, 3, 4, 5, 6, 7, 8, 9, 10, 11, 12, 13, 14], [0, 14])])
def qdf_.B6 : List Nat := [0, 0, 0, 0, 12, 28, 62, 0, 0, 0, 768, 1792, 3968, 8190, 16383, 32767]
theorem qdf_.tab6 : rtab .any (opsOf Tryz.f197 6) = qdf_.T6 := by kernel_rfl
theorem qdf_.bits6 : qdi_ qdf_.T6.2 qdf_.B6 = true := by kernel_rfl
def hexD : List UInt8 := [48, 49, 50, 51, 52, 53, 54, 55, 56, 57, 97, 98, 99, 100, 101, 102]
def dv (b : Int) : Int := Lib.indexByte hexD b.toNat.toUInt8
theorem dv_table : ∀ n : Fin 256, qan_.f 2 (n.val : Int) = some (dv (n.val : Int)) ∧ -1 ≤ dv (n.val : Int) ∧ dv (n.val : Int) ≤ 15 := by decide +kernel
theorem bt_fin (s : ByteArray) (i : Int) : ∃ n : Fin 256, bt s i = (n.val : Int) := by
 obtain ⟨h0, h1⟩ := bt_range s i
 exact ⟨⟨(bt s i).toNat, by omega⟩, by simp; omega⟩
theorem value_eq (b : Int) : qej_.f b = some (dv b) := rfl
theorem Digit_bt (s : ByteArray) (i : Int) (k : Nat) (hk : 2 ≤ k) : qan_.f k (bt s i) = some (dv (bt s i)) := by
 obtain ⟨n, hn⟩ := bt_fin s i
 rw [hn]
 exact at_rounds (fun k => qan_.mono _ k) hk (dv_table n).1
def hexF (s : ByteArray) : Nat → Nat → Bool
 | 0, _ => true
 | d + 1, i => decide (0 ≤ dv (bt s i)) && hexF s d (i + 1)
theorem all_l0 (s : ByteArray) (hs : s.size ≤ 140737488351232) : ∀ (d k i : Nat), i + d = s.size → d < k → qcb_.l0 k s s.size i = some (hexF s d i) := by
 intro d
 induction d with
 | zero =>
  intro k i hi hk
  obtain ⟨k, rfl⟩ : ∃ m, k = m + 1 := ⟨k - 1, by omega⟩
  simp only [qcb_.l0]
  rw [if_neg (by omega)]; rfl
 | succ d ih =>
  intro k i hi hk
  obtain ⟨k, rfl⟩ : ∃ m, k = m + 1 := ⟨k - 1, by omega⟩
  have := ih k (i + 1) (by omega) (by omega)
  simp only [qcb_.l0]
  rw [if_pos (by omega), if_pos (by omega), if_pos (by omega), value_eq, qbw_ (by omega) (by omega)]
  simp only [Option.bind_some]
  rw [hexF]
  by_cases h : dv (bt s i) < 0
  ·rw [if_pos h, decide_eq_false (by omega)]; rfl
  ·rw [if_neg h, decide_eq_true (by omega), Bool.true_and]; exact_mod_cast this
theorem digits_l0 (s : ByteArray) (hs : s.size ≤ 140737488351232) : ∀ (d k i : Nat), i + d = s.size → d + 2 < k → qai_.l0 k s i = some (hexF s d i) := by
 intro d
 induction d with
 | zero =>
  intro k i hi hk
  obtain ⟨k, rfl⟩ : ∃ m, k = m + 1 := ⟨k - 1, by omega⟩
  simp only [qai_.l0]
  rw [if_neg (by omega)]; rfl
 | succ d ih =>
  intro k i hi hk
  obtain ⟨k, rfl⟩ : ∃ m, k = m + 1 := ⟨k - 1, by omega⟩
  have := ih k (i + 1) (by omega) (by omega)
  simp only [qai_.l0]
  rw [if_pos (by omega), if_pos (by omega), Digit_bt s i k (by omega), qbw_ (by omega) (by omega)]
  simp only [Option.bind_some]
  rw [hexF]
  by_cases h : dv (bt s i) < 0
  ·rw [if_pos h, decide_eq_false (by omega)]; rfl
  ·rw [if_neg h, decide_eq_true (by omega), Bool.true_and]; exact_mod_cast this
def idOk (s : ByteArray) : Bool := decide (s.size = 40) && hexF s s.size 0
theorem qgk_ (s : ByteArray) : Ev (fun k => qck_.f k s) (idOk s) := by
 unfold idOk
 by_cases h : s.size = 40
 ·refine Ev.congr (f := fun k => (qcb_.f k s).bind fun t => some t) (fun k => by unfold qck_.f; rw [if_pos (by omega)]) ?_
  refine Ev.bind (Ev.of (fun k => qcb_.mono s k) (k := 60) (r := hexF s s.size 0) ?_) ?_
  ·unfold qcb_.f
   exact_mod_cast all_l0 s (by omega) s.size 60 0 (by omega) (by omega)
  ·rw [decide_eq_true h, Bool.true_and]; exact Ev.now _
 ·refine Ev.congr (f := fun _ => some false) (fun k => by unfold qck_.f; rw [if_neg (by omega)]) ?_
  rw [decide_eq_false h, Bool.false_and]; exact Ev.now _
theorem qeu_ (s : ByteArray) : Ev (fun k => qw_.f k s) (idOk s) := by
 unfold idOk
 by_cases h : s.size = 40
 ·refine Ev.congr (f := fun k => (qai_.f k s).bind fun t => some t) (fun k => by unfold qw_.f; rw [if_pos (by omega)]) ?_
  refine Ev.bind (Ev.of (fun k => qai_.mono s k) (k := 60) (r := hexF s s.size 0) ?_) ?_
  ·unfold qai_.f
   exact_mod_cast digits_l0 s (by omega) s.size 60 0 (by omega) (by omega)
  ·rw [decide_eq_true h, Bool.true_and]; exact Ev.now _
 ·refine Ev.congr (f := fun _ => some false) (fun k => by unfold qw_.f; rw [if_neg (by omega)]) ?_
  rw [decide_eq_false h, Bool.false_and]; exact Ev.now _
def hx (n : Int) : Int := bt (⟨#[48, 49, 50, 51, 52, 53, 54, 55, 56, 57, 97, 98, 99, 100, 101, 102]⟩ : ByteArray) n
theorem ev_take {α : Type} {g : Nat → Option α} {r : α} (h : Ev g r) : ∃ k, g k = some r := h.rounds
def qce_.f (a0 : ByteArray) : Option Bool := some (!idOk a0)
theorem qce_.calls (a0 : ByteArray) (r : Bool) (w : World) (h : qce_.f a0 = some r) :
    Calls Tryz.prog 64 #[.string a0] w fun e w' => e = .returned (.bool r) ∧ Drawn0 w w' := by
  obtain rfl := Option.some.inj h
  clear h
  obtain ⟨k, hk⟩ := ev_take (qgk_ a0)
  have HK := qa_.mk hk
  clear hk
  obtain ⟨b, hb⟩ : ∃ b, b = idOk a0 := ⟨_, rfl⟩
  rw [← hb] at HK ⊢
  clear hb
  go_enter func64, ntmps64
  go_wp2_with (go_at_call 65; (with_reducible refine (qck_.calls k a0 b _ HK.out).mono ?_); rintro e w1 ⟨rfl, hb⟩; have HB := qa_.mk hb; clear hb)
  go_ret
  exact ⟨rfl, HB.out⟩
end Go.Proofs.YtbhfbbfjdklfgaaGreatDoor.Q
namespace Go.Proofs.YtbhfbbfjdklfgaaGreatDoor.Q
open Go.Proofs.Tryz Go.RowKit Go.Maps Go.Proofs.YtbhfbbfjdklfgaaGreatDoorW.PrintWords Go.Proofs.YtbhfbbfjdklfgaaGreatDoorW.PrintLast Go.Proofs.YtbhfbbfjdklfgaaGreatDoorW.PrintMore
structure MSB where
  n : Nat
  f : List UInt8 → Option Bool
def MSB.nil : MSB := ⟨0, fun _ => none⟩
def MSB.get (m : MSB) (k : ByteArray) : Bool := (m.f k.data.toList).getD false
def MSB.has (m : MSB) (k : ByteArray) : Bool := (m.f k.data.toList).isSome
def MSB.put (m : MSB) (k : ByteArray) (v : Bool) : MSB := ⟨m.n + 1, fun x => if x = k.data.toList then some v else m.f x⟩
def IsS84 (w0 W : World) (g : Nat) (f0 : MSB) : Prop := w0.heap.size ≤ g ∧ ∃ D : DataW Unit, W.ownsMap Tryz.prog 9 (plainElem Tryz.prog 4) g f0.n D ∧
  ∀ s : List UInt8, s.length ≤ maxLen → D.atKey (.string s) (.lit (.bool false)) = .lit (.bool ((f0.f s).getD false)) ∧ Maps.has D (.string s) = (f0.f s).isSome
theorem plainElem_bool_inv {H : Type} {P : Program} {e : TypeId} (he : P.underlying e = some .bool) {v : Value} {z : DataW H × List MemPlace} (h : plainElem P e v = some z) : ∃ a, v = .bool a ∧ z = (.lit (.bool a), []) := by
  unfold plainElem at h
  rw [he] at h
  cases v <;> simp at h
  subst h
  exact ⟨_, rfl, rfl⟩
theorem wpList_lookup_own_bool {H : Type} {P : Program} (w : World) {ops : Array Oper} {rest : List Oper} {o : Oper} {a : Act} {Q : Exit → Act → World → Prop}
    (hg : o.guard = none) (m x : Operand) (t : TypeId) (hop : o.op = Op.lookup t m x false)
    (k e : TypeId) (K : Keyed P k) (ht : P.underlying t = some (.map k e)) (he : P.underlying e = some .bool) (hz : (zeroValue e).run P w = .ok (.bool false) w) (b n : Nat) (D : DataW H)
    (hm : a.eval m = .map (some b)) (hown : w.ownsMap P k (plainElem P e) b n D) (key : Value) (kl : Lit) (hx : a.eval x = key) (hkey : keyOf P k key = some kl)
    (hK : ∀ c : Bool, D.atKey kl (.lit (.bool false)) = .lit (.bool c) → wpList P ops Q rest (a.put o.dst (.bool c)) w) :
    wpList P ops Q (o :: rest) a w := by
  refine wpList_plain hg fun K' hK' => ?_
  obtain ⟨v, ps, hrun, hv⟩ := hown.lookup K ht hz (plainElem_bool he false) hkey
  obtain ⟨c, rfl, hc⟩ := plainElem_bool_inv he hv
  unfold Oper.wp
  simp [execOp, hop, hm, hx, hrun, Result.andThen]
  exact hK' _ _ (hK c (congrArg Prod.fst hc))
theorem mapLawB : Keyed Tryz.prog 9 := string_keyed underlying9
theorem mapZeroB (w : World) : (zeroValue 4).run Tryz.prog w = .ok (.bool false) w := by kernel_rfl
section
variable {w0 W W1 : World} {g : Nat} {f0 : MSB}
theorem IsS84.block (h : IsS84 w0 W g f0) : ∃ es clock, W.heap[g]? = some (.map es clock) := by
  obtain ⟨_, D, ⟨es, c, hb, _⟩, _⟩ := h
  exact ⟨es, c, hb⟩
theorem IsS84.grown {row : Option Nat} (h : IsS84 w0 W g f0) (hw : W.grownBy W1 row) (hne : some g ≠ row) : IsS84 w0 W1 g f0 := by
  obtain ⟨h0, D, h1, h2⟩ := h
  exact ⟨h0, D, h1.kept hw hne, h2⟩
theorem IsS84.below (h : IsS84 w0 W g f0) (hw : Below W.heap.size W W1) : IsS84 w0 W1 g f0 := h.grown (qez_ hw none) (by simp)
theorem IsS84.alloc (h : IsS84 w0 W g f0) (o : Obj) : IsS84 w0 (W.alloc o) g f0 := h.below (qap_ (Below.refl _ _) o)
theorem IsS84.drewN (h : IsS84 w0 W g f0) (m : Nat) : IsS84 w0 (W.drewN m) g f0 := h
theorem IsS84.drew (h : IsS84 w0 W g f0) : IsS84 w0 W.drew g f0 := h
theorem IsS84.at_ {m : Nat} (hq : W.drewN m = W1) (h : IsS84 w0 W g f0) : IsS84 w0 W1 g f0 := by subst hq; exact h
theorem IsS84.ge (h : IsS84 w0 W g f0) : w0.heap.size ≤ g := h.1
theorem IsS84.lt (h : IsS84 w0 W g f0) : g < W.heap.size := by
  obtain ⟨_, D, h1, _⟩ := h
  exact h1.lt
theorem IsS84.fresh (h : IsS84 w0 W g f0) : ∀ k, W.heap.size ≤ k → k ≠ g := fun k hk e => by have := h.lt; omega
theorem IsS84.far {p : Addr} (h : IsS84 w0 W g f0) (hne : g ≠ p.block) (u : Value) : IsS84 w0 (W.setCell p u) g f0 := by
  obtain ⟨h0, D, h1, h2⟩ := h
  exact ⟨h0, D, h1.setCell hne u, h2⟩
theorem IsS84.apart {α : Type} {d : Kd α} {e : Nat} {base : Nat} {ok : Nat → Prop} {v : Value} {xs : List α} (h : IsS84 w0 W g f0) (ho : d.R e W base ok v xs) (ht : ∀ q, q ∈ e :: d.E → q ≠ 84) : d.R e W base (fun k => ok k ∧ k ≠ g) v xs := by
  obtain ⟨es, c, hb⟩ := h.block
  refine Kd.R_mono (Kd.R_bound ho) (fun k hk => ⟨hk.1, ?_⟩)
  rintro rfl
  obtain ⟨_, _, _, q, _, cells, hc⟩ := hk
  rw [hc] at hb
  cases hb
theorem IsS84.own_ne {α : Type} {d : Kd α} {e : Nat} {base : Nat} {ok : Nat → Prop} {v : Value} {xs : List α} (h : IsS84 w0 W g f0) (ho : d.R e W base ok v xs) (ht : e ≠ 84) : some g ≠ v.ownBlock := by
  obtain ⟨es, c, hb⟩ := h.block
  intro he
  obtain ⟨_, _, _, q, _, cells, hc⟩ := (Kd.R_bound ho).1 g he.symm
  rw [hc] at hb
  cases hb
theorem IsS84.made (hb : W.ownsMap Tryz.prog 9 (plainElem (H := Unit) Tryz.prog 4) g 0 (.map [])) (hg : w0.heap.size ≤ g) : IsS84 w0 W g MSB.nil :=
  ⟨hg, .map [], hb, fun s hs => ⟨by simp [DataW.atKey, MSB.nil], by simp [Maps.has, MSB.nil]⟩⟩
end
section
variable {ops : Array Oper} {rest : List Oper} {o : Oper} {a : Act} {Q : Exit → Act → World → Prop} {w0 W : World} {g : Nat} {f0 : MSB}
theorem mkmapB_event (hgd : o.guard = none) {N : Tmp} (hd : o.dst = some N) (hop : o.op = .makeMap 84 none)
    (h : ∀ g, g = W.heap.size → ∀ w1, w1.ownsMap Tryz.prog 9 (plainElem (H := Unit) Tryz.prog 4) g 0 (.map []) → Below W.heap.size W w1 → wpList Tryz.prog ops Q rest (a.put o.dst (.map (some g))) w1) : wpList Tryz.prog ops Q (o :: rest) a W := by
  have hmm := @run_makeMap Tryz.prog
  refine Kd.event_run hgd (v := .map (some W.heap.size)) (w1 := W.alloc (.map #[] 0)) ?_ (h _ rfl _ (World.ownsMap_made _ _ _ _) (qap_ (Below.refl _ _) _))
  simp [execOp, hop, hmm, Result.andThen]
theorem IsS84.look {m x : Operand} {k : ByteArray} (h : IsS84 w0 W g f0) (hgd : o.guard = none) (hop : o.op = .lookup 84 m x false) (hm : a.eval m = .map (some g)) (hx : a.eval x = .string k) (hs : k.size ≤ 9223372036854775807)
    {c_ : Bool} (he_ : MSB.get f0 k = c_) (K : wpList Tryz.prog ops Q rest (a.put o.dst (.bool c_)) W) : wpList Tryz.prog ops Q (o :: rest) a W := by
  subst he_
  obtain ⟨h0, D, h1, h2⟩ := h
  refine wpList_lookup_own_bool _ hgd m x 84 hop 9 4 mapLawB underlying84 underlying4 (mapZeroB _) g f0.n D hm h1 _ _ hx (WideMaps.keyOf_string_mk underlying9 (by unfold maxLen; exact hs)) ?_
  intro c hat
  have := (h2 k.data.toList (by unfold maxLen; exact hs)).1
  rw [this] at hat
  have e : c = MSB.get f0 k := by
    injection hat with hat
    injection hat with hat
    exact hat.symm
  rw [e]
  exact K
theorem IsS84.put_ {m x v : Operand} {k : ByteArray} {n : Bool} (h : IsS84 w0 W g f0) (hgd : o.guard = none) (hop : o.op = .mapUpdate 84 m x v) (hm : a.eval m = .map (some g)) (hx : a.eval x = .string k) (hv : a.eval v = .bool n) (hs : k.size ≤ 9223372036854775807) (hn : f0.n < 4611686018427387904) (hw : True)
    (K : ∀ w1, IsS84 w0 w1 g (MSB.put f0 k n) → W.grownBy w1 (some g) → wpList Tryz.prog ops Q rest (a.put o.dst undef) w1) : wpList Tryz.prog ops Q (o :: rest) a W := by
  obtain ⟨h0, D, h1, h2⟩ := h
  have hk : keyOf Tryz.prog 9 (.string k) = some (.string k.data.toList) := WideMaps.keyOf_string_mk underlying9 (by unfold maxLen; exact hs)
  refine wpList_mapUpdate_own _ hgd m x v 84 hop 9 4 mapLawB underlying84 _ g f0.n D hm h1 (by unfold maxLen; omega) _ _ _ hx hv hk _ [] (plainElem_bool underlying4 n) ?_
  intro w1 hown hg
  refine K w1 ⟨h0, _, hown, fun s hl => ?_⟩ hg
  have hD : IsMap D := by
    obtain ⟨es, c, _, _, _, rfl⟩ := h1
    exact ⟨_, rfl⟩
  have hkl : WideAt.IsKeyLit (.string k.data.toList) := trivial
  by_cases e : s = k.data.toList
  · subst e
    refine ⟨?_, ?_⟩
    · rw [atKey_put_same hD hkl]; simp [MSB.put]
    · rw [has_put_same hD hkl]; simp [MSB.put]
  · have hne : (Lit.string s) ≠ .string k.data.toList := fun h => e (by injection h)
    have := h2 s hl
    refine ⟨?_, ?_⟩
    · rw [atKey_put_other hne, this.1]; simp [MSB.put, e]
    · rw [has_put_other hne, this.2]; simp [MSB.put, e]
end
end Go.Proofs.YtbhfbbfjdklfgaaGreatDoor.Q
namespace Go.Proofs.YtbhfbbfjdklfgaaGreatDoor.Q
open Go.Proofs.Tryz Go.RowKit Go.Proofs.YtbhfbbfjdklfgaaGreatDoorW.PrintWords Go.Proofs.YtbhfbbfjdklfgaaGreatDoorW.PrintLast Go.Proofs.YtbhfbbfjdklfgaaGreatDoorW.PrintMore
attribute [local go_sem] qec_ qef_ qen_ qeo_ qdt_ qdu_ qdz_ qee_
mutual
def qq_.j0 : Nat → Bool → ByteArray → List ByteArray → ByteArray → ByteArray → Int → Int → ByteArray → ByteArray → Int → Int → ByteArray → Option (Int)
 | 0, _, _, _, _, _, _, _, _, _, _, _, _ => none
 | k + 1, x33, x102000, x102001, x102002, x102003, x102004, x102005, x102006, x102007, x102008, x102009, x102010 => if x33 = true then (some 1) else (if (x102010.size : Int) > 4096 then (qq_.j1 k true x102000 x102001 x102002 x102003 x102004 x102005 x102006 x102007 x102008 x102009 x102010) else (qq_.j1 k (decide ((x102001.length : Int) > 8)) x102000 x102001 x102002 x102003 x102004 x102005 x102006 x102007 x102008 x102009 x102010))
def qq_.j1 : Nat → Bool → ByteArray → List ByteArray → ByteArray → ByteArray → Int → Int → ByteArray → ByteArray → Int → Int → ByteArray → Option (Int)
 | 0, _, _, _, _, _, _, _, _, _, _, _, _ => none
 | k + 1, x43, x102000, x102001, x102002, x102003, x102004, x102005, x102006, x102007, x102008, x102009, x102010 => if x43 = true then (some 4) else (qq_.l0 k x102001 (x102001.length : Int) 0 MSB.nil)
def qq_.l0 : Nat → List ByteArray → Int → Int → MSB → Option (Int)
 | 0, _, _, _, _ => none
 | k + 1, x46, x47, x48, x108000 => if x48 < x47 then (if 0 ≤ x48 then (if x48 < (x46.length : Int) then (if (rdOf ByteArray.empty x46 x48).size ≤ 9223372036854775807 then (if MSB.get x108000 (rdOf ByteArray.empty x46 x48) = true then (some 6) else (if x108000.n < 4611686018427387904 then (qq_.l0 k x46 x47 (wrap64 (x48 + 1)) (MSB.put x108000 (rdOf ByteArray.empty x46 x48) true)) else (none))) else (none)) else (none)) else (none)) else (some 0)
end
def qq_.f (k : Nat) (a0_0 : ByteArray) (l0_1 : List ByteArray) (a0_2 : ByteArray) (a0_3 : ByteArray) (a0_4 : Int) (a0_5 : Int) (a0_6 : ByteArray) (a0_7 : ByteArray) (a0_8 : Int) (a0_9 : Int) (a0_10 : ByteArray) : Option (Int) := (qce_.f a0_0).bind fun t102 => (if t102 = true then (qq_.j0 k true a0_0 l0_1 a0_2 a0_3 a0_4 a0_5 a0_6 a0_7 a0_8 a0_9 a0_10) else ((qaf_.f k l0_1 (fun z0 => qce_.f z0)).bind fun t103 => (if t103 = true then (qq_.j0 k true a0_0 l0_1 a0_2 a0_3 a0_4 a0_5 a0_6 a0_7 a0_8 a0_9 a0_10) else ((qax_.f k a0_2 a0_3 a0_4 a0_5).bind fun t104 => (if t104 = true then ((qax_.f k a0_6 a0_7 a0_8 a0_9).bind fun t105 => (if t105 = true then ((qci_.f a0_10 ⟨#[0]⟩).bind fun t106 => (qq_.j0 k t106 a0_0 l0_1 a0_2 a0_3 a0_4 a0_5 a0_6 a0_7 a0_8 a0_9 a0_10)) else (qq_.j0 k true a0_0 l0_1 a0_2 a0_3 a0_4 a0_5 a0_6 a0_7 a0_8 a0_9 a0_10))) else (qq_.j0 k true a0_0 l0_1 a0_2 a0_3 a0_4 a0_5 a0_6 a0_7 a0_8 a0_9 a0_10))))))
theorem qq_.mono_l : ∀ k, (∀ y0 y1 y2 y3 y4 y5 y6 y7 y8 y9 y10 y11, LeO (qq_.j0 k y0 y1 y2 y3 y4 y5 y6 y7 y8 y9 y10 y11) (qq_.j0 (k + 1) y0 y1 y2 y3 y4 y5 y6 y7 y8 y9 y10 y11)) ∧ (∀ y0 y1 y2 y3 y4 y5 y6 y7 y8 y9 y10 y11, LeO (qq_.j1 k y0 y1 y2 y3 y4 y5 y6 y7 y8 y9 y10 y11) (qq_.j1 (k + 1) y0 y1 y2 y3 y4 y5 y6 y7 y8 y9 y10 y11)) ∧ (∀ y0 y1 y2 y3, LeO (qq_.l0 k y0 y1 y2 y3) (qq_.l0 (k + 1) y0 y1 y2 y3))
 | 0 => ⟨fun _ _ _ _ _ _ _ _ _ _ _ _ r h => by simp [qq_.j0] at h, fun _ _ _ _ _ _ _ _ _ _ _ _ r h => by simp [qq_.j1] at h, fun _ _ _ _ r h => by simp [qq_.l0] at h⟩
 | k + 1 => by
  obtain ⟨ih0, ih1, ih2⟩ := qq_.mono_l k
  refine ⟨?_, ?_, ?_⟩
  ·intro y0 y1 y2 y3 y4 y5 y6 y7 y8 y9 y10 y11
   unfold qq_.j0
   have m0_ := @ih0
   have m1_ := @ih1
   have m2_ := @ih2
   have m3_ := @qax_.mono
   have m4_ := @qaf_.mono
   exact mz_
  ·intro y0 y1 y2 y3 y4 y5 y6 y7 y8 y9 y10 y11
   unfold qq_.j1
   have m0_ := @ih0
   have m1_ := @ih1
   have m2_ := @ih2
   have m3_ := @qax_.mono
   have m4_ := @qaf_.mono
   exact mz_
  ·intro y0 y1 y2 y3
   unfold qq_.l0
   have m0_ := @ih0
   have m1_ := @ih1
   have m2_ := @ih2
   have m3_ := @qax_.mono
   have m4_ := @qaf_.mono
   exact mz_
theorem qq_.mono : ∀ a0 a1 a2 a3 a4 a5 a6 a7 a8 a9 a10 k, LeO (qq_.f k a0 a1 a2 a3 a4 a5 a6 a7 a8 a9 a10) (qq_.f (k + 1) a0 a1 a2 a3 a4 a5 a6 a7 a8 a9 a10) := by
 intro a0 a1 a2 a3 a4 a5 a6 a7 a8 a9 a10 k; obtain ⟨ih0, ih1, ih2⟩ := qq_.mono_l k; unfold qq_.f; have m0_ := @ih0; have m1_ := @ih1; have m2_ := @ih2; have m3_ := @qax_.mono; have m4_ := @qaf_.mono; exact mz_
theorem qq_.calls (k : Nat) (a0_0 : ByteArray) (A0_1 : Option Addr) (c0_1 : Nat) (l0_1 : List ByteArray) (a0_2 : ByteArray) (a0_3 : ByteArray) (a0_4 : Int) (a0_5 : Int) (a0_6 : ByteArray) (a0_7 : ByteArray) (a0_8 : Int) (a0_9 : Int) (a0_10 : ByteArray) (r : Int) (w : World) (hr0_1 : Kd.C Kd.string w A0_1 l0_1.length l0_1) (hc0_1 : l0_1.length ≤ c0_1) (hgv : GV w) (h : qq_.f k a0_0 l0_1 a0_2 a0_3 a0_4 a0_5 a0_6 a0_7 a0_8 a0_9 a0_10 = some r) :
  Calls Tryz.prog 18 #[.agg #[.string a0_0, .slice A0_1 l0_1.length c0_1, .string a0_2, .string a0_3, .int .i64 a0_4, .int .i64 a0_5, .string a0_6, .string a0_7, .int .i64 a0_8, .int .i64 a0_9, .string a0_10]] w fun e w' => e = .returned (.int .i64 r) ∧ Below w.heap.size w w' := by
 have hu26 := underlying26; have hu24 := underlying24; have HR0_1 := qa_.mk hr0_1; have HC0_1 := qa_.mk hc0_1; clear hr0_1 hc0_1; have HB := qa_.mk (Below.refl w.heap.size w); unfold qq_.f at h; have H := h; clear h; have HC2 := qa_.mk H; clear H; go_enter func18, ntmps18; go_upto_region 2 with (first | ((with_reducible refine qk_ (N := 1) rfl ?_); (try (refine qcp_ (by rfl) ?_; dsimp only)); refine be_ (cs := #[.string a0_0, .slice A0_1 l0_1.length c0_1, .string a0_2, .string a0_3, .int .i64 a0_4, .int .i64 a0_5, .string a0_6, .string a0_7, .int .i64 a0_8, .int .i64 a0_9, .string a0_10]) (t := 26) ?_; intro g101 hg w3 hbox hb; have K101 := qa_.mk (hbox); have W101 := ag_ hg HB; have E101 := ag_ hg HB; replace HB := ah_ HB hb; clear hb hbox hg)); (try simp only [Act.put, List.setIfInBounds_toArray, List.set_cons_zero, List.set_cons_succ])
 go_cut [33] (fun v33 wc => ∃ (kq : Nat) (x33_1 : Bool), v33 = .bool x33_1 ∧ qa_ (qq_.j0 kq x33_1 a0_0 l0_1 a0_2 a0_3 a0_4 a0_5 a0_6 a0_7 a0_8 a0_9 a0_10 = some r) ∧ qa_ (kq ≤ k) ∧ qa_ (wc.heap[g101]? = some (.cells #[.string a0_0, (.slice A0_1 l0_1.length c0_1), .string a0_2, .string a0_3, .int .i64 a0_4, .int .i64 a0_5, .string a0_6, .string a0_7, .int .i64 a0_8, .int .i64 a0_9, .string a0_10] 26 (0, 0))) ∧ qa_ (Below w.heap.size w wc))
 case first =>
  have H := HC2.out; clear HC2; obtain ⟨t102, A4, H⟩ := bx_ H; by_cases c5 : t102 = true
  ·subst c5; rw [if_pos rfl] at H; have H' := qa_.mk H; clear H; obtain ⟨Z6_0, Z6_1, Z6_2, Z6_3, Z6_4, Z6_5, Z6_6, Z6_7, Z6_8, Z6_9, Z6_10, F6⟩ := bc11 K101.out; go_wp2_with (first | (refine goesF_ (some 10) rfl rfl (g := 64) (lb := #[]) (fun args w => qeg_ func64 rfl rfl args w) #[.string a0_0] rfl rfl z8_ #[.string a0_0] (by first | rfl | simp) ?_; refine cm_ (qce_.calls a0_0  true _ A4.out) ?_; rintro w' ⟨nd, rfl⟩)); go_meet
   case rel => exact ⟨_, (true), z1_, H', ⟨z4_⟩, ⟨bk_ K101.out⟩, ⟨hs_⟩⟩
  replace c5 := Bool.eq_false_iff.mpr c5; subst c5; rw [if_neg nft_] at H; obtain ⟨t103, A7, H⟩ := bx_ H; by_cases c8 : t103 = true
  ·subst c8; rw [if_pos rfl] at H; have H' := qa_.mk H; clear H; obtain ⟨Z9_0, Z9_1, Z9_2, Z9_3, Z9_4, Z9_5, Z9_6, Z9_7, Z9_8, Z9_9, Z9_10, F9⟩ := bc11 K101.out; go_wp2_with (first | (refine goesF_ (some 10) rfl rfl (g := 64) (lb := #[]) (fun args w => qeg_ func64 rfl rfl args w) #[.string a0_0] rfl rfl z8_ #[.string a0_0] (by first | rfl | simp) ?_; refine cm_ (qce_.calls a0_0  false _ A4.out) ?_; rintro w' ⟨nd, rfl⟩) | (go_at_call 66; (with_reducible refine (qaf_.calls k _ _ l0_1 64 #[] (fun z0 => qce_.f z0) true _ ?side1 ?side2 ?side3 ?side4 A7.out).mono ?_); (case side1 => repeat (first | exact (Kd.C_below HR0_1.out (hs_)) | (with_reducible refine Kd.C_alloc ?_ _) | (with_reducible refine Kd.C_drewN ?_ _) | (with_reducible refine Kd.C_drew ?_))); (case side2 => exact HC0_1.out); (case side3 => exact fun args w => qeg_ func64 rfl rfl args w); (case side4 => intro z0_ z1_ W_ hB_ h_; exact (qce_.calls z0_ z1_ W_  h_).mono (fun e w' hx_ => ⟨hx_.1, hx_.2.below⟩)); rintro e w10 ⟨rfl, hb⟩; replace K101 := ab_ K101 hb; replace HB := qa_.mk (qc_ (hs_) hb); (try clear hb); (try clear hb2); (try clear hk); (try clear hi)))
   go_meet
   case rel => exact ⟨_, (true), z1_, H', ⟨z4_⟩, ⟨bk_ K101.out⟩, ⟨hs_⟩⟩
  replace c8 := Bool.eq_false_iff.mpr c8; subst c8; rw [if_neg nft_] at H; obtain ⟨t104, A11, H⟩ := bx_ H; by_cases c12 : t104 = true; rotate_left
  ·replace c12 := Bool.eq_false_iff.mpr c12; subst c12; rw [if_neg nft_] at H; have H' := qa_.mk H; clear H; obtain ⟨Z29_0, Z29_1, Z29_2, Z29_3, Z29_4, Z29_5, Z29_6, Z29_7, Z29_8, Z29_9, Z29_10, F29⟩ := bc11 K101.out; go_wp2_with (first | (refine goesF_ (some 10) rfl rfl (g := 64) (lb := #[]) (fun args w => qeg_ func64 rfl rfl args w) #[.string a0_0] rfl rfl z8_ #[.string a0_0] (by first | rfl | simp) ?_; refine cm_ (qce_.calls a0_0  false _ A4.out) ?_; rintro w' ⟨nd, rfl⟩) | (go_at_call 66; (with_reducible refine (qaf_.calls k _ _ l0_1 64 #[] (fun z0 => qce_.f z0) false _ ?side1 ?side2 ?side3 ?side4 A7.out).mono ?_); (case side1 => repeat (first | exact (Kd.C_below HR0_1.out (hs_)) | (with_reducible refine Kd.C_alloc ?_ _) | (with_reducible refine Kd.C_drewN ?_ _) | (with_reducible refine Kd.C_drew ?_))); (case side2 => exact HC0_1.out); (case side3 => exact fun args w => qeg_ func64 rfl rfl args w); (case side4 => intro z0_ z1_ W_ hB_ h_; exact (qce_.calls z0_ z1_ W_  h_).mono (fun e w' hx_ => ⟨hx_.1, hx_.2.below⟩)); rintro e w30 ⟨rfl, hb⟩; replace K101 := ab_ K101 hb; replace HB := qa_.mk (qc_ (hs_) hb); (try clear hb); (try clear hb2); (try clear hk); (try clear hi); obtain ⟨Z31_0, Z31_1, Z31_2, Z31_3, Z31_4, Z31_5, Z31_6, Z31_7, Z31_8, Z31_9, Z31_10, F31⟩ := bc11 K101.out) | (go_at_call 67; (with_reducible refine (qax_.calls k a0_2 a0_3 a0_4 a0_5 false _ A11.out).mono ?_); rintro e w32 ⟨rfl, hb⟩; replace K101 := ab_ K101 hb; replace HB := qa_.mk (qc_ (hs_) hb); (try clear hb); (try clear hb2); (try clear hk); (try clear hi)))
   go_meet
   case rel => exact ⟨_, (true), z1_, H', ⟨z4_⟩, ⟨bk_ K101.out⟩, ⟨hs_⟩⟩
  subst c12; rw [if_pos rfl] at H; obtain ⟨t105, A13, H⟩ := bx_ H; by_cases c14 : t105 = true; rotate_left
  ·replace c14 := Bool.eq_false_iff.mpr c14; subst c14; rw [if_neg nft_] at H; have H' := qa_.mk H; clear H; obtain ⟨Z23_0, Z23_1, Z23_2, Z23_3, Z23_4, Z23_5, Z23_6, Z23_7, Z23_8, Z23_9, Z23_10, F23⟩ := bc11 K101.out; have tk3_ : True := trivial; have tk4_ : True := trivial; go_wp2_with (first | (refine goesF_ (some 10) rfl rfl (g := 64) (lb := #[]) (fun args w => qeg_ func64 rfl rfl args w) #[.string a0_0] rfl rfl z8_ #[.string a0_0] (by first | rfl | simp) ?_; refine cm_ (qce_.calls a0_0  false _ A4.out) ?_; rintro w' ⟨nd, rfl⟩) | (go_at_call 66; (with_reducible refine (qaf_.calls k _ _ l0_1 64 #[] (fun z0 => qce_.f z0) false _ ?side1 ?side2 ?side3 ?side4 A7.out).mono ?_); (case side1 => repeat (first | exact (Kd.C_below HR0_1.out (hs_)) | (with_reducible refine Kd.C_alloc ?_ _) | (with_reducible refine Kd.C_drewN ?_ _) | (with_reducible refine Kd.C_drew ?_))); (case side2 => exact HC0_1.out); (case side3 => exact fun args w => qeg_ func64 rfl rfl args w); (case side4 => intro z0_ z1_ W_ hB_ h_; exact (qce_.calls z0_ z1_ W_  h_).mono (fun e w' hx_ => ⟨hx_.1, hx_.2.below⟩)); rintro e w24 ⟨rfl, hb⟩; replace K101 := ab_ K101 hb; replace HB := qa_.mk (qc_ (hs_) hb); (try clear hb); (try clear hb2); (try clear hk); (try clear hi); obtain ⟨Z25_0, Z25_1, Z25_2, Z25_3, Z25_4, Z25_5, Z25_6, Z25_7, Z25_8, Z25_9, Z25_10, F25⟩ := bc11 K101.out) | (go_at_call 67; have _t := tk3_; (with_reducible refine (qax_.calls k a0_2 a0_3 a0_4 a0_5 true _ A11.out).mono ?_); rintro e w26 ⟨rfl, hb⟩; replace K101 := ab_ K101 hb; replace HB := qa_.mk (qc_ (hs_) hb); (try clear hb); (try clear hb2); (try clear hk); (try clear hi); obtain ⟨Z27_0, Z27_1, Z27_2, Z27_3, Z27_4, Z27_5, Z27_6, Z27_7, Z27_8, Z27_9, Z27_10, F27⟩ := bc11 K101.out; clear tk3_) | (go_at_call 67; have _t := tk4_; (with_reducible refine (qax_.calls k a0_6 a0_7 a0_8 a0_9 false _ A13.out).mono ?_); rintro e w28 ⟨rfl, hb⟩; replace K101 := ab_ K101 hb; replace HB := qa_.mk (qc_ (hs_) hb); (try clear hb); (try clear hb2); (try clear hk); (try clear hi); clear tk4_)); go_meet
   case rel => exact ⟨_, (true), z1_, H', ⟨z4_⟩, ⟨bk_ K101.out⟩, ⟨hs_⟩⟩
  subst c14; rw [if_pos rfl] at H; obtain ⟨t106, A15, H⟩ := bx_ H; have H' := qa_.mk H; clear H; obtain ⟨Z16_0, Z16_1, Z16_2, Z16_3, Z16_4, Z16_5, Z16_6, Z16_7, Z16_8, Z16_9, Z16_10, F16⟩ := bc11 K101.out; have tk1_ : True := trivial; have tk2_ : True := trivial; go_wp2_with (first | (refine goesF_ (some 10) rfl rfl (g := 64) (lb := #[]) (fun args w => qeg_ func64 rfl rfl args w) #[.string a0_0] rfl rfl z8_ #[.string a0_0] (by first | rfl | simp) ?_; refine cm_ (qce_.calls a0_0  false _ A4.out) ?_; rintro w' ⟨nd, rfl⟩) | (go_at_call 66; (with_reducible refine (qaf_.calls k _ _ l0_1 64 #[] (fun z0 => qce_.f z0) false _ ?side1 ?side2 ?side3 ?side4 A7.out).mono ?_); (case side1 => repeat (first | exact (Kd.C_below HR0_1.out (hs_)) | (with_reducible refine Kd.C_alloc ?_ _) | (with_reducible refine Kd.C_drewN ?_ _) | (with_reducible refine Kd.C_drew ?_))); (case side2 => exact HC0_1.out); (case side3 => exact fun args w => qeg_ func64 rfl rfl args w); (case side4 => intro z0_ z1_ W_ hB_ h_; exact (qce_.calls z0_ z1_ W_  h_).mono (fun e w' hx_ => ⟨hx_.1, hx_.2.below⟩)); rintro e w17 ⟨rfl, hb⟩; replace K101 := ab_ K101 hb; replace HB := qa_.mk (qc_ (hs_) hb); (try clear hb); (try clear hb2); (try clear hk); (try clear hi); obtain ⟨Z18_0, Z18_1, Z18_2, Z18_3, Z18_4, Z18_5, Z18_6, Z18_7, Z18_8, Z18_9, Z18_10, F18⟩ := bc11 K101.out) | (go_at_call 67; have _t := tk1_; (with_reducible refine (qax_.calls k a0_2 a0_3 a0_4 a0_5 true _ A11.out).mono ?_); rintro e w19 ⟨rfl, hb⟩; replace K101 := ab_ K101 hb; replace HB := qa_.mk (qc_ (hs_) hb); (try clear hb); (try clear hb2); (try clear hk); (try clear hi); obtain ⟨Z20_0, Z20_1, Z20_2, Z20_3, Z20_4, Z20_5, Z20_6, Z20_7, Z20_8, Z20_9, Z20_10, F20⟩ := bc11 K101.out; clear tk1_) | (go_at_call 67; have _t := tk2_; (with_reducible refine (qax_.calls k a0_6 a0_7 a0_8 a0_9 true _ A13.out).mono ?_); rintro e w21 ⟨rfl, hb⟩; replace K101 := ab_ K101 hb; replace HB := qa_.mk (qc_ (hs_) hb); (try clear hb); (try clear hb2); (try clear hk); (try clear hi); obtain ⟨Z22_0, Z22_1, Z22_2, Z22_3, Z22_4, Z22_5, Z22_6, Z22_7, Z22_8, Z22_9, Z22_10, F22⟩ := bc11 K101.out; clear tk2_) | (go_at_call 68; (with_reducible refine (qci_.calls a0_10 ⟨#[0]⟩ t106 _ ?side1 A15.out).mono ?_); (case side1 => exact GV.below hgv (hs_)); rintro e w' ⟨rfl, ⟨nd, rfl⟩⟩)); go_meet
  case rel => exact ⟨_, (t106), z1_, H', ⟨z4_⟩, ⟨bk_ K101.out⟩, ⟨hs_⟩⟩
 case rest =>
  clear HC2; try clear c1
  try clear p2
  try clear c5
  try clear c6
  try clear c8
  try clear c12
  try clear c14
  try clear c18
  try clear Z16_0 Z16_1 Z16_10 Z16_2 Z16_3 Z16_4 Z16_5 Z16_6 Z16_7 Z16_8 Z16_9
  try clear Z18_0 Z18_1 Z18_10 Z18_2 Z18_3 Z18_4 Z18_5 Z18_6 Z18_7 Z18_8 Z18_9
  try clear Z20_0 Z20_1 Z20_10 Z20_2 Z20_3 Z20_4 Z20_5 Z20_6 Z20_7 Z20_8 Z20_9
  try clear Z22_0 Z22_1 Z22_10 Z22_2 Z22_3 Z22_4 Z22_5 Z22_6 Z22_7 Z22_8 Z22_9
  try clear Z23_0 Z23_1 Z23_10 Z23_2 Z23_3 Z23_4 Z23_5 Z23_6 Z23_7 Z23_8 Z23_9
  try clear Z25_0 Z25_1 Z25_10 Z25_2 Z25_3 Z25_4 Z25_5 Z25_6 Z25_7 Z25_8 Z25_9
  try clear Z27_0 Z27_1 Z27_10 Z27_2 Z27_3 Z27_4 Z27_5 Z27_6 Z27_7 Z27_8 Z27_9
  try clear Z29_0 Z29_1 Z29_10 Z29_2 Z29_3 Z29_4 Z29_5 Z29_6 Z29_7 Z29_8 Z29_9
  try clear Z31_0 Z31_1 Z31_10 Z31_2 Z31_3 Z31_4 Z31_5 Z31_6 Z31_7 Z31_8 Z31_9
  try clear Z6_0 Z6_1 Z6_10 Z6_2 Z6_3 Z6_4 Z6_5 Z6_6 Z6_7 Z6_8 Z6_9
  try clear Z9_0 Z9_1 Z9_10 Z9_2 Z9_3 Z9_4 Z9_5 Z9_6 Z9_7 Z9_8 Z9_9
  try clear F16
  try clear F18
  try clear F20
  try clear F22
  try clear F23
  try clear F25
  try clear F27
  try clear F29
  try clear F31
  try clear F6
  try clear F9
  obtain ⟨kq, x33_1, rfl, HA, HJ1, K101, HB⟩ := hcut
  cases kq with
  | zero => exact absurd HA.out (by simp [qq_.j0])
  | succ kj1 =>
   have H := HA.out; clear HA; simp only [qq_.j0] at H; by_cases c33 : x33_1 = true
   ·subst c33; rw [if_pos rfl] at H; obtain rfl := oi_ H; go_wp2
    go_ret
    exact ⟨z3_, hs_⟩
   replace c33 := Bool.eq_false_iff.mpr c33; subst c33; rw [if_neg nft_] at H; have HC34 := qa_.mk H; clear H; go_upto_region 4 with (fail)
   go_cut [43] (fun v43 wc => ∃ (kq : Nat) (x43_33 : Bool), v43 = .bool x43_33 ∧ qa_ (qq_.j1 kq x43_33 a0_0 l0_1 a0_2 a0_3 a0_4 a0_5 a0_6 a0_7 a0_8 a0_9 a0_10 = some r) ∧ qa_ (kq ≤ kj1) ∧ qa_ (wc.heap[g101]? = some (.cells #[.string a0_0, (.slice A0_1 l0_1.length c0_1), .string a0_2, .string a0_3, .int .i64 a0_4, .int .i64 a0_5, .string a0_6, .string a0_7, .int .i64 a0_8, .int .i64 a0_9, .string a0_10] 26 (0, 0))) ∧ qa_ (Below w.heap.size w wc))
   case first =>
    have H := HC34.out; clear HC34; by_cases c35 : (a0_10.size : Int) > 4096
    ·rw [if_pos c35] at H; have c35b0 := dt_ c35; have c35b1 : decide (4096 < a0_10.size) = true := decide_eq_true (by omega); clear c35; (first | rw [c35b0] | (simp only [i64_w, i32_w]; rw [c35b0]) | skip); have H' := qa_.mk H; clear H; obtain ⟨Z36_0, Z36_1, Z36_2, Z36_3, Z36_4, Z36_5, Z36_6, Z36_7, Z36_8, Z36_9, Z36_10, F36⟩ := bc11 K101.out; go_wp2
     go_meet
     case rel => exact ⟨_, (true), z1_, H', ⟨by have := HJ1.out; first | omega | exact Nat.le_refl _⟩, ⟨bk_ K101.out⟩, ⟨hs_⟩⟩
    rw [if_neg c35] at H; have c35b0 := df_ c35; have c35b1 : decide (4096 < a0_10.size) = false := decide_eq_false (by omega); clear c35; (first | rw [c35b0] | (simp only [i64_w, i32_w]; rw [c35b0]) | skip); have H' := qa_.mk H; clear H; obtain ⟨Z37_0, Z37_1, Z37_2, Z37_3, Z37_4, Z37_5, Z37_6, Z37_7, Z37_8, Z37_9, Z37_10, F37⟩ := bc11 K101.out; go_wp2
    go_meet
    case rel => exact ⟨_, (decide ((l0_1.length : Int) > 8)), z1_, H', ⟨by have := HJ1.out; first | omega | exact Nat.le_refl _⟩, ⟨bk_ K101.out⟩, ⟨hs_⟩⟩
   case rest =>
    clear HC34; try clear c1
    try clear p2
    try clear c3
    try clear c5
    try clear c6
    try clear c8
    try clear c12
    try clear c14
    try clear c18
    try clear c33
    try clear c35
    try clear c35b0
    try clear c35b1
    try clear Z16_0 Z16_1 Z16_10 Z16_2 Z16_3 Z16_4 Z16_5 Z16_6 Z16_7 Z16_8 Z16_9
    try clear Z18_0 Z18_1 Z18_10 Z18_2 Z18_3 Z18_4 Z18_5 Z18_6 Z18_7 Z18_8 Z18_9
    try clear Z20_0 Z20_1 Z20_10 Z20_2 Z20_3 Z20_4 Z20_5 Z20_6 Z20_7 Z20_8 Z20_9
    try clear Z22_0 Z22_1 Z22_10 Z22_2 Z22_3 Z22_4 Z22_5 Z22_6 Z22_7 Z22_8 Z22_9
    try clear Z23_0 Z23_1 Z23_10 Z23_2 Z23_3 Z23_4 Z23_5 Z23_6 Z23_7 Z23_8 Z23_9
    try clear Z25_0 Z25_1 Z25_10 Z25_2 Z25_3 Z25_4 Z25_5 Z25_6 Z25_7 Z25_8 Z25_9
    try clear Z27_0 Z27_1 Z27_10 Z27_2 Z27_3 Z27_4 Z27_5 Z27_6 Z27_7 Z27_8 Z27_9
    try clear Z29_0 Z29_1 Z29_10 Z29_2 Z29_3 Z29_4 Z29_5 Z29_6 Z29_7 Z29_8 Z29_9
    try clear Z31_0 Z31_1 Z31_10 Z31_2 Z31_3 Z31_4 Z31_5 Z31_6 Z31_7 Z31_8 Z31_9
    try clear Z36_0 Z36_1 Z36_10 Z36_2 Z36_3 Z36_4 Z36_5 Z36_6 Z36_7 Z36_8 Z36_9
    try clear Z37_0 Z37_1 Z37_10 Z37_2 Z37_3 Z37_4 Z37_5 Z37_6 Z37_7 Z37_8 Z37_9
    try clear Z6_0 Z6_1 Z6_10 Z6_2 Z6_3 Z6_4 Z6_5 Z6_6 Z6_7 Z6_8 Z6_9
    try clear Z9_0 Z9_1 Z9_10 Z9_2 Z9_3 Z9_4 Z9_5 Z9_6 Z9_7 Z9_8 Z9_9
    try clear F16
    try clear F18
    try clear F20
    try clear F22
    try clear F23
    try clear F25
    try clear F27
    try clear F29
    try clear F31
    try clear F36
    try clear F37
    try clear F6
    try clear F9
    try clear p2
    obtain ⟨kq, x43_33, rfl, HA, HJ33, K101, HB⟩ := hcut
    cases kq with
    | zero => exact absurd HA.out (by simp [qq_.j1])
    | succ kj33 =>
     have H := HA.out; clear HA; simp only [qq_.j1] at H; by_cases c38 : x43_33 = true
     ·subst c38; rw [if_pos rfl] at H; obtain rfl := oi_ H; go_wp2
      go_ret
      exact ⟨z3_, hs_⟩
     replace c38 := Bool.eq_false_iff.mpr c38; subst c38; rw [if_neg nft_] at H; have H' := qa_.mk H; clear H; go_wp2_with (first | ((with_reducible refine qk_ (N := 44) rfl ?_); (try (refine qcp_ (by rfl) ?_; dsimp only)); refine mkmapB_event rfl (N := 44) rfl rfl ?_; intro g107 hg w39 hbox hb; have HI107 := qa_.mk (IsS84.made hbox (by rw [hg]; exact (qn_ (hs_)) : w.heap.size ≤ g107)); replace HB := qa_.mk (qc_ (hs_) hb); have N101_107 := qa_.mk (nl2_ hg K101.out); have N107_101 := qa_.mk (ng2_ hg K101.out); replace K101 := ab_ K101 hb; clear hb hbox hg; have hnb40 := N101_107.out; have hnc40 := N107_101.out; obtain ⟨Z41_0, Z41_1, Z41_2, Z41_3, Z41_4, Z41_5, Z41_6, Z41_7, Z41_8, Z41_9, Z41_10, F41⟩ := bc11 K101.out)); go_loopg [48] kj33 (fun kq v48 w' => ∃ (x48_3 : Int) (x108000_3 : MSB), v48 = .int .i64 x48_3 ∧ qa_ (qq_.l0 kq l0_1 (l0_1.length : Int) x48_3 x108000_3 = some r) ∧ qa_ (kq ≤ kj33) ∧ qa_ (w'.heap[g101]? = some (.cells #[.string a0_0, (.slice A0_1 l0_1.length c0_1), .string a0_2, .string a0_3, .int .i64 a0_4, .int .i64 a0_5, .string a0_6, .string a0_7, .int .i64 a0_8, .int .i64 a0_9, .string a0_10] 26 (0, 0))) ∧ qa_ (IsS84 w w' g107 x108000_3) ∧ qa_ (Below w.heap.size w w'))
     case atStart => exact ⟨(0), (MSB.nil), z1_, H', ⟨Nat.le_refl _⟩, ⟨bk_ K101.out⟩, ⟨z25_⟩, ⟨z23_⟩⟩
     case round =>
      clear H'; try clear c1
      try clear p2
      try clear c3
      try clear c4
      try clear c5
      try clear c6
      try clear c8
      try clear c12
      try clear c14
      try clear c18
      try clear c33
      try clear c35
      try clear c35b0
      try clear c35b1
      try clear c38
      try clear c40
      try clear Z16_0 Z16_1 Z16_10 Z16_2 Z16_3 Z16_4 Z16_5 Z16_6 Z16_7 Z16_8 Z16_9
      try clear Z18_0 Z18_1 Z18_10 Z18_2 Z18_3 Z18_4 Z18_5 Z18_6 Z18_7 Z18_8 Z18_9
      try clear Z20_0 Z20_1 Z20_10 Z20_2 Z20_3 Z20_4 Z20_5 Z20_6 Z20_7 Z20_8 Z20_9
      try clear Z22_0 Z22_1 Z22_10 Z22_2 Z22_3 Z22_4 Z22_5 Z22_6 Z22_7 Z22_8 Z22_9
      try clear Z23_0 Z23_1 Z23_10 Z23_2 Z23_3 Z23_4 Z23_5 Z23_6 Z23_7 Z23_8 Z23_9
      try clear Z25_0 Z25_1 Z25_10 Z25_2 Z25_3 Z25_4 Z25_5 Z25_6 Z25_7 Z25_8 Z25_9
      try clear Z27_0 Z27_1 Z27_10 Z27_2 Z27_3 Z27_4 Z27_5 Z27_6 Z27_7 Z27_8 Z27_9
      try clear Z29_0 Z29_1 Z29_10 Z29_2 Z29_3 Z29_4 Z29_5 Z29_6 Z29_7 Z29_8 Z29_9
      try clear Z31_0 Z31_1 Z31_10 Z31_2 Z31_3 Z31_4 Z31_5 Z31_6 Z31_7 Z31_8 Z31_9
      try clear Z36_0 Z36_1 Z36_10 Z36_2 Z36_3 Z36_4 Z36_5 Z36_6 Z36_7 Z36_8 Z36_9
      try clear Z37_0 Z37_1 Z37_10 Z37_2 Z37_3 Z37_4 Z37_5 Z37_6 Z37_7 Z37_8 Z37_9
      try clear Z41_0 Z41_1 Z41_10 Z41_2 Z41_3 Z41_4 Z41_5 Z41_6 Z41_7 Z41_8 Z41_9
      try clear Z6_0 Z6_1 Z6_10 Z6_2 Z6_3 Z6_4 Z6_5 Z6_6 Z6_7 Z6_8 Z6_9
      try clear Z9_0 Z9_1 Z9_10 Z9_2 Z9_3 Z9_4 Z9_5 Z9_6 Z9_7 Z9_8 Z9_9
      try clear F16
      try clear F18
      try clear F20
      try clear F22
      try clear F23
      try clear F25
      try clear F27
      try clear F29
      try clear F31
      try clear F36
      try clear F37
      try clear F41
      try clear F6
      try clear F9
      try clear p2
      obtain ⟨x48_3, x108000_3, rfl, HA, HK3, K101, HI107, HB⟩ := hrel
      cases gk with
      | zero => exact absurd HA.out (by simp [qq_.l0])
      | succ k3 =>
       have H := HA.out; clear HA; simp only [qq_.l0] at H; by_cases c42 : x48_3 < (l0_1.length : Int); rotate_left
       ·rw [if_neg c42] at H; have c42b0 := df_ c42; clear c42; obtain rfl := oi_ H; go_wp2
        go_ret
        exact ⟨z3_, z23_⟩
       rw [if_pos c42] at H; have c42b0 := dt_ c42; clear c42; by_cases c43 : 0 ≤ x48_3; rotate_left
       ·rw [if_neg c43] at H; exact no_ H
       rw [if_pos c43] at H; have c43b0 := dt_ c43; clear c43; by_cases c44 : x48_3 < (l0_1.length : Int); rotate_left
       ·rw [if_neg c44] at H; exact no_ H
       rw [if_pos c44] at H; have c44b0 := dt_ c44; clear c44; by_cases c45 : (rdOf ByteArray.empty l0_1 x48_3).size ≤ 9223372036854775807; rotate_left
       ·rw [if_neg c45] at H; exact no_ H
       rw [if_pos c45] at H; have c45b0 := eq_true c45; have c45b1 := dt_ c45; try have c45b2 := nl_ c45
       clear c45; by_cases c46 : MSB.get x108000_3 (rdOf ByteArray.empty l0_1 x48_3) = true
       ·rw [if_pos c46] at H; have c46b0 : MSB.get x108000_3 (rdOf ByteArray.empty l0_1 x48_3) = true := c46; clear c46; obtain rfl := oi_ H; have p108 : 0 ≤ (x48_3 : Int) := y0_; have q108 : x48_3 < (l0_1.length : Int) := y0_; obtain ⟨ad108, e108, hx108_0⟩ := Kd.at_string HR0_1.out x48_3 p108 q108
        cases e108
        replace hx108_0 := (HB.out.cell (World.block_lt_of_cell? w _ hx108_0)).trans hx108_0; replace p108 := eq_true p108; replace q108 := eq_true q108; go_wp2_with (first | ((with_reducible refine qk_ (N := 54) rfl ?_); (try (refine qcp_ (by rfl) ?_; dsimp only)); refine IsS84.look (show IsS84 w _ g107 x108000_3 from z25_) rfl rfl rfl rfl (y0_ : (rdOf ByteArray.empty l0_1 x48_3).size ≤ 9223372036854775807) (by first | (with_reducible assumption) | exact rfl) ?_)); go_ret
        exact ⟨z3_, z23_⟩
       rw [if_neg c46] at H; have c46b0 : MSB.get x108000_3 (rdOf ByteArray.empty l0_1 x48_3) = false := by simpa using c46
       clear c46; have c47b0 := eq_true (y0_ : (rdOf ByteArray.empty l0_1 x48_3).size ≤ 9223372036854775807); by_cases c48 : x108000_3.n < 4611686018427387904; rotate_left
       ·rw [if_neg c48] at H; exact no_ H
       rw [if_pos c48] at H; have c48b0 := eq_true c48; have c48b1 := dt_ c48; clear c48; have H' := qa_.mk H; clear H; have p108 : 0 ≤ (x48_3 : Int) := y0_; have q108 : x48_3 < (l0_1.length : Int) := y0_; obtain ⟨ad108, e108, hx108_0⟩ := Kd.at_string HR0_1.out x48_3 p108 q108
       cases e108
       replace hx108_0 := (HB.out.cell (World.block_lt_of_cell? w _ hx108_0)).trans hx108_0; replace p108 := eq_true p108; replace q108 := eq_true q108; go_wp2_with (first | ((with_reducible refine qk_ (N := 54) rfl ?_); (try (refine qcp_ (by rfl) ?_; dsimp only)); refine IsS84.look (show IsS84 w _ g107 x108000_3 from z25_) rfl rfl rfl rfl (y0_ : (rdOf ByteArray.empty l0_1 x48_3).size ≤ 9223372036854775807) (by first | (with_reducible assumption) | exact rfl) ?_) | (at_mapUpdate; refine IsS84.put_ (k := (rdOf ByteArray.empty l0_1 x48_3)) (n := true) (show IsS84 w _ g107 x108000_3 from z25_) rfl rfl rfl rfl rfl (y0_ : (rdOf ByteArray.empty l0_1 x48_3).size ≤ 9223372036854775807) (y0_ : x108000_3.n < 4611686018427387904) trivial ?_; intro w49 hi hg; replace K101 := qa_.mk (qdc_ (g := g101) (o := .cells #[.string a0_0, .slice (some ad108) l0_1.length c0_1, .string a0_2, .string a0_3, .int .i64 a0_4, .int .i64 a0_5, .string a0_6, .string a0_7, .int .i64 a0_8, .int .i64 a0_9, .string a0_10] 26 (0, 0)) (bk_ K101.out) hg (fun e_ => N101_107.out (Option.some.inj e_))); replace HB := qa_.mk (Below.grown z23_ hg ((qn_ z23_)) (fun k_ e_ => (Option.some.inj e_) ▸ (IsS84.ge hi))); replace HI107 := qa_.mk (hi); clear hi hg)); go_roundg k3
       case measure => have := HJ1.out; have := HJ33.out; have := HK3.out; omega
       case rel => exact ⟨(wrap64 (x48_3 + 1)), (MSB.put x108000_3 (rdOf ByteArray.empty l0_1 x48_3) true), z1_, H', ⟨by have := HJ1.out; have := HJ33.out; have := HK3.out; omega⟩, ⟨bk_ K101.out⟩, ⟨z25_⟩, ⟨z23_⟩⟩
def qaw_.l0 : Nat → ByteArray → List ByteArray → Int → Int → ByteArray → List ByteArray → ByteArray → ByteArray → Int → Int → ByteArray → ByteArray → Int → Int → ByteArray → Option (ByteArray × Int)
 | 0, _, _, _, _, _, _, _, _, _, _, _, _, _, _, _ => none
 | k + 1, x5, x18, x19, x20, x102000, x102001, x102002, x102003, x102004, x102005, x102006, x102007, x102008, x102009, x102010 => if x20 < x19 then (if 0 ≤ x20 then (if x20 < (x18.length : Int) then (if 7 + (rdOf ByteArray.empty x18 x20).size ≤ 9223372036854775807 then (if ((⟨#[112, 97, 114, 101, 110, 116, 32]⟩ : ByteArray) ++ (rdOf ByteArray.empty x18 x20)).size + 1 ≤ 9223372036854775807 then (if x5.size + (((⟨#[112, 97, 114, 101, 110, 116, 32]⟩ : ByteArray) ++ (rdOf ByteArray.empty x18 x20)) ++ (⟨#[10]⟩ : ByteArray)).size ≤ 9223372036854775807 then (qaw_.l0 k (x5 ++ (((⟨#[112, 97, 114, 101, 110, 116, 32]⟩ : ByteArray) ++ (rdOf ByteArray.empty x18 x20)) ++ (⟨#[10]⟩ : ByteArray))) x18 x19 (wrap64 (x20 + 1)) x102000 x102001 x102002 x102003 x102004 x102005 x102006 x102007 x102008 x102009 x102010) else (none)) else (none)) else (none)) else (none)) else (none)) else (if x5.size + 7 ≤ 9223372036854775807 then ((qcf_.f x102002 x102003 x102004 x102005).bind fun t104 => (if (x5 ++ (⟨#[97, 117, 116, 104, 111, 114, 32]⟩ : ByteArray)).size + t104.size ≤ 9223372036854775807 then (if ((x5 ++ (⟨#[97, 117, 116, 104, 111, 114, 32]⟩ : ByteArray)) ++ t104).size + 11 ≤ 9223372036854775807 then ((qcf_.f x102006 x102007 x102008 x102009).bind fun t105 => (if (((x5 ++ (⟨#[97, 117, 116, 104, 111, 114, 32]⟩ : ByteArray)) ++ t104) ++ (⟨#[10, 99, 111, 109, 109, 105, 116, 116, 101, 114, 32]⟩ : ByteArray)).size + t105.size ≤ 9223372036854775807 then (if ((((x5 ++ (⟨#[97, 117, 116, 104, 111, 114, 32]⟩ : ByteArray)) ++ t104) ++ (⟨#[10, 99, 111, 109, 109, 105, 116, 116, 101, 114, 32]⟩ : ByteArray)) ++ t105).size + 2 ≤ 9223372036854775807 then (if (((((x5 ++ (⟨#[97, 117, 116, 104, 111, 114, 32]⟩ : ByteArray)) ++ t104) ++ (⟨#[10, 99, 111, 109, 109, 105, 116, 116, 101, 114, 32]⟩ : ByteArray)) ++ t105) ++ (⟨#[10, 10]⟩ : ByteArray)).size + x102010.size ≤ 9223372036854775807 then (some ((((((x5 ++ (⟨#[97, 117, 116, 104, 111, 114, 32]⟩ : ByteArray)) ++ t104) ++ (⟨#[10, 99, 111, 109, 109, 105, 116, 116, 101, 114, 32]⟩ : ByteArray)) ++ t105) ++ (⟨#[10, 10]⟩ : ByteArray)) ++ x102010, 0)) else (none)) else (none)) else (none))) else (none)) else (none))) else (none))
def qaw_.f (k : Nat) (a0_0 : ByteArray) (l0_1 : List ByteArray) (a0_2 : ByteArray) (a0_3 : ByteArray) (a0_4 : Int) (a0_5 : Int) (a0_6 : ByteArray) (a0_7 : ByteArray) (a0_8 : Int) (a0_9 : Int) (a0_10 : ByteArray) : Option (ByteArray × Int) := (qq_.f k a0_0 l0_1 a0_2 a0_3 a0_4 a0_5 a0_6 a0_7 a0_8 a0_9 a0_10).bind fun t102 => (if t102 = 0 then (if 5 + a0_0.size ≤ 9223372036854775807 then (if ((⟨#[116, 114, 101, 101, 32]⟩ : ByteArray) ++ a0_0).size + 1 ≤ 9223372036854775807 then (qaw_.l0 k (((⟨#[116, 114, 101, 101, 32]⟩ : ByteArray) ++ a0_0) ++ (⟨#[10]⟩ : ByteArray)) l0_1 (l0_1.length : Int) 0 a0_0 l0_1 a0_2 a0_3 a0_4 a0_5 a0_6 a0_7 a0_8 a0_9 a0_10) else (none)) else (none)) else (some ((⟨#[]⟩ : ByteArray), t102)))
theorem qaw_.mono_l : ∀ k, (∀ y0 y1 y2 y3 y4 y5 y6 y7 y8 y9 y10 y11 y12 y13 y14, LeO (qaw_.l0 k y0 y1 y2 y3 y4 y5 y6 y7 y8 y9 y10 y11 y12 y13 y14) (qaw_.l0 (k + 1) y0 y1 y2 y3 y4 y5 y6 y7 y8 y9 y10 y11 y12 y13 y14))
 | 0 => fun _ _ _ _ _ _ _ _ _ _ _ _ _ _ _ r h => by simp [qaw_.l0] at h
 | k + 1 => by
  have ih0 := qaw_.mono_l k
  ·intro y0 y1 y2 y3 y4 y5 y6 y7 y8 y9 y10 y11 y12 y13 y14
   unfold qaw_.l0
   have m0_ := @ih0
   have m1_ := @qq_.mono
   exact mz_
theorem qaw_.mono : ∀ a0 a1 a2 a3 a4 a5 a6 a7 a8 a9 a10 k, LeO (qaw_.f k a0 a1 a2 a3 a4 a5 a6 a7 a8 a9 a10) (qaw_.f (k + 1) a0 a1 a2 a3 a4 a5 a6 a7 a8 a9 a10) := by
 intro a0 a1 a2 a3 a4 a5 a6 a7 a8 a9 a10 k; have ih0 := qaw_.mono_l k; unfold qaw_.f; have m0_ := @ih0; have m1_ := @qq_.mono; exact mz_
def qaw_.T10 : Bool × List (List Nat × List Nat) := (true, [([], []), ([0], [0]), ([], []), ([2], [2]), ([3], [3]), ([1, 4], [1, 4]), ([5], [5]), ([], []), ([7], [7]), ([8, 4], [8]), ([6, 9], [6, 9]), ([10], [10]), ([], []), ([12], [12]), ([11, 13], [11, 13]), ([14, 9, 0, 1, 2, 3, 4, 5, 6, 7, 8, 9, 10, 11, 12, 13, 14], [14]), ([15, 0, 1, 2, 3, 4, 5, 6, 7, 8, 9, 10, 11, 12, 13, 14, 15], [])])
def qaw_.B10 : List Nat := [0, 1, 0, 4, 12, 31, 63, 0, 128, 412, 1023, 2047, 0, 4096, 16383, 32767, 65535]
theorem qaw_.tab10 : rtab .any (opsOf Tryz.f16 10) = qaw_.T10 := by kernel_rfl
theorem qaw_.bits10 : qdi_ qaw_.T10.2 qaw_.B10 = true := by kernel_rfl
theorem qaw_.calls (k : Nat) (a0_0 : ByteArray) (A0_1 : Option Addr) (c0_1 : Nat) (l0_1 : List ByteArray) (a0_2 : ByteArray) (a0_3 : ByteArray) (a0_4 : Int) (a0_5 : Int) (a0_6 : ByteArray) (a0_7 : ByteArray) (a0_8 : Int) (a0_9 : Int) (a0_10 : ByteArray) (r1 : ByteArray) (r2 : Int) (w : World) (hr0_1 : Kd.C Kd.string w A0_1 l0_1.length l0_1) (hc0_1 : l0_1.length ≤ c0_1) (hgv : GV w) (h : qaw_.f k a0_0 l0_1 a0_2 a0_3 a0_4 a0_5 a0_6 a0_7 a0_8 a0_9 a0_10 = some (r1, r2)) :
  Calls Tryz.prog 16 #[.agg #[.string a0_0, .slice A0_1 l0_1.length c0_1, .string a0_2, .string a0_3, .int .i64 a0_4, .int .i64 a0_5, .string a0_6, .string a0_7, .int .i64 a0_8, .int .i64 a0_9, .string a0_10]] w fun e w' => e = .returned (.tuple #[.string r1, .int .i64 r2]) ∧ Below w.heap.size w w' := by
 have hu26 := underlying26; have hu24 := underlying24; have HR0_1 := qa_.mk hr0_1; have HC0_1 := qa_.mk hc0_1; clear hr0_1 hc0_1; have HB := qa_.mk (Below.refl w.heap.size w); unfold qaw_.f at h; have H := h; clear h; obtain ⟨t102, A2, H⟩ := bx_ H; by_cases c3 : t102 = 0; rotate_left
 ·rw [if_neg c3] at H; have c3b0 := ef_ c3; have c3b1 := nt_ c3; obtain ⟨rfl, rfl⟩ := pj2_ H; go_enter func16, ntmps16; go_wp2_with (first | ((with_reducible refine qk_ (N := 1) rfl ?_); refine be_ (cs := #[.string a0_0, .slice A0_1 l0_1.length c0_1, .string a0_2, .string a0_3, .int .i64 a0_4, .int .i64 a0_5, .string a0_6, .string a0_7, .int .i64 a0_8, .int .i64 a0_9, .string a0_10]) (t := 26) ?_; intro g101 hg w27 hbox hb; have K101 := qa_.mk (hbox); have W101 := ag_ hg HB; have E101 := ag_ hg HB; replace HB := ah_ HB hb; clear hb hbox hg; obtain ⟨Z28_0, Z28_1, Z28_2, Z28_3, Z28_4, Z28_5, Z28_6, Z28_7, Z28_8, Z28_9, Z28_10, F28⟩ := bc11 K101.out) | ((with_reducible refine qb_ (f := 18) rfl ?_); refine gl_ (some 9) func18 #[.agg #[.string a0_0, .slice A0_1 l0_1.length c0_1, .string a0_2, .string a0_3, .int .i64 a0_4, .int .i64 a0_5, .string a0_6, .string a0_7, .int .i64 a0_8, .int .i64 a0_9, .string a0_10]] ?_; (with_reducible refine (qq_.calls k a0_0 _ _ l0_1 a0_2 a0_3 a0_4 a0_5 a0_6 a0_7 a0_8 a0_9 a0_10 t102 _ ?side1 ?side2 ?side3 A2.out).mono ?_); (case side1 => repeat (first | exact (Kd.C_below HR0_1.out HB.out) | (with_reducible refine Kd.C_alloc ?_ _) | (with_reducible refine Kd.C_drewN ?_ _) | (with_reducible refine Kd.C_drew ?_))); (case side2 => exact HC0_1.out); (case side3 => exact GV.below hgv (hs_)); rintro e w29 ⟨rfl, hb⟩; refine ⟨_, rfl, ?_⟩; replace K101 := ab_ K101 hb; replace HB := qa_.mk (qc_ (hs_) hb); (try clear hb); (try clear hb2); (try clear hk); (try clear hi)))
  go_ret2
  exact ⟨z3_, hs_⟩
 rw [if_pos c3] at H; have c3b0 := et_ c3; have c3b1 := nf_ c3; clear c3; by_cases c4 : 5 + a0_0.size ≤ 9223372036854775807; rotate_left
 ·rw [if_neg c4] at H; exact no_ H
 rw [if_pos c4] at H; have c4b0 := eq_true c4; have c4b1 := dt_ c4; try have c4b2 := nl_ c4
 by_cases c5 : ((⟨#[116, 114, 101, 101, 32]⟩ : ByteArray) ++ a0_0).size + 1 ≤ 9223372036854775807; rotate_left
 ·rw [if_neg c5] at H; exact no_ H
 rw [if_pos c5] at H; have c5b0 := eq_true c5; have c5b1 := dt_ c5; try have c5b3 : (9223372036854775807 < 5 + a0_0.size + 1) = False := have h_ := c5; ns_
 try have c5b2 := nl_ c5
 have H' := qa_.mk H; clear H; go_enter func16, ntmps16; go_wp2_with (first | ((with_reducible refine qk_ (N := 1) rfl ?_); refine be_ (cs := #[.string a0_0, .slice A0_1 l0_1.length c0_1, .string a0_2, .string a0_3, .int .i64 a0_4, .int .i64 a0_5, .string a0_6, .string a0_7, .int .i64 a0_8, .int .i64 a0_9, .string a0_10]) (t := 26) ?_; intro g101 hg w6 hbox hb; have K101 := qa_.mk (hbox); have W101 := ag_ hg HB; have E101 := ag_ hg HB; replace HB := ah_ HB hb; clear hb hbox hg; obtain ⟨Z7_0, Z7_1, Z7_2, Z7_3, Z7_4, Z7_5, Z7_6, Z7_7, Z7_8, Z7_9, Z7_10, F7⟩ := bc11 K101.out) | ((with_reducible refine qb_ (f := 18) rfl ?_); refine gl_ (some 9) func18 #[.agg #[.string a0_0, .slice A0_1 l0_1.length c0_1, .string a0_2, .string a0_3, .int .i64 a0_4, .int .i64 a0_5, .string a0_6, .string a0_7, .int .i64 a0_8, .int .i64 a0_9, .string a0_10]] ?_; (with_reducible refine (qq_.calls k a0_0 _ _ l0_1 a0_2 a0_3 a0_4 a0_5 a0_6 a0_7 a0_8 a0_9 a0_10 t102 _ ?side1 ?side2 ?side3 A2.out).mono ?_); (case side1 => repeat (first | exact (Kd.C_below HR0_1.out HB.out) | (with_reducible refine Kd.C_alloc ?_ _) | (with_reducible refine Kd.C_drewN ?_ _) | (with_reducible refine Kd.C_drew ?_))); (case side2 => exact HC0_1.out); (case side3 => exact GV.below hgv (hs_)); rintro e w8 ⟨rfl, hb⟩; refine ⟨_, rfl, ?_⟩; replace K101 := ab_ K101 hb; replace HB := qa_.mk (qc_ (hs_) hb); (try clear hb); (try clear hb2); (try clear hk); (try clear hi); obtain ⟨Z9_0, Z9_1, Z9_2, Z9_3, Z9_4, Z9_5, Z9_6, Z9_7, Z9_8, Z9_9, Z9_10, F9⟩ := bc11 K101.out)); go_loopg [5, 20] k (fun kq v5 v20 w' => ∃ (x5_1 : ByteArray) (x20_1 : Int), v5 = .string x5_1 ∧ v20 = .int .i64 x20_1 ∧ qa_ (qaw_.l0 kq x5_1 l0_1 (l0_1.length : Int) x20_1 a0_0 l0_1 a0_2 a0_3 a0_4 a0_5 a0_6 a0_7 a0_8 a0_9 a0_10 = some (r1, r2)) ∧ qa_ (kq ≤ k) ∧ qa_ (w'.heap[g101]? = some (.cells #[.string a0_0, (.slice A0_1 l0_1.length c0_1), .string a0_2, .string a0_3, .int .i64 a0_4, .int .i64 a0_5, .string a0_6, .string a0_7, .int .i64 a0_8, .int .i64 a0_9, .string a0_10] 26 (0, 0))) ∧ qa_ (Below w.heap.size w w'))
 case atStart => exact ⟨(((⟨#[116, 114, 101, 101, 32]⟩ : ByteArray) ++ a0_0) ++ (⟨#[10]⟩ : ByteArray)), (0), z1_, z1_, H', ⟨Nat.le_refl _⟩, ⟨bk_ K101.out⟩, ⟨hs_⟩⟩
 case round =>
  clear H'; try clear c1
  try clear p2
  try clear c3
  try clear c3b0
  try clear c3b1
  try clear c4
  try clear c4b0
  try clear c4b1
  try clear c4b2
  try clear c5
  try clear c5b0
  try clear c5b1
  try clear c5b2
  try clear Z7_0 Z7_1 Z7_10 Z7_2 Z7_3 Z7_4 Z7_5 Z7_6 Z7_7 Z7_8 Z7_9
  try clear Z9_0 Z9_1 Z9_10 Z9_2 Z9_3 Z9_4 Z9_5 Z9_6 Z9_7 Z9_8 Z9_9
  try clear F7
  try clear F9
  obtain ⟨x5_1, x20_1, rfl, rfl, HA, HK1, K101, HB⟩ := hrel
  cases gk with
  | zero => exact absurd HA.out (by simp [qaw_.l0])
  | succ k1 =>
   have H := HA.out; clear HA; simp only [qaw_.l0] at H; by_cases c10 : x20_1 < (l0_1.length : Int)
   ·rw [if_pos c10] at H; have c10b0 := dt_ c10; clear c10; by_cases c11 : 0 ≤ x20_1; rotate_left
    ·rw [if_neg c11] at H; exact no_ H
    rw [if_pos c11] at H; have c11b0 := dt_ c11; clear c11; by_cases c12 : x20_1 < (l0_1.length : Int); rotate_left
    ·rw [if_neg c12] at H; exact no_ H
    rw [if_pos c12] at H; have c12b0 := dt_ c12; clear c12; by_cases c13 : 7 + (rdOf ByteArray.empty l0_1 x20_1).size ≤ 9223372036854775807; rotate_left
    ·rw [if_neg c13] at H; exact no_ H
    rw [if_pos c13] at H; have c13b0 := eq_true c13; have c13b1 := dt_ c13; try have c13b2 := nl_ c13
    by_cases c14 : ((⟨#[112, 97, 114, 101, 110, 116, 32]⟩ : ByteArray) ++ (rdOf ByteArray.empty l0_1 x20_1)).size + 1 ≤ 9223372036854775807; rotate_left
    ·rw [if_neg c14] at H; exact no_ H
    rw [if_pos c14] at H; have c14b0 := eq_true c14; have c14b1 := dt_ c14; try have c14b3 : (9223372036854775807 < 7 + (rdOf ByteArray.empty l0_1 x20_1).size + 1) = False := have h_ := c14; ns_
    try have c14b2 := nl_ c14
    by_cases c15 : x5_1.size + (((⟨#[112, 97, 114, 101, 110, 116, 32]⟩ : ByteArray) ++ (rdOf ByteArray.empty l0_1 x20_1)) ++ (⟨#[10]⟩ : ByteArray)).size ≤ 9223372036854775807; rotate_left
    ·rw [if_neg c15] at H; exact no_ H
    rw [if_pos c15] at H; have c15b0 := eq_true c15; have c15b1 := dt_ c15; try have c15b3 : (9223372036854775807 < x5_1.size + (7 + (rdOf ByteArray.empty l0_1 x20_1).size + 1)) = False := have h_ := c15; ns_
    try have c15b2 := nl_ c15
    have H' := qa_.mk H; clear H; have p103 : 0 ≤ (x20_1 : Int) := y0_; have q103 : x20_1 < (l0_1.length : Int) := y0_; obtain ⟨ad103, e103, hx103_0⟩ := Kd.at_string HR0_1.out x20_1 p103 q103
    cases e103
    replace hx103_0 := (HB.out.cell (World.block_lt_of_cell? w _ hx103_0)).trans hx103_0; replace p103 := eq_true p103; replace q103 := eq_true q103; go_wp2
    go_roundg k1
    case measure => have := HK1.out; omega
    case rel => exact ⟨(x5_1 ++ (((⟨#[112, 97, 114, 101, 110, 116, 32]⟩ : ByteArray) ++ (rdOf ByteArray.empty l0_1 x20_1)) ++ (⟨#[10]⟩ : ByteArray))), (wrap64 (x20_1 + 1)), z1_, z1_, H', ⟨by have := HK1.out; omega⟩, ⟨bk_ K101.out⟩, ⟨hs_⟩⟩
   rw [if_neg c10] at H; have c10b0 := df_ c10; clear c10; by_cases c16 : x5_1.size + 7 ≤ 9223372036854775807; rotate_left
   ·rw [if_neg c16] at H; exact no_ H
   rw [if_pos c16] at H; have c16b0 := eq_true c16; have c16b1 := dt_ c16; try have c16b2 := nl_ c16
   obtain ⟨t104, A17, H⟩ := bx_ H; by_cases c18 : (x5_1 ++ (⟨#[97, 117, 116, 104, 111, 114, 32]⟩ : ByteArray)).size + t104.size ≤ 9223372036854775807; rotate_left
   ·rw [if_neg c18] at H; exact no_ H
   rw [if_pos c18] at H; have c18b0 := eq_true c18; have c18b1 := dt_ c18; try have c18b3 : (9223372036854775807 < x5_1.size + 7 + t104.size) = False := have h_ := c18; ns_
   try have c18b2 := nl_ c18
   by_cases c19 : ((x5_1 ++ (⟨#[97, 117, 116, 104, 111, 114, 32]⟩ : ByteArray)) ++ t104).size + 11 ≤ 9223372036854775807; rotate_left
   ·rw [if_neg c19] at H; exact no_ H
   rw [if_pos c19] at H; have c19b0 := eq_true c19; have c19b1 := dt_ c19; try have c19b3 : (9223372036854775807 < x5_1.size + 7 + t104.size + 11) = False := have h_ := c19; ns_
   try have c19b2 := nl_ c19
   obtain ⟨t105, A20, H⟩ := bx_ H; by_cases c21 : (((x5_1 ++ (⟨#[97, 117, 116, 104, 111, 114, 32]⟩ : ByteArray)) ++ t104) ++ (⟨#[10, 99, 111, 109, 109, 105, 116, 116, 101, 114, 32]⟩ : ByteArray)).size + t105.size ≤ 9223372036854775807; rotate_left
   ·rw [if_neg c21] at H; exact no_ H
   rw [if_pos c21] at H; have c21b0 := eq_true c21; have c21b1 := dt_ c21; try have c21b3 : (9223372036854775807 < x5_1.size + 7 + t104.size + 11 + t105.size) = False := have h_ := c21; ns_
   try have c21b2 := nl_ c21
   by_cases c22 : ((((x5_1 ++ (⟨#[97, 117, 116, 104, 111, 114, 32]⟩ : ByteArray)) ++ t104) ++ (⟨#[10, 99, 111, 109, 109, 105, 116, 116, 101, 114, 32]⟩ : ByteArray)) ++ t105).size + 2 ≤ 9223372036854775807; rotate_left
   ·rw [if_neg c22] at H; exact no_ H
   rw [if_pos c22] at H; have c22b0 := eq_true c22; have c22b1 := dt_ c22; try have c22b3 : (9223372036854775807 < x5_1.size + 7 + t104.size + 11 + t105.size + 2) = False := have h_ := c22; ns_
   try have c22b2 := nl_ c22
   by_cases c23 : (((((x5_1 ++ (⟨#[97, 117, 116, 104, 111, 114, 32]⟩ : ByteArray)) ++ t104) ++ (⟨#[10, 99, 111, 109, 109, 105, 116, 116, 101, 114, 32]⟩ : ByteArray)) ++ t105) ++ (⟨#[10, 10]⟩ : ByteArray)).size + a0_10.size ≤ 9223372036854775807; rotate_left
   ·rw [if_neg c23] at H; exact no_ H
   rw [if_pos c23] at H; have c23b0 := eq_true c23; have c23b1 := dt_ c23; try have c23b3 : (9223372036854775807 < x5_1.size + 7 + t104.size + 11 + t105.size + 2 + a0_10.size) = False := have h_ := c23; ns_
   try have c23b2 := nl_ c23
   obtain ⟨rfl, rfl⟩ := pj2_ H; try go_wp2
   replace K101 := ad_ K101; replace HB := hd_ HB; refine qdl_ (n := 17) (S := fun w' => w'.cell? ⟨g101, 0, none⟩ = some (.string a0_0) ∧ w'.cell? ⟨g101, 1, none⟩ = some (.slice A0_1 l0_1.length c0_1) ∧ w'.cell? ⟨g101, 2, none⟩ = some (.string a0_2) ∧ w'.cell? ⟨g101, 3, none⟩ = some (.string a0_3) ∧ w'.cell? ⟨g101, 4, none⟩ = some (.int .i64 a0_4) ∧ w'.cell? ⟨g101, 5, none⟩ = some (.int .i64 a0_5) ∧ w'.cell? ⟨g101, 6, none⟩ = some (.string a0_6) ∧ w'.cell? ⟨g101, 7, none⟩ = some (.string a0_7) ∧ w'.cell? ⟨g101, 8, none⟩ = some (.int .i64 a0_8) ∧ w'.cell? ⟨g101, 9, none⟩ = some (.int .i64 a0_9) ∧ w'.cell? ⟨g101, 10, none⟩ = some (.string a0_10)) (ds := []) (bs 17 0) (by kernel_rfl) rfl rfl (bc11o K101.out) (fun qal_ => ?_); refine qds_ qaw_.tab10 qaw_.bits10 (fun HT_ HW_ => ?_); generalize wr.drew = w24 at K101 HB qal_ ⊢; refine pun_ 0 30 17 1 ?_; refine pun_ 1 31 17 3 ?_; refine pun_ 2 32 17 7 ?_; refine pun_ 7 37 17 135 ?_; refine pun_ 12 42 17 4231 ?_; refine tkW11n_ 3 33 17 4239 qal_ ?_; refine tkW11n_ 8 38 17 4495 qal_ ?_; refine tkW11n_ 13 43 17 12687 qal_ ?_; refine on_ 4 34 17 12703 (fun K hK => ?_); refine goes_ func31 (by kernel_rfl) rfl #[.agg #[.string a0_2, .string a0_3, .int .i64 a0_4, .int .i64 a0_5]] (by rfl) rfl rfl z5_ ?_
   with_reducible refine (qcf_.calls a0_2 a0_3 a0_4 a0_5 t104 _ ?side1 A17.out).mono ?_
   (case side1 => exact GV.below hgv (hs_))
   rintro e w25 ⟨rfl, hb⟩; refine ⟨_, rfl, ?_⟩; replace K101 := ab_ K101 hb; replace HB := qa_.mk (qc_ (hs_) hb); (try clear hb)
   (try clear hb2)
   (try clear hk)
   (try clear hi)
   refine hK.out _ _ (bc11o K101.out) (fun qal_ => ?_); clear hK K; refine norm_ (a' := ?_) ?_ ?_; rotate_left
   ·show Act.put _ (some 34) _ = _
    simp only [Act.put, List.setIfInBounds_toArray, List.set_cons_zero, List.set_cons_succ, i64_w, i32_w]; rfl
   refine pun_ 5 35 17 12735 ?_; refine pun_ 6 36 17 12799 ?_; refine on_ 9 39 17 13311 (fun K hK => ?_); refine goes_ func31 (by kernel_rfl) rfl #[.agg #[.string a0_6, .string a0_7, .int .i64 a0_8, .int .i64 a0_9]] (by rfl) rfl rfl z5_ ?_
   with_reducible refine (qcf_.calls a0_6 a0_7 a0_8 a0_9 t105 _ ?side1 A20.out).mono ?_
   (case side1 => exact GV.below hgv (hs_))
   rintro e w26 ⟨rfl, hb⟩; refine ⟨_, rfl, ?_⟩; replace K101 := ab_ K101 hb; replace HB := qa_.mk (qc_ (hs_) hb); (try clear hb)
   (try clear hb2)
   (try clear hk)
   (try clear hi)
   refine hK.out _ _ (bc11o K101.out) (fun qal_ => ?_); clear hK K; refine norm_ (a' := ?_) ?_ ?_; rotate_left
   ·show Act.put _ (some 39) _ = _
    simp only [Act.put, List.setIfInBounds_toArray, List.set_cons_zero, List.set_cons_succ, i64_w, i32_w]; rfl
   refine pun_ 10 40 17 14335 ?_; refine pun_ 11 41 17 16383 ?_; refine pun_ 14 44 17 32767 ?_; refine pun_ 15 2 17 65535 ?_; refine pun_ 16 3 17 131071 ?_; refine dn_ ?_; try go_wp2
   go_ret2
   exact ⟨z3_, hs_⟩
end Go.Proofs.YtbhfbbfjdklfgaaGreatDoor.Q

