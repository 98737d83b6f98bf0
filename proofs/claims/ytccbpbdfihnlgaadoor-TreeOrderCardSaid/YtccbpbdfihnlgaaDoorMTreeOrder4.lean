/- The law TreeOrder holds: for every input it returns true, and each argument reads afterwards as it read before. -/
import Derived.Test.YtccbpbdfihnlgaaDoorMX1
import Derived.Test.YtccbpbdfihnlgaaDoorMX2
import Derived.Test.YtccbpbdfihnlgaaDoorMTreeOrder1
import Derived.Test.YtccbpbdfihnlgaaDoorMTreeOrder2
import Derived.Test.YtccbpbdfihnlgaaDoorMTreeOrder3
import Derived.Laws.Cover1
import Derived.Sort.Walk0
import Derived.Deep.Slices
import Derived.Lib.SmallJoins
import Derived.ChangeArms
import Derived.SizedLaws
import Derived.WalkKit
import Derived.ProofKit
import Derived.Test.YtccbpbdfihnlgaaDoorRows
import Derived.Test.YtccbpbdfihnlgaaDoorTie
import Derived.Test.YtccbpbdfihnlgaaDoorCards
import Derived.OpenShut
import Derived.ShutString
import Derived.ChangeOld
import Derived.Below
import Derived.Lay
import Derived.LaidOnce
import Derived.SevenTiedAt
import Derived.LaidLaws
import Derived.Handed
import Derived.ChangeVars
import Derived.JoinedOf
set_option linter.unusedVariables false
set_option linter.unusedSimpArgs false
/- Ids: digits, bytes and their digits; the program's and the reference's. -/
namespace Go.Proofs.YtccbpbdfihnlgaaDoor.Q
open Go.RowKit Go.Proofs.YtccbpbdfihnlgaaDoorW.PrintWords Go.Proofs.YtccbpbdfihnlgaaDoorW.PrintLast Go.Proofs.YtccbpbdfihnlgaaDoorW.PrintMore

def hexD : List UInt8 := [48, 49, 50, 51, 52, 53, 54, 55, 56, 57, 97, 98, 99, 100, 101, 102]
/-- A digit's value; -1. -/
def dv (b : Int) : Int := Lib.indexByte hexD b.toNat.toUInt8
theorem dv_table : ∀ n : Fin 256, graftageref02_Digit.f 2 (n.val : Int) = some (dv (n.val : Int)) ∧ -1 ≤ dv (n.val : Int) ∧ dv (n.val : Int) ≤ 15 := by decide +kernel
theorem bt_fin (s : ByteArray) (i : Int) : ∃ n : Fin 256, bt s i = (n.val : Int) := by
  obtain ⟨h0, h1⟩ := bt_range s i
  exact ⟨⟨(bt s i).toNat, by omega⟩, by simp; omega⟩
theorem dv_bt (s : ByteArray) (i : Int) : -1 ≤ dv (bt s i) ∧ dv (bt s i) ≤ 15 := by
  obtain ⟨n, hn⟩ := bt_fin s i
  rw [hn]; exact (dv_table n).2
theorem value_eq (b : Int) : ident_value.f b = some (dv b) := rfl
theorem Digit_bt (s : ByteArray) (i : Int) (k : Nat) (hk : 2 ≤ k) : graftageref02_Digit.f k (bt s i) = some (dv (bt s i)) := by
  obtain ⟨n, hn⟩ := bt_fin s i
  rw [hn]
  exact at_rounds (fun k => graftageref02_Digit.mono _ k) hk (dv_table n).1
/-- Are all digits, from a place on? -/
def hexF (s : ByteArray) : Nat → Nat → Bool
  | 0, _ => true
  | d + 1, i => decide (0 ≤ dv (bt s i)) && hexF s d (i + 1)
theorem all_l0 (s : ByteArray) (hs : s.size ≤ 140737488351232) : ∀ (d k i : Nat), i + d = s.size → d < k → ident_all.l0 k s s.size i = some (hexF s d i) := by
  intro d
  induction d with
  | zero =>
    intro k i hi hk
    obtain ⟨k, rfl⟩ : ∃ m, k = m + 1 := ⟨k - 1, by omega⟩
    simp only [ident_all.l0]
    rw [if_neg (by omega)]; rfl
  | succ d ih =>
    intro k i hi hk
    obtain ⟨k, rfl⟩ : ∃ m, k = m + 1 := ⟨k - 1, by omega⟩
    have := ih k (i + 1) (by omega) (by omega)
    simp only [ident_all.l0]
    rw [if_pos (by omega), if_pos (by omega), if_pos (by omega), value_eq, wrap_id (by omega) (by omega)]
    simp only [Option.bind_some]
    rw [hexF]
    by_cases h : dv (bt s i) < 0
    · rw [if_pos h, decide_eq_false (by omega)]; rfl
    · rw [if_neg h, decide_eq_true (by omega), Bool.true_and]; exact_mod_cast this
theorem digits_l0 (s : ByteArray) (hs : s.size ≤ 140737488351232) : ∀ (d k i : Nat), i + d = s.size → d + 2 < k → graftageref02_digits.l0 k s i = some (hexF s d i) := by
  intro d
  induction d with
  | zero =>
    intro k i hi hk
    obtain ⟨k, rfl⟩ : ∃ m, k = m + 1 := ⟨k - 1, by omega⟩
    simp only [graftageref02_digits.l0]
    rw [if_neg (by omega)]; rfl
  | succ d ih =>
    intro k i hi hk
    obtain ⟨k, rfl⟩ : ∃ m, k = m + 1 := ⟨k - 1, by omega⟩
    have := ih k (i + 1) (by omega) (by omega)
    simp only [graftageref02_digits.l0]
    rw [if_pos (by omega), if_pos (by omega), Digit_bt s i k (by omega), wrap_id (by omega) (by omega)]
    simp only [Option.bind_some]
    rw [hexF]
    by_cases h : dv (bt s i) < 0
    · rw [if_pos h, decide_eq_false (by omega)]; rfl
    · rw [if_neg h, decide_eq_true (by omega), Bool.true_and]; exact_mod_cast this
def idOk (s : ByteArray) : Bool := decide (s.size = 40) && hexF s s.size 0
theorem ident_Is_ev (s : ByteArray) : Ev (fun k => ident_Is.f k s) (idOk s) := by
  unfold idOk
  by_cases h : s.size = 40
  · refine Ev.congr (f := fun k => (ident_all.f k s).bind fun t => some t) (fun k => by unfold ident_Is.f; rw [if_pos (by omega)]) ?_
    refine Ev.bind (Ev.of (fun k => ident_all.mono s k) (k := 60) (r := hexF s s.size 0) ?_) ?_
    · unfold ident_all.f
      exact_mod_cast all_l0 s (by omega) s.size 60 0 (by omega) (by omega)
    · rw [decide_eq_true h, Bool.true_and]; exact Ev.now _
  · refine Ev.congr (f := fun _ => some false) (fun k => by unfold ident_Is.f; rw [if_neg (by omega)]) ?_
    rw [decide_eq_false h, Bool.false_and]; exact Ev.now _
theorem ref_idIs_ev (s : ByteArray) : Ev (fun k => graftageref02_Is.f k s) (idOk s) := by
  unfold idOk
  by_cases h : s.size = 40
  · refine Ev.congr (f := fun k => (graftageref02_digits.f k s).bind fun t => some t) (fun k => by unfold graftageref02_Is.f; rw [if_pos (by omega)]) ?_
    refine Ev.bind (Ev.of (fun k => graftageref02_digits.mono s k) (k := 60) (r := hexF s s.size 0) ?_) ?_
    · unfold graftageref02_digits.f
      exact_mod_cast digits_l0 s (by omega) s.size 60 0 (by omega) (by omega)
    · rw [decide_eq_true h, Bool.true_and]; exact Ev.now _
  · refine Ev.congr (f := fun _ => some false) (fun k => by unfold graftageref02_Is.f; rw [if_neg (by omega)]) ?_
    rw [decide_eq_false h, Bool.false_and]; exact Ev.now _
theorem hexF_at (s : ByteArray) : ∀ (d i : Nat), hexF s d i = true → ∀ j, i ≤ j → j < i + d → 0 ≤ dv (bt s j)
  | 0, _, _, j, h1, h2 => by omega
  | d + 1, i, h, j, h1, h2 => by
    rw [hexF, Bool.and_eq_true, decide_eq_true_eq] at h
    by_cases e : j = i
    · rw [e]; exact h.1
    · exact hexF_at s d (i + 1) h.2 j (by omega) (by omega)
theorem hexF_of (s : ByteArray) : ∀ (d i : Nat), (∀ j, i ≤ j → j < i + d → 0 ≤ dv (bt s j)) → hexF s d i = true
  | 0, _, _ => rfl
  | d + 1, i, h => by
    rw [hexF, Bool.and_eq_true, decide_eq_true_eq]
    exact ⟨h i (by omega) (by omega), hexF_of s d (i + 1) (fun j h1 h2 => h j (by omega) (by omega))⟩
/-! ### Raw -/
def rawAt (s : ByteArray) (i : Nat) : Int := 16 * dv (bt s (2 * i : Nat)) + dv (bt s (2 * i + 1 : Nat))
def rawL (s : ByteArray) (n : Nat) : List Int := (List.range n).map (rawAt s)
def rawB (s : ByteArray) : ByteArray := strOfNums (rawL s 20)
theorem or_table : ∀ a b : Fin 16, Go.bits .or .i64 (wrap64 ((a.val : Int) * 16)) (b.val : Int) % 256 = 16 * (a.val : Int) + b.val := by decide +kernel
theorem or_eq {a b : Int} (h0 : 0 ≤ a) (h1 : a ≤ 15) (h2 : 0 ≤ b) (h3 : b ≤ 15) : Go.bits .or .i64 (wrap64 (a * 16)) b % 256 = 16 * a + b := by
  have := or_table ⟨a.toNat, by omega⟩ ⟨b.toNat, by omega⟩
  simpa [Int.toNat_of_nonneg h0, Int.toNat_of_nonneg h2] using this
theorem rawL_succ (s : ByteArray) (n : Nat) : rawL s (n + 1) = rawL s n ++ [rawAt s n] := by simp [rawL, List.range_succ]
theorem rawL_len (s : ByteArray) (n : Nat) : (rawL s n).length = n := by simp [rawL]
theorem Raw_l0 (s : ByteArray) (h40 : s.size = 40) (hd : ∀ j, j < 40 → 0 ≤ dv (bt s (j : Nat))) : ∀ (d k i : Nat), i + d = 20 → d < k →
    ident_Raw.l0 k s (rawL s i ++ List.replicate d 0) 20 i = some (rawB s, true) := by
  intro d
  induction d with
  | zero =>
    intro k i hi hk
    obtain ⟨k, rfl⟩ : ∃ m, k = m + 1 := ⟨k - 1, by omega⟩
    obtain rfl : i = 20 := by omega
    simp only [ident_Raw.l0]
    rw [if_neg (by omega)]
    simp [rawB]
  | succ d ih =>
    intro k i hi hk
    obtain ⟨k, rfl⟩ : ∃ m, k = m + 1 := ⟨k - 1, by omega⟩
    have := ih k (i + 1) (by omega) (by omega)
    have a1 := dv_bt s (2 * i : Nat)
    have a2 := dv_bt s (2 * i + 1 : Nat)
    have b1 := hd (2 * i) (by omega)
    have b2 := hd (2 * i + 1) (by omega)
    have w1 : wrap64 (2 * (i : Int)) = ((2 * i : Nat) : Int) := by rw [wrap_id (by omega) (by omega)]; omega
    have w2 : wrap64 (((2 * i : Nat) : Int) + 1) = ((2 * i + 1 : Nat) : Int) := by rw [wrap_id (by omega) (by omega)]; omega
    have hlen : (rawL s i ++ List.replicate (d + 1) 0 : List Int).length = 20 := by rw [List.length_append, rawL_len, List.length_replicate]; omega
    simp only [ident_Raw.l0]
    rw [if_pos (by omega), w1, if_pos (by omega), if_pos (by omega), value_eq, w2]
    simp only [Option.bind_some]
    rw [if_pos (by omega), if_pos (by omega), value_eq]
    simp only [Option.bind_some]
    rw [if_pos (by omega), if_pos (by rw [hlen]; omega), or_eq b1 a1.2 b2 a2.2, wrap_id (by omega) (by omega)]
    have e : (rawL s i ++ List.replicate (d + 1) 0 : List Int).set (i : Int).toNat (16 * dv (bt s ((2 * i : Nat) : Int)) + dv (bt s ((2 * i + 1 : Nat) : Int))) = rawL s (i + 1) ++ List.replicate d 0 := by
      rw [Int.toNat_natCast, List.set_append_right _ _ (by rw [rawL_len]; omega), rawL_len, Nat.sub_self, List.replicate_succ, List.set_cons_zero, rawL_succ]
      simp [rawAt]
    rw [e]
    exact_mod_cast this
theorem idOk_size {s : ByteArray} (h : idOk s = true) : s.size = 40 := by
  unfold idOk at h
  rw [Bool.and_eq_true, decide_eq_true_eq] at h
  exact h.1
theorem idOk_dv {s : ByteArray} (h : idOk s = true) : ∀ j, j < 40 → 0 ≤ dv (bt s (j : Nat)) := by
  have h40 := idOk_size h
  unfold idOk at h
  rw [Bool.and_eq_true, decide_eq_true_eq, h40] at h
  intro j hj
  exact hexF_at s 40 0 h.2 j (by omega) (by omega)
def rawOf (s : ByteArray) : ByteArray × Bool := if idOk s = true then (rawB s, true) else (⟨#[]⟩, false)
theorem ident_Raw_ev (s : ByteArray) : Ev (fun k => ident_Raw.f k s) (rawOf s) := by
  refine Ev.bind (ident_Is_ev s) ?_
  unfold rawOf
  by_cases h : idOk s = true
  · simp only [if_pos h]
    refine Ev.congr (f := fun k => ident_Raw.l0 k s (List.replicate 20 0) 20 0) (fun k => by rw [if_pos (by omega)]; rfl) ?_
    refine Ev.of (fun k => (ident_Raw.mono_l k) _ _ _ _) (k := 21) ?_
    · have := Raw_l0 s (idOk_size h) (idOk_dv h) 20 21 0 (by omega) (by omega)
      simpa [rawL] using this
  · simp only [if_neg h]; exact Ev.now _
theorem ref_Raw_l0 (s : ByteArray) (h40 : s.size = 40) (hd : ∀ j, j < 40 → 0 ≤ dv (bt s (j : Nat))) : ∀ (d k i : Nat), i + d = 20 → d + 2 < k →
    graftageref02_Raw.l0 k s (rawL s i) (2 * i : Nat) = some (rawB s, true) := by
  intro d
  induction d with
  | zero =>
    intro k i hi hk
    obtain ⟨k, rfl⟩ : ∃ m, k = m + 1 := ⟨k - 1, by omega⟩
    obtain rfl : i = 20 := by omega
    simp only [graftageref02_Raw.l0]
    rw [if_neg (by omega)]; rfl
  | succ d ih =>
    intro k i hi hk
    obtain ⟨k, rfl⟩ : ∃ m, k = m + 1 := ⟨k - 1, by omega⟩
    have := ih k (i + 1) (by omega) (by omega)
    have a1 := dv_bt s (2 * i : Nat)
    have a2 := dv_bt s (2 * i + 1 : Nat)
    have b1 := hd (2 * i) (by omega)
    have b2 := hd (2 * i + 1) (by omega)
    have w2 : wrap64 (((2 * i : Nat) : Int) + 1) = ((2 * i + 1 : Nat) : Int) := by rw [wrap_id (by omega) (by omega)]; omega
    have w3 : wrap64 (((2 * i : Nat) : Int) + 2) = ((2 * (i + 1) : Nat) : Int) := by rw [wrap_id (by omega) (by omega)]; omega
    simp only [graftageref02_Raw.l0]
    rw [if_pos (by omega), if_pos (by omega), if_pos (by omega), Digit_bt s _ k (by omega), w2]
    simp only [Option.bind_some]
    rw [if_pos (by omega), if_pos (by omega), Digit_bt s _ k (by omega)]
    simp only [Option.bind_some]
    rw [if_pos (by rw [rawL_len]; omega), w3]
    have e : wrap64 (wrap64 (16 * dv (bt s ((2 * i : Nat) : Int))) + dv (bt s ((2 * i + 1 : Nat) : Int))) % 256 = rawAt s i := by
      unfold rawAt
      rw [wrap_id (x := 16 * _) (by omega) (by omega), wrap_id (by omega) (by omega)]
      omega
    rw [e, ← rawL_succ]
    exact this
theorem ref_Raw_ev (s : ByteArray) : Ev (fun k => graftageref02_Raw.f k s) (rawOf s) := by
  refine Ev.bind (ref_idIs_ev s) ?_
  unfold rawOf
  by_cases h : idOk s = true
  · simp only [if_pos h]
    refine Ev.of (fun k => (graftageref02_Raw.mono_l k) _ _ _) (k := 30) ?_
    exact ref_Raw_l0 s (idOk_size h) (idOk_dv h) 20 30 0 (by omega) (by omega)
  · simp only [if_neg h]; exact Ev.now _
/-! ### Hex -/
def hx (n : Int) : Int := bt (⟨#[48, 49, 50, 51, 52, 53, 54, 55, 56, 57, 97, 98, 99, 100, 101, 102]⟩ : ByteArray) n
def hexL (s : ByteArray) : Nat → List Int
  | 0 => []
  | n + 1 => hexL s n ++ [hx (bt s n / 16), hx (bt s n % 16)]
theorem hexL_len (s : ByteArray) : ∀ n, (hexL s n).length = 2 * n
  | 0 => rfl
  | n + 1 => by rw [hexL, List.length_append, hexL_len s n]; simp; omega
def hexB (s : ByteArray) : ByteArray := strOfNums (hexL s s.size)
theorem and_table : ∀ n : Fin 256, Go.bits .and .u8 (n.val : Int) 15 = (n.val : Int) % 16 := by decide +kernel
theorem and_bt (s : ByteArray) (i : Int) : Go.bits .and .u8 (bt s i) 15 = bt s i % 16 := by
  obtain ⟨n, hn⟩ := bt_fin s i
  rw [hn]; exact and_table n
theorem Hex_l0 (s : ByteArray) (hs : s.size ≤ 4294967296) : ∀ (d k i : Nat), i + d = s.size → d < k → ident_Hex.l0 k s (hexL s i) s.size i = some (hexB s) := by
  intro d
  induction d with
  | zero =>
    intro k i hi hk
    obtain ⟨k, rfl⟩ : ∃ m, k = m + 1 := ⟨k - 1, by omega⟩
    obtain rfl : i = s.size := by omega
    simp only [ident_Hex.l0]
    rw [if_neg (by omega)]; rfl
  | succ d ih =>
    intro k i hi hk
    obtain ⟨k, rfl⟩ : ∃ m, k = m + 1 := ⟨k - 1, by omega⟩
    have := ih k (i + 1) (by omega) (by omega)
    have hr := bt_range s i
    simp only [ident_Hex.l0]
    rw [if_pos (by omega), if_pos (by omega), if_pos (by omega), if_pos (by omega), if_pos (by omega), and_bt, if_pos (by omega), if_pos (by omega)]
    simp only [Option.bind_some]
    rw [if_pos (by rw [hexL_len]; simp; omega), wrap_id (by omega) (by omega)]
    exact_mod_cast this
theorem ident_Hex_ev (s : ByteArray) (hs : s.size ≤ 4294967296) : Ev (fun k => ident_Hex.f k s) (hexB s) := by
  refine Ev.of (fun k => ident_Hex.mono s k) (k := s.size + 1) ?_
  unfold ident_Hex.f
  rw [wrap_id (by omega) (by omega), if_pos (by omega), if_pos (by omega)]
  exact_mod_cast Hex_l0 s hs s.size _ 0 (by omega) (by omega)
theorem ref_Hex_l0 (s : ByteArray) (hs : s.size ≤ 4294967296) : ∀ (d k i : Nat), i + d = s.size → d < k → graftageref02_Hex.l0 k s ⟨#[48, 49, 50, 51, 52, 53, 54, 55, 56, 57, 97, 98, 99, 100, 101, 102]⟩ (hexL s i) i = some (hexB s) := by
  intro d
  induction d with
  | zero =>
    intro k i hi hk
    obtain ⟨k, rfl⟩ : ∃ m, k = m + 1 := ⟨k - 1, by omega⟩
    obtain rfl : i = s.size := by omega
    simp only [graftageref02_Hex.l0]
    rw [if_neg (by omega)]; rfl
  | succ d ih =>
    intro k i hi hk
    obtain ⟨k, rfl⟩ : ∃ m, k = m + 1 := ⟨k - 1, by omega⟩
    have := ih k (i + 1) (by omega) (by omega)
    have hr := bt_range s i
    have e1 : Int.tdiv (bt s i) 16 % 256 = bt s i / 16 := by rw [Int.tdiv_eq_ediv_of_nonneg hr.1]; omega
    have e2 : Int.tmod (bt s i) 16 = bt s i % 16 := by rw [Int.tmod_eq_emod_of_nonneg hr.1]
    have hsz : ((⟨#[48, 49, 50, 51, 52, 53, 54, 55, 56, 57, 97, 98, 99, 100, 101, 102]⟩ : ByteArray).size : Int) = 16 := rfl
    simp only [graftageref02_Hex.l0]
    rw [if_pos (by omega), if_pos (by omega), e1, e2, hsz, if_pos (by omega), if_pos (by omega), if_pos (by omega), if_pos (by omega)]
    simp only [Option.bind_some]
    rw [if_pos (by rw [hexL_len]; simp; omega), wrap_id (by omega) (by omega)]
    exact_mod_cast this
theorem ref_Hex_ev (s : ByteArray) (hs : s.size ≤ 4294967296) : Ev (fun k => graftageref02_Hex.f k s) (hexB s) := by
  refine Ev.of (fun k => graftageref02_Hex.mono s k) (k := s.size + 1) ?_
  unfold graftageref02_Hex.f
  exact_mod_cast ref_Hex_l0 s hs s.size _ 0 (by omega) (by omega)
/-! ### one behind the other -/
theorem strOfNums_size (l : List Int) : (strOfNums l).size = l.length := by
  show (l.map fun n => UInt8.ofNat n.toNat).toArray.size = _
  simp
theorem bt_strOfNums (l : List Int) (i : Nat) (h : i < l.length) (h0 : 0 ≤ l[i]) (h1 : l[i] < 256) : bt (strOfNums l) i = l[i] := by
  have hs : i < (strOfNums l).size := by rw [strOfNums_size]; exact h
  rw [bt_get _ i hs]
  have : (strOfNums l).data.toList[i]'(by rw [← Lib.size_eq]; exact hs) = UInt8.ofNat (l[i]).toNat := by simp [strOfNums]
  rw [this]
  simp
  omega
theorem bt_ext {a b : ByteArray} (hs : a.size = b.size) (h : ∀ i, i < a.size → bt a (i : Nat) = bt b (i : Nat)) : a = b := by
  apply ba_ext
  apply List.ext_getElem
  · rw [← Lib.size_eq, ← Lib.size_eq, hs]
  · intro i h1 h2
    have h1' : i < a.size := by rw [Lib.size_eq]; exact h1
    have := h i h1'
    rw [bt_get a i h1', bt_get b i (by omega)] at this
    exact UInt8.toNat_inj.1 (by exact_mod_cast this)
theorem hexL_get (s : ByteArray) : ∀ (n i : Nat) (h : i < n), (hexL s n)[2 * i]? = some (hx (bt s i / 16)) ∧ (hexL s n)[2 * i + 1]? = some (hx (bt s i % 16))
  | n + 1, i, h => by
    have hl := hexL_len s n
    by_cases e : i < n
    · have := hexL_get s n i e
      rw [hexL, List.getElem?_append_left (by omega), List.getElem?_append_left (by omega)]
      exact this
    · obtain rfl : i = n := by omega
      rw [hexL, List.getElem?_append_right (by omega), List.getElem?_append_right (by omega), hl]
      simp
theorem hx_table : ∀ n : Fin 16, dv (hx (n.val : Int)) = (n.val : Int) ∧ 0 ≤ hx (n.val : Int) ∧ hx (n.val : Int) < 256 := by decide +kernel
theorem hx_dv {a : Int} (h0 : 0 ≤ a) (h1 : a ≤ 15) : dv (hx a) = a ∧ 0 ≤ hx a ∧ hx a < 256 := by
  have := hx_table ⟨a.toNat, by omega⟩
  simpa [Int.toNat_of_nonneg h0] using this
theorem dv_hx_table : ∀ n : Fin 256, 0 ≤ dv (n.val : Int) → hx (dv (n.val : Int)) = (n.val : Int) := by decide +kernel
theorem hexB_size (s : ByteArray) : (hexB s).size = 2 * s.size := by unfold hexB; rw [strOfNums_size, hexL_len]
theorem hexB_bt (s : ByteArray) (i : Nat) (h : i < s.size) : bt (hexB s) (2 * i : Nat) = hx (bt s i / 16) ∧ bt (hexB s) (2 * i + 1 : Nat) = hx (bt s i % 16) := by
  have hr := bt_range s i
  have hl := hexL_len s s.size
  have hg := hexL_get s s.size i h
  have a1 := hx_dv (a := bt s i / 16) (by omega) (by omega)
  have a2 := hx_dv (a := bt s i % 16) (by omega) (by omega)
  have g1 : (hexL s s.size)[2 * i]'(by omega) = hx (bt s i / 16) := Option.some.inj ((List.getElem?_eq_getElem _).symm.trans hg.1)
  have g2 : (hexL s s.size)[2 * i + 1]'(by omega) = hx (bt s i % 16) := Option.some.inj ((List.getElem?_eq_getElem _).symm.trans hg.2)
  refine ⟨?_, ?_⟩
  · unfold hexB; rw [bt_strOfNums _ _ (by omega) (by rw [g1]; exact a1.2.1) (by rw [g1]; exact a1.2.2), g1]
  · unfold hexB; rw [bt_strOfNums _ _ (by omega) (by rw [g2]; exact a2.2.1) (by rw [g2]; exact a2.2.2), g2]
theorem rawB_bt (s : ByteArray) (hd : ∀ j, j < 40 → 0 ≤ dv (bt s (j : Nat))) (i : Nat) (h : i < 20) : bt (rawB s) (i : Nat) = rawAt s i := by
  have a1 := dv_bt s (2 * i : Nat)
  have a2 := dv_bt s (2 * i + 1 : Nat)
  have b1 := hd (2 * i) (by omega)
  have b2 := hd (2 * i + 1) (by omega)
  have g : (rawL s 20)[i]'(by rw [rawL_len]; omega) = rawAt s i := by simp [rawL]
  unfold rawB
  rw [bt_strOfNums _ _ (by rw [rawL_len]; omega) (by rw [g]; unfold rawAt; omega) (by rw [g]; unfold rawAt; omega), g]
theorem rawB_size (s : ByteArray) : (rawB s).size = 20 := by unfold rawB; rw [strOfNums_size, rawL_len]
theorem idOk_hexB (s : ByteArray) (h : s.size = 20) : idOk (hexB s) = true := by
  unfold idOk
  rw [Bool.and_eq_true, decide_eq_true_eq, hexB_size, h]
  refine ⟨rfl, hexF_of _ _ _ (fun j _ hj => ?_)⟩
  obtain ⟨i, rfl | rfl⟩ : ∃ i, j = 2 * i ∨ j = 2 * i + 1 := ⟨j / 2, by omega⟩
  · have hr := bt_range s i
    rw [(hexB_bt s i (by omega)).1, (hx_dv (by omega) (by omega)).1]; omega
  · have hr := bt_range s i
    rw [(hexB_bt s i (by omega)).2, (hx_dv (by omega) (by omega)).1]; omega
theorem rawB_hexB (s : ByteArray) (h : s.size = 20) : rawB (hexB s) = s := by
  have hk := idOk_dv (idOk_hexB s h)
  refine bt_ext (by rw [rawB_size, h]) (fun i hi => ?_)
  rw [rawB_size] at hi
  have hr := bt_range s i
  have hb := hexB_bt s i (by omega)
  rw [rawB_bt _ hk i hi]
  unfold rawAt
  rw [hb.1, hb.2, (hx_dv (by omega) (by omega)).1, (hx_dv (by omega) (by omega)).1]
  omega
theorem hexB_rawB (s : ByteArray) (h : idOk s = true) : hexB (rawB s) = s := by
  have hk := idOk_dv h
  have h40 := idOk_size h
  refine bt_ext (by rw [hexB_size, rawB_size, h40]) (fun j hj => ?_)
  rw [hexB_size, rawB_size] at hj
  have key : ∀ m : Nat, m < 40 → hx (dv (bt s (m : Nat))) = bt s (m : Nat) := by
    intro m hm
    obtain ⟨n, hn⟩ := bt_fin s (m : Nat)
    have := hk m hm
    rw [hn] at this ⊢
    exact dv_hx_table n this
  obtain ⟨i, rfl | rfl⟩ : ∃ i, j = 2 * i ∨ j = 2 * i + 1 := ⟨j / 2, by omega⟩
  · have b := (hexB_bt (rawB s) i (by rw [rawB_size]; omega)).1
    have a1 := dv_bt s (2 * i : Nat)
    have a2 := dv_bt s (2 * i + 1 : Nat)
    have b1 := hk (2 * i) (by omega)
    have b2 := hk (2 * i + 1) (by omega)
    rw [b, rawB_bt s hk i (by omega), ← key (2 * i) (by omega)]
    exact congrArg hx (by unfold rawAt; omega)
  · have b := (hexB_bt (rawB s) i (by rw [rawB_size]; omega)).2
    have a1 := dv_bt s (2 * i : Nat)
    have a2 := dv_bt s (2 * i + 1 : Nat)
    have b1 := hk (2 * i) (by omega)
    have b2 := hk (2 * i + 1) (by omega)
    rw [b, rawB_bt s hk i (by omega), ← key (2 * i + 1) (by omega)]
    exact congrArg hx (by unfold rawAt; omega)
end Go.Proofs.YtccbpbdfihnlgaaDoor.Q

/- Contracts of Go functions as calls of plain Lean functions, written by a program of this session over the kit's print. -/
namespace Go.Proofs.YtccbpbdfihnlgaaDoor.Q
open Go.RowKit Go.Proofs.YtccbpbdfihnlgaaDoorW.PrintWords Go.Proofs.YtccbpbdfihnlgaaDoorW.PrintLast Go.Proofs.YtccbpbdfihnlgaaDoorW.PrintMore
attribute [local go_sem] max2_int min2_int max_two min_two max_three min_three max_four min_four   -- for this text's walks alone

/-! ### graftageref15_key: function 66 -/
def graftageref15_key.f (a0_0 : Int) (a0_1 : ByteArray) (a0_2 : ByteArray) : Option (ByteArray) := if a0_0 = 4 then (if a0_1.size + 1 ≤ 9223372036854775807 then (some (a0_1 ++ (⟨#[47]⟩ : ByteArray))) else (none)) else (some a0_1)
set_option maxHeartbeats 8000000 in
set_option maxRecDepth 100000 in
theorem graftageref15_key.calls (a0_0 : Int) (a0_1 : ByteArray) (a0_2 : ByteArray) (r : ByteArray) (w : World) (h : graftageref15_key.f a0_0 a0_1 a0_2 = some r) :
    Calls Tryd.prog 66 #[.agg #[.int .i64 a0_0, .string a0_1, .string a0_2]] w fun e w' => e = .returned (.string r) ∧ Below w.heap.size w w' := by
  have hu35 := Tryd.underlying35
  have HB := Aside0.mk (Below.refl w.heap.size w)
  have H : (if a0_0 = 4 then (if a0_1.size + 1 ≤ 9223372036854775807 then (some (a0_1 ++ (⟨#[47]⟩ : ByteArray))) else (none)) else (some a0_1)) = some r := h
  clear h
  by_cases c2 : a0_0 = 4
  · rw [if_pos c2] at H
    have c2b0 : (a0_0 == 4) = true := beq_iff_eq.mpr c2
    have c2b1 : (a0_0 != 4) = false := bne_eq_false_iff_eq.mpr c2
    clear c2
    by_cases c3 : a0_1.size + 1 ≤ 9223372036854775807
    · rw [if_pos c3] at H
      have c3b0 := eq_true c3
      have c3b1 : decide (a0_1.size + 1 ≤ 9223372036854775807) = true := decide_eq_true c3
      try have c3b2 : (9223372036854775807 < a0_1.size + 1) = False := eq_false (Nat.not_lt.2 c3)
      obtain rfl := Option.some.inj H
      go_enter Tryd.func66, Tryd.ntmps66
      go_wp2_with (first | ((with_reducible refine gate_dst (N := 1) rfl ?_); refine box_event ?hg (N := 1) ?hd (cs := #[.int .i64 a0_0, .string a0_1, .string a0_2]) (t := 35) ?hr ?_; (case hd => rfl); (case hg => rfl); (case hr => first | (go_simp; done) | (go_simp; rfl)); intro gb122 hg w4 hbox hb; have n0_ := Aside0.mk (below_step (by repeat (first | (with_reducible first | exact HB.out | apply below_alloc | apply pw_below_drewN | apply below_drew1) | exact HB.out)) hb); have n1_ := Aside0.mk (hbox); have n2_ := Aside0.mk ((by rw [hg]; exact (below_size (by repeat (first | (with_reducible first | exact HB.out | apply below_alloc | apply pw_below_drewN | apply below_drew1) | exact HB.out))) : w.heap.size ≤ gb122)); have n3_ := Aside0.mk ((by rw [hg]; exact (below_size (by repeat (first | (with_reducible first | exact HB.out | apply below_alloc | apply pw_below_drewN | apply below_drew1) | exact HB.out))) : w.heap.size ≤ gb122)); clear HB; have HB := n0_; have BK122 := n1_; have GW122 := n2_; have GE122 := n3_; clear n0_ n1_ n2_ n3_; clear hb hbox hg; have hcz5_0 : w4.cell? ⟨gb122, 0, none⟩ = some (.int .i64 a0_0) := (blk_cell BK122.out 0).trans rfl; have hcz5_1 : w4.cell? ⟨gb122, 1, none⟩ = some (.string a0_1) := (blk_cell BK122.out 1).trans rfl; have hcz5_2 : w4.cell? ⟨gb122, 2, none⟩ = some (.string a0_2) := (blk_cell BK122.out 2).trans rfl; have hfz5_0 := blk_frozen BK122.out 0; have hfz5_1 := blk_frozen BK122.out 1; have hfz5_2 := blk_frozen BK122.out 2))
      go_ret
      exact ⟨by first | rfl | (simp [errW_none, errW_some] <;> rfl) | (simp [*, errW_none, errW_some] <;> rfl) | (simp [ne_nil_bool]; done) | (simp [*, ne_nil_bool]; done), by repeat (first | (with_reducible first | exact HB.out | apply below_alloc | apply pw_below_drewN | apply below_drew1 | refine below_set ?_ GE122.out) | exact HB.out)⟩
    · rw [if_neg c3] at H
      exact absurd H (by simp)
  · rw [if_neg c2] at H
    have c2b0 : (a0_0 == 4) = false := beq_eq_false_iff_ne.mpr c2
    have c2b1 : (a0_0 != 4) = true := bne_iff_ne.mpr c2
    obtain rfl := Option.some.inj H
    go_enter Tryd.func66, Tryd.ntmps66
    go_wp2_with (first | ((with_reducible refine gate_dst (N := 1) rfl ?_); refine box_event ?hg (N := 1) ?hd (cs := #[.int .i64 a0_0, .string a0_1, .string a0_2]) (t := 35) ?hr ?_; (case hd => rfl); (case hg => rfl); (case hr => first | (go_simp; done) | (go_simp; rfl)); intro gb122 hg w6 hbox hb; have n0_ := Aside0.mk (below_step (by repeat (first | (with_reducible first | exact HB.out | apply below_alloc | apply pw_below_drewN | apply below_drew1) | exact HB.out)) hb); have n1_ := Aside0.mk (hbox); have n2_ := Aside0.mk ((by rw [hg]; exact (below_size (by repeat (first | (with_reducible first | exact HB.out | apply below_alloc | apply pw_below_drewN | apply below_drew1) | exact HB.out))) : w.heap.size ≤ gb122)); have n3_ := Aside0.mk ((by rw [hg]; exact (below_size (by repeat (first | (with_reducible first | exact HB.out | apply below_alloc | apply pw_below_drewN | apply below_drew1) | exact HB.out))) : w.heap.size ≤ gb122)); clear HB; have HB := n0_; have BK122 := n1_; have GW122 := n2_; have GE122 := n3_; clear n0_ n1_ n2_ n3_; clear hb hbox hg; have hcz7_0 : w6.cell? ⟨gb122, 0, none⟩ = some (.int .i64 a0_0) := (blk_cell BK122.out 0).trans rfl; have hcz7_1 : w6.cell? ⟨gb122, 1, none⟩ = some (.string a0_1) := (blk_cell BK122.out 1).trans rfl; have hcz7_2 : w6.cell? ⟨gb122, 2, none⟩ = some (.string a0_2) := (blk_cell BK122.out 2).trans rfl; have hfz7_0 := blk_frozen BK122.out 0; have hfz7_1 := blk_frozen BK122.out 1; have hfz7_2 := blk_frozen BK122.out 2))
    go_ret
    exact ⟨by first | rfl | (simp [errW_none, errW_some] <;> rfl) | (simp [*, errW_none, errW_some] <;> rfl) | (simp [ne_nil_bool]; done) | (simp [*, ne_nil_bool]; done), by repeat (first | (with_reducible first | exact HB.out | apply below_alloc | apply pw_below_drewN | apply below_drew1 | refine below_set ?_ GE122.out) | exact HB.out)⟩

end Go.Proofs.YtccbpbdfihnlgaaDoor.Q

/- Contracts of Go functions as calls of plain Lean functions, written by a program of this session over the kit's print. -/
namespace Go.Proofs.YtccbpbdfihnlgaaDoor.Q
open Go.RowKit Go.Proofs.YtccbpbdfihnlgaaDoorW.PrintWords Go.Proofs.YtccbpbdfihnlgaaDoorW.PrintLast Go.Proofs.YtccbpbdfihnlgaaDoorW.PrintMore
attribute [local go_sem] max2_int min2_int max_two min_two max_three min_three max_four min_four   -- for this text's walks alone

/-! ### graftageref15_Less: function 27 -/
def graftageref15_Less.f (a0_0 : Int) (a0_1 : ByteArray) (a0_2 : ByteArray) (a1_0 : Int) (a1_1 : ByteArray) (a1_2 : ByteArray) : Option (Bool) := (graftageref15_key.f a0_0 a0_1 a0_2).bind fun t125 => ((graftageref15_key.f a1_0 a1_1 a1_2).bind fun t126 => (some (Op.bytesLess t125.toList t126.toList)))
set_option maxHeartbeats 8000000 in
set_option maxRecDepth 100000 in
theorem graftageref15_Less.calls (a0_0 : Int) (a0_1 : ByteArray) (a0_2 : ByteArray) (a1_0 : Int) (a1_1 : ByteArray) (a1_2 : ByteArray) (r : Bool) (w : World) (h : graftageref15_Less.f a0_0 a0_1 a0_2 a1_0 a1_1 a1_2 = some r) :
    Calls Tryd.prog 27 #[.agg #[.int .i64 a0_0, .string a0_1, .string a0_2], .agg #[.int .i64 a1_0, .string a1_1, .string a1_2]] w fun e w' => e = .returned (.bool r) ∧ Below w.heap.size w w' := by
  have hu35 := Tryd.underlying35
  have HB := Aside0.mk (Below.refl w.heap.size w)
  have H : ((graftageref15_key.f a0_0 a0_1 a0_2).bind fun t125 => ((graftageref15_key.f a1_0 a1_1 a1_2).bind fun t126 => (some (Op.bytesLess t125.toList t126.toList)))) = some r := h
  clear h
  replace H := Option.bind_eq_some_iff.mp H
  obtain ⟨t125, A30, H⟩ := H
  replace H : ((graftageref15_key.f a1_0 a1_1 a1_2).bind fun t126 => (some (Op.bytesLess t125.toList t126.toList))) = some r := H
  have A3 := Aside0.mk A30
  clear A30
  replace H := Option.bind_eq_some_iff.mp H
  obtain ⟨t126, A40, H⟩ := H
  replace H : (some (Op.bytesLess t125.toList t126.toList)) = some r := H
  have A4 := Aside0.mk A40
  clear A40
  obtain rfl := Option.some.inj H
  go_enter Tryd.func27, Tryd.ntmps27
  try go_wp2_with (first | ((with_reducible refine gate_dst (N := 2) rfl ?_); refine box_event ?hg (N := 2) ?hd (cs := #[.int .i64 a0_0, .string a0_1, .string a0_2]) (t := 35) ?hr ?_; (case hd => rfl); (case hg => rfl); (case hr => first | (go_simp; done) | (go_simp; rfl)); intro gb123 hg w5 hbox hb; have n0_ := Aside0.mk (below_step (by repeat (first | (with_reducible first | exact HB.out | apply below_alloc | apply pw_below_drewN | apply below_drew1) | exact HB.out)) hb); have n1_ := Aside0.mk (hbox); have n2_ := Aside0.mk ((by rw [hg]; exact (below_size (by repeat (first | (with_reducible first | exact HB.out | apply below_alloc | apply pw_below_drewN | apply below_drew1) | exact HB.out))) : w.heap.size ≤ gb123)); have n3_ := Aside0.mk ((by rw [hg]; exact (below_size (by repeat (first | (with_reducible first | exact HB.out | apply below_alloc | apply pw_below_drewN | apply below_drew1) | exact HB.out))) : w.heap.size ≤ gb123)); clear HB; have HB := n0_; have BK123 := n1_; have GW123 := n2_; have GE123 := n3_; clear n0_ n1_ n2_ n3_; clear hb hbox hg) | ((with_reducible refine gate_dst (N := 3) rfl ?_); refine box_event ?hg (N := 3) ?hd (cs := #[.int .i64 a1_0, .string a1_1, .string a1_2]) (t := 35) ?hr ?_; (case hd => rfl); (case hg => rfl); (case hr => first | (go_simp; done) | (go_simp; rfl)); intro gb124 hg w6 hbox hb; have n0_ := Aside0.mk (blk_below (g := gb123) (o := .cells #[.int .i64 a0_0, .string a0_1, .string a0_2] 35 (0, 0)) (by (with_reducible repeat (first | refine blk_drewN ?_ _ | refine blk_drew ?_ | refine blk_alloc ?_ _)); exact BK123.out) hb); have n1_ := Aside0.mk (below_step (by repeat (first | (with_reducible first | exact HB.out | apply below_alloc | apply pw_below_drewN | apply below_drew1 | refine below_set ?_ GE123.out) | exact HB.out)) hb); have n2_ := Aside0.mk (hbox); have n3_ := Aside0.mk ((by rw [hg]; exact (below_size (by repeat (first | (with_reducible first | exact HB.out | apply below_alloc | apply pw_below_drewN | apply below_drew1 | refine below_set ?_ GE123.out) | exact HB.out))) : w.heap.size ≤ gb124)); have n4_ := Aside0.mk ((by rw [hg]; exact (below_size (by repeat (first | (with_reducible first | exact HB.out | apply below_alloc | apply pw_below_drewN | apply below_drew1 | refine below_set ?_ GE123.out) | exact HB.out))) : w.heap.size ≤ gb124)); have n5_ := Aside0.mk ((by rw [hg]; exact Nat.ne_of_lt (blk_lt (g := gb123) (o := .cells #[.int .i64 a0_0, .string a0_1, .string a0_2] 35 (0, 0)) (by (with_reducible repeat (first | refine blk_drewN ?_ _ | refine blk_drew ?_ | refine blk_alloc ?_ _)); exact BK123.out)) : gb123 ≠ gb124)); have n6_ := Aside0.mk ((by rw [hg]; exact Nat.ne_of_gt (blk_lt (g := gb123) (o := .cells #[.int .i64 a0_0, .string a0_1, .string a0_2] 35 (0, 0)) (by (with_reducible repeat (first | refine blk_drewN ?_ _ | refine blk_drew ?_ | refine blk_alloc ?_ _)); exact BK123.out)) : gb124 ≠ gb123)); clear BK123; clear HB; have BK123 := n0_; have HB := n1_; have BK124 := n2_; have GW124 := n3_; have GE124 := n4_; have NB123_124 := n5_; have NB124_123 := n6_; clear n0_ n1_ n2_ n3_ n4_ n5_ n6_; clear hb hbox hg))
  have n0_ := Aside0.mk (blk_drew BK123.out)
  have n1_ := Aside0.mk (blk_drew BK124.out)
  have n2_ := Aside0.mk (below_drew1 HB.out)
  clear BK123
  clear BK124
  clear HB
  have BK123 := n0_
  have BK124 := n1_
  have HB := n2_
  clear n0_ n1_ n2_
  refine start_ (n := 6) (S := fun w' => w'.cell? ⟨gb123, 0, none⟩ = some (.int .i64 a0_0) ∧ w'.cell? ⟨gb123, 1, none⟩ = some (.string a0_1) ∧ w'.cell? ⟨gb123, 2, none⟩ = some (.string a0_2) ∧ w'.cell? ⟨gb124, 0, none⟩ = some (.int .i64 a1_0) ∧ w'.cell? ⟨gb124, 1, none⟩ = some (.string a1_1) ∧ w'.cell? ⟨gb124, 2, none⟩ = some (.string a1_2)) (ds := []) #[false, false, false, false, false, false] (by kernel_rfl) rfl rfl ⟨(blk_cell BK123.out 0).trans rfl, (blk_cell BK123.out 1).trans rfl, (blk_cell BK123.out 2).trans rfl, (blk_cell BK124.out 0).trans rfl, (blk_cell BK124.out 1).trans rfl, (blk_cell BK124.out 2).trans rfl⟩ (fun hHeld => ?_)
  generalize w6.drew = w7 at BK123 BK124 HB hHeld ⊢
  refine take_ (i := 0) (N := some 5) (v := ?_) (a' := ?_) #[true, false, false, false, false, false] rfl rfl (by kernel_rfl) (fun _ _ _ h => h) (Or.inl ⟨by rfl, ?_⟩) hHeld ?_ ?_
  rotate_left
  · rintro w' ⟨s0, s1, s2, s3, s4, s5⟩
    go_simp
    with_reducible rfl
  rotate_left
  · simp only [Act.put, List.setIfInBounds_toArray, List.set_cons_zero, List.set_cons_succ, i64_w, i32_w]
    rfl
  refine take_ (i := 2) (N := some 7) (v := ?_) (a' := ?_) #[true, false, true, false, false, false] rfl rfl (by kernel_rfl) (fun _ _ _ h => h) (Or.inl ⟨by rfl, ?_⟩) hHeld ?_ ?_
  rotate_left
  · rintro w' ⟨s0, s1, s2, s3, s4, s5⟩
    go_simp
    with_reducible rfl
  rotate_left
  · simp only [Act.put, List.setIfInBounds_toArray, List.set_cons_zero, List.set_cons_succ, i64_w, i32_w]
    rfl
  refine one_ (i := 1) (N := some 6) #[true, true, true, false, false, false] rfl rfl (by kernel_rfl) (by decide) (fun K hK => ?_)
  refine goes_ Tryd.func66 (by kernel_rfl) rfl #[.agg #[.int .i64 a0_0, .string a0_1, .string a0_2]] (by rfl) rfl rfl (by (try simp only [List.map_toArray, List.map_cons, List.map_nil]); first | done | rfl | (simp only [List.length_drop, List.length_take]; rfl)) ?_
  with_reducible refine (graftageref15_key.calls a0_0 a0_1 a0_2 t125 _ A3.out).mono ?_
  rintro e w8 ⟨rfl, hb⟩
  refine ⟨_, rfl, ?_⟩
  have n0_ := Aside0.mk (blk_below (g := gb123) (o := .cells #[.int .i64 a0_0, .string a0_1, .string a0_2] 35 (0, 0)) (by (with_reducible repeat (first | refine blk_drewN ?_ _ | refine blk_drew ?_ | refine blk_alloc ?_ _)); exact BK123.out) hb)
  have n1_ := Aside0.mk (blk_below (g := gb124) (o := .cells #[.int .i64 a1_0, .string a1_1, .string a1_2] 35 (0, 0)) (by (with_reducible repeat (first | refine blk_drewN ?_ _ | refine blk_drew ?_ | refine blk_alloc ?_ _)); exact BK124.out) hb)
  have n2_ := Aside0.mk (below_step (by repeat (first | (with_reducible first | exact HB.out | apply below_alloc | apply pw_below_drewN | apply below_drew1 | refine below_set ?_ GE123.out | refine below_set ?_ GE124.out) | exact HB.out)) hb)
  clear BK123
  clear BK124
  clear HB
  have BK123 := n0_
  have BK124 := n1_
  have HB := n2_
  clear n0_ n1_ n2_
  (try clear hb)
  (try clear hb2)
  (try clear hk)
  (try clear hi)
  refine hK.out _ _ ⟨(blk_cell BK123.out 0).trans rfl, (blk_cell BK123.out 1).trans rfl, (blk_cell BK123.out 2).trans rfl, (blk_cell BK124.out 0).trans rfl, (blk_cell BK124.out 1).trans rfl, (blk_cell BK124.out 2).trans rfl⟩ (fun hHeld => ?_)
  clear hK K
  refine norm_ (a' := ?_) ?_ ?_
  rotate_left
  · show Act.put _ (some 6) _ = _
    simp only [Act.put, List.setIfInBounds_toArray, List.set_cons_zero, List.set_cons_succ, i64_w, i32_w]
    rfl
  refine one_ (i := 3) (N := some 8) #[true, true, true, true, false, false] rfl rfl (by kernel_rfl) (by decide) (fun K hK => ?_)
  refine goes_ Tryd.func66 (by kernel_rfl) rfl #[.agg #[.int .i64 a1_0, .string a1_1, .string a1_2]] (by rfl) rfl rfl (by (try simp only [List.map_toArray, List.map_cons, List.map_nil]); first | done | rfl | (simp only [List.length_drop, List.length_take]; rfl)) ?_
  with_reducible refine (graftageref15_key.calls a1_0 a1_1 a1_2 t126 _ A4.out).mono ?_
  rintro e w9 ⟨rfl, hb⟩
  refine ⟨_, rfl, ?_⟩
  have n0_ := Aside0.mk (blk_below (g := gb123) (o := .cells #[.int .i64 a0_0, .string a0_1, .string a0_2] 35 (0, 0)) (by (with_reducible repeat (first | refine blk_drewN ?_ _ | refine blk_drew ?_ | refine blk_alloc ?_ _)); exact BK123.out) hb)
  have n1_ := Aside0.mk (blk_below (g := gb124) (o := .cells #[.int .i64 a1_0, .string a1_1, .string a1_2] 35 (0, 0)) (by (with_reducible repeat (first | refine blk_drewN ?_ _ | refine blk_drew ?_ | refine blk_alloc ?_ _)); exact BK124.out) hb)
  have n2_ := Aside0.mk (below_step (by repeat (first | (with_reducible first | exact HB.out | apply below_alloc | apply pw_below_drewN | apply below_drew1 | refine below_set ?_ GE123.out | refine below_set ?_ GE124.out) | exact HB.out)) hb)
  clear BK123
  clear BK124
  clear HB
  have BK123 := n0_
  have BK124 := n1_
  have HB := n2_
  clear n0_ n1_ n2_
  (try clear hb)
  (try clear hb2)
  (try clear hk)
  (try clear hi)
  refine hK.out _ _ ⟨(blk_cell BK123.out 0).trans rfl, (blk_cell BK123.out 1).trans rfl, (blk_cell BK123.out 2).trans rfl, (blk_cell BK124.out 0).trans rfl, (blk_cell BK124.out 1).trans rfl, (blk_cell BK124.out 2).trans rfl⟩ (fun hHeld => ?_)
  clear hK K
  refine norm_ (a' := ?_) ?_ ?_
  rotate_left
  · show Act.put _ (some 8) _ = _
    simp only [Act.put, List.setIfInBounds_toArray, List.set_cons_zero, List.set_cons_succ, i64_w, i32_w]
    rfl
  refine pure_ (i := 4) (N := some 9) (v := ?_) (a' := ?_) #[true, true, true, true, true, false] rfl rfl (by kernel_rfl) (fun _ _ _ h => h) (Or.inl ⟨by rfl, ?_⟩) ?_ ?_
  rotate_left
  · intro w'
    go_simp
    with_reducible rfl
  rotate_left
  · simp only [Act.put, List.setIfInBounds_toArray, List.set_cons_zero, List.set_cons_succ, i64_w, i32_w]
    rfl
  refine pure_ (i := 5) (N := some 4) (v := ?_) (a' := ?_) #[true, true, true, true, true, true] rfl rfl (by kernel_rfl) (fun _ _ _ h => h) (Or.inl ⟨by rfl, ?_⟩) ?_ ?_
  rotate_left
  · intro w'
    go_simp
    with_reducible rfl
  rotate_left
  · simp only [Act.put, List.setIfInBounds_toArray, List.set_cons_zero, List.set_cons_succ, i64_w, i32_w]
    rfl
  refine done_ (by kernel_rfl) ?_
  try go_wp2
  go_ret
  exact ⟨by first | rfl | (simp [errW_none, errW_some] <;> rfl) | (simp [*, errW_none, errW_some] <;> rfl) | (simp [ne_nil_bool]; done) | (simp [*, ne_nil_bool]; done), by repeat (first | (with_reducible first | exact HB.out | apply below_alloc | apply pw_below_drewN | apply below_drew1 | refine below_set ?_ GE123.out | refine below_set ?_ GE124.out) | exact HB.out)⟩

end Go.Proofs.YtccbpbdfihnlgaaDoor.Q

/- Contracts of Go functions as calls of plain Lean functions, written by a program of this session over the kit's print. -/
namespace Go.Proofs.YtccbpbdfihnlgaaDoor.Q
open Go.RowKit Go.Proofs.YtccbpbdfihnlgaaDoorW.PrintWords Go.Proofs.YtccbpbdfihnlgaaDoorW.PrintLast Go.Proofs.YtccbpbdfihnlgaaDoorW.PrintMore
attribute [local go_sem] max2_int min2_int max_two min_two max_three min_three max_four min_four   -- for this text's walks alone

/-! ### graftageref15_Check: function 19 -/
mutual
def graftageref15_Check.l0 : Nat → List (S35) → Int → Int → Option (Int)
  | 0, _, _, _ => none
  | k + 1, x0, x9, x10 => if x10 < x9 then (if 0 ≤ x10 then (if x10 < (x0.length : Int) then ((graftageref15_May.f k ((rd_T35 x0 x10).f0) ((rd_T35 x0 x10).f1) ((rd_T35 x0 x10).f2)).bind fun t228 => (if t228 = true then (if x10 > 0 then (if 0 ≤ (wrap64 (x10 - 1)) then (if (wrap64 (x10 - 1)) < (x0.length : Int) then ((graftageref15_Less.f ((rd_T35 x0 (wrap64 (x10 - 1))).f0) ((rd_T35 x0 (wrap64 (x10 - 1))).f1) ((rd_T35 x0 (wrap64 (x10 - 1))).f2) ((rd_T35 x0 x10).f0) ((rd_T35 x0 x10).f1) ((rd_T35 x0 x10).f2)).bind fun t231 => (graftageref15_Check.j1 k x0 x10 x9 x10 (!t231))) else (none)) else (none)) else (graftageref15_Check.j1 k x0 x10 x9 x10 false)) else (some 1))) else (none)) else (none)) else (some 0)
def graftageref15_Check.j1 : Nat → List (S35) → Int → Int → Int → Bool → Option (Int)
  | 0, _, _, _, _, _ => none
  | k + 1, x0, x3, x9, x10, x33 => if x33 = true then (some 150) else (graftageref15_Check.l1 k x0 x3 x9 x10 x3 0)
def graftageref15_Check.l1 : Nat → List (S35) → Int → Int → Int → Int → Int → Option (Int)
  | 0, _, _, _, _, _, _ => none
  | k + 1, x0, x3, x9, x10, x34, x35 => if x35 < x34 then (if 0 ≤ x35 then (if x35 < (x0.length : Int) then (if 0 ≤ x3 then (if x3 < (x0.length : Int) then (if ((rd_T35 x0 x35).f1).toList = ((rd_T35 x0 x3).f1).toList then (some 6) else (graftageref15_Check.l1 k x0 x3 x9 x10 x34 (wrap64 (x35 + 1)))) else (none)) else (none)) else (none)) else (none)) else (graftageref15_Check.l0 k x0 x9 (wrap64 (x10 + 1)))
end
def graftageref15_Check.f (k : Nat) (l0 : List (S35)) : Option (Int) := if (l0.length : Int) > 1024 then (some 4) else (graftageref15_Check.l0 k l0 (l0.length : Int) 0)
theorem graftageref15_Check.mono_l : ∀ k, (∀ y0 y1 y2, LeO (graftageref15_Check.l0 k y0 y1 y2) (graftageref15_Check.l0 (k + 1) y0 y1 y2)) ∧ (∀ y0 y1 y2 y3 y4, LeO (graftageref15_Check.j1 k y0 y1 y2 y3 y4) (graftageref15_Check.j1 (k + 1) y0 y1 y2 y3 y4)) ∧ (∀ y0 y1 y2 y3 y4 y5, LeO (graftageref15_Check.l1 k y0 y1 y2 y3 y4 y5) (graftageref15_Check.l1 (k + 1) y0 y1 y2 y3 y4 y5))
  | 0 => ⟨fun _ _ _ r h => by simp [graftageref15_Check.l0] at h, fun _ _ _ _ _ r h => by simp [graftageref15_Check.j1] at h, fun _ _ _ _ _ _ r h => by simp [graftageref15_Check.l1] at h⟩
  | k + 1 => by
    obtain ⟨ih0, ih1, ih2⟩ := graftageref15_Check.mono_l k
    refine ⟨?_, ?_, ?_⟩
    · intro y0 y1 y2
      unfold graftageref15_Check.l0
      repeat' first
      | (with_reducible exact ih0 _ _ _)
      | (with_reducible exact ih1 _ _ _ _ _)
      | (with_reducible exact ih2 _ _ _ _ _ _)
      | (with_reducible exact graftageref15_May.mono _ _ _ _)
      | (with_reducible exact LeO.refl _)
      | (with_reducible exact LeO.none _)
      | (with_reducible refine LeO.ite ?_ ?_)
      | (with_reducible refine LeO.bind ?_ (fun _ => ?_))
      | exact ih0 _ _ _
      | exact ih1 _ _ _ _ _
      | exact ih2 _ _ _ _ _ _
      | exact graftageref15_May.mono _ _ _ _
      | exact LeO.none _
      | refine LeO.ite ?_ ?_
      | refine LeO.bind ?_ (fun _ => ?_)
    · intro y0 y1 y2 y3 y4
      unfold graftageref15_Check.j1
      repeat' first
      | (with_reducible exact ih0 _ _ _)
      | (with_reducible exact ih1 _ _ _ _ _)
      | (with_reducible exact ih2 _ _ _ _ _ _)
      | (with_reducible exact graftageref15_May.mono _ _ _ _)
      | (with_reducible exact LeO.refl _)
      | (with_reducible exact LeO.none _)
      | (with_reducible refine LeO.ite ?_ ?_)
      | (with_reducible refine LeO.bind ?_ (fun _ => ?_))
      | exact ih0 _ _ _
      | exact ih1 _ _ _ _ _
      | exact ih2 _ _ _ _ _ _
      | exact graftageref15_May.mono _ _ _ _
      | exact LeO.none _
      | refine LeO.ite ?_ ?_
      | refine LeO.bind ?_ (fun _ => ?_)
    · intro y0 y1 y2 y3 y4 y5
      unfold graftageref15_Check.l1
      repeat' first
      | (with_reducible exact ih0 _ _ _)
      | (with_reducible exact ih1 _ _ _ _ _)
      | (with_reducible exact ih2 _ _ _ _ _ _)
      | (with_reducible exact graftageref15_May.mono _ _ _ _)
      | (with_reducible exact LeO.refl _)
      | (with_reducible exact LeO.none _)
      | (with_reducible refine LeO.ite ?_ ?_)
      | (with_reducible refine LeO.bind ?_ (fun _ => ?_))
      | exact ih0 _ _ _
      | exact ih1 _ _ _ _ _
      | exact ih2 _ _ _ _ _ _
      | exact graftageref15_May.mono _ _ _ _
      | exact LeO.none _
      | refine LeO.ite ?_ ?_
      | refine LeO.bind ?_ (fun _ => ?_)
theorem graftageref15_Check.mono : ∀ a0 k, LeO (graftageref15_Check.f k a0) (graftageref15_Check.f (k + 1) a0) := by
  intro a0 k
  obtain ⟨ih0, ih1, ih2⟩ := graftageref15_Check.mono_l k
  unfold graftageref15_Check.f
  repeat' first
      | (with_reducible exact ih0 _ _ _)
      | (with_reducible exact ih1 _ _ _ _ _)
      | (with_reducible exact ih2 _ _ _ _ _ _)
      | (with_reducible exact graftageref15_May.mono _ _ _ _)
      | (with_reducible exact LeO.refl _)
      | (with_reducible exact LeO.none _)
      | (with_reducible refine LeO.ite ?_ ?_)
      | (with_reducible refine LeO.bind ?_ (fun _ => ?_))
      | exact ih0 _ _ _
      | exact ih1 _ _ _ _ _
      | exact ih2 _ _ _ _ _ _
      | exact graftageref15_May.mono _ _ _ _
      | exact LeO.none _
      | refine LeO.ite ?_ ?_
      | refine LeO.bind ?_ (fun _ => ?_)
def graftageref15_Check.T8 : Bool × List (List Nat × List Nat) := (true, [([], []), ([0], [0]), ([1], [1]), ([2], [2]), ([2], [2]), ([4, 2], [2, 4]), ([3, 5, 2], [2, 3, 5]), ([6, 2], [2, 6]), ([2], [2]), ([2], [2]), ([8, 9, 2], [2, 8, 9]), ([10, 2], [2, 10]), ([7, 11, 2, 2], [2, 7, 11]), ([12, 2], [2, 12]), ([2, 13], [2, 13])])
def graftageref15_Check.B8 : List Nat := [0, 1, 3, 7, 7, 23, 63, 127, 7, 7, 775, 1799, 4095, 8191, 16383]
theorem graftageref15_Check.tab8 : rtab .any (opsOf Tryd.f19 8) = graftageref15_Check.T8 := by kernel_rfl
theorem graftageref15_Check.bits8 : waitsOk graftageref15_Check.T8.2 graftageref15_Check.B8 = true := by kernel_rfl
def graftageref15_Check.T13 : Bool × List (List Nat × List Nat) := (true, [([], []), ([], []), ([0, 1], [0, 1]), ([2], [2]), ([3], [3]), ([], []), ([], []), ([5, 6], [5, 6]), ([7], [7]), ([8], [8]), ([4, 9], [4, 9])])
def graftageref15_Check.B13 : List Nat := [0, 0, 3, 7, 15, 0, 0, 96, 224, 480, 1023]
theorem graftageref15_Check.tab13 : rtab .any (opsOf Tryd.f19 13) = graftageref15_Check.T13 := by kernel_rfl
theorem graftageref15_Check.bits13 : waitsOk graftageref15_Check.T13.2 graftageref15_Check.B13 = true := by kernel_rfl
set_option maxHeartbeats 8000000 in
set_option maxRecDepth 100000 in
theorem graftageref15_Check.calls (k : Nat) (A0 : Option Addr) (c0 : Nat) (l0 : List (S35)) (r : Int) (w : World) (hr0 : Kd.C k35 w A0 l0.length l0) (hc0 : l0.length ≤ c0) (h : graftageref15_Check.f k l0 = some r) :
    Calls Tryd.prog 19 #[.slice A0 l0.length c0] w fun e w' => e = .returned (.int .i64 r) ∧ Below w.heap.size w w' := by
  have hu35 := Tryd.underlying35
  have HR0 := Aside0.mk hr0
  have HC0 := Aside0.mk hc0
  clear hr0 hc0
  have HB := Aside0.mk (Below.refl w.heap.size w)
  have H : (if (l0.length : Int) > 1024 then (some 4) else (graftageref15_Check.l0 k l0 (l0.length : Int) 0)) = some r := h
  clear h
  by_cases c2 : (l0.length : Int) > 1024
  · rw [if_pos c2] at H
    have c2b0 : decide (1024 < (l0.length : Int)) = true := decide_eq_true c2
    have c2b1 : decide (1024 < l0.length) = true := decide_eq_true (by omega)
    clear c2
    obtain rfl := Option.some.inj H
    go_enter Tryd.func19, Tryd.ntmps19
    go_wp2
    go_ret
    exact ⟨by first | rfl | (simp [errW_none, errW_some] <;> rfl) | (simp [*, errW_none, errW_some] <;> rfl) | (simp [ne_nil_bool]; done) | (simp [*, ne_nil_bool]; done), by repeat (first | (with_reducible first | exact HB.out | apply below_alloc | apply pw_below_drewN | apply below_drew1) | exact HB.out)⟩
  · rw [if_neg c2] at H
    have c2b0 : decide (1024 < (l0.length : Int)) = false := decide_eq_false c2
    have c2b1 : decide (1024 < l0.length) = false := decide_eq_false (by omega)
    clear c2
    have H' := Aside0.mk H
    clear H
    go_enter Tryd.func19, Tryd.ntmps19
    go_wp2
    go_loopg [10] k (fun kq v10 w' => ∃ (x10_1 : Int), v10 = .int .i64 x10_1 ∧ Aside0 (graftageref15_Check.l0 kq l0 (l0.length : Int) x10_1 = some r) ∧ Aside0 (kq ≤ k) ∧ Aside0 (Below w.heap.size w w'))
    case atStart => exact ⟨(0), (by first | rfl | (simp; done) | (simp [*]; done) | (simp [ne_nil_bool]; done) | (simp [*, ne_nil_bool]; done)), H', ⟨Nat.le_refl _⟩, ⟨by repeat (first | (with_reducible first | exact HB.out | apply below_alloc | apply pw_below_drewN | apply below_drew1) | exact HB.out)⟩⟩
    case round =>
      clear H'
      try clear c1
      try clear c2
      try clear c2b0
      try clear c2b1
      try clear p2
      obtain ⟨x10_1, rfl, HA, HK1, HB⟩ := hrel
      cases gk with
      | zero => exact absurd HA.out (by simp [graftageref15_Check.l0])
      | succ k1 =>
        have H := HA.out
        clear HA
        simp only [graftageref15_Check.l0] at H
        by_cases c3 : x10_1 < (l0.length : Int)
        · rw [if_pos c3] at H
          have c3b0 : decide (x10_1 < (l0.length : Int)) = true := decide_eq_true c3
          clear c3
          by_cases c4 : 0 ≤ x10_1
          · rw [if_pos c4] at H
            have c4b0 : decide (0 ≤ x10_1) = true := decide_eq_true c4
            clear c4
            by_cases c5 : x10_1 < (l0.length : Int)
            · rw [if_pos c5] at H
              have c5b0 : decide (x10_1 < (l0.length : Int)) = true := decide_eq_true c5
              clear c5
              replace H := Option.bind_eq_some_iff.mp H
              obtain ⟨t228, A60, H⟩ := H
              replace H : (if t228 = true then (if x10_1 > 0 then (if 0 ≤ (wrap64 (x10_1 - 1)) then (if (wrap64 (x10_1 - 1)) < (l0.length : Int) then ((graftageref15_Less.f ((rd_T35 l0 (wrap64 (x10_1 - 1))).f0) ((rd_T35 l0 (wrap64 (x10_1 - 1))).f1) ((rd_T35 l0 (wrap64 (x10_1 - 1))).f2) ((rd_T35 l0 x10_1).f0) ((rd_T35 l0 x10_1).f1) ((rd_T35 l0 x10_1).f2)).bind fun t231 => (graftageref15_Check.j1 k1 l0 x10_1 (l0.length : Int) x10_1 (!t231))) else (none)) else (none)) else (graftageref15_Check.j1 k1 l0 x10_1 (l0.length : Int) x10_1 false)) else (some 1)) = some r := H
              have A6 := Aside0.mk A60
              clear A60
              by_cases c7 : t228 = true
              · subst c7
                have H1 : (if x10_1 > 0 then (if 0 ≤ (wrap64 (x10_1 - 1)) then (if (wrap64 (x10_1 - 1)) < (l0.length : Int) then ((graftageref15_Less.f ((rd_T35 l0 (wrap64 (x10_1 - 1))).f0) ((rd_T35 l0 (wrap64 (x10_1 - 1))).f1) ((rd_T35 l0 (wrap64 (x10_1 - 1))).f2) ((rd_T35 l0 x10_1).f0) ((rd_T35 l0 x10_1).f1) ((rd_T35 l0 x10_1).f2)).bind fun t231 => (graftageref15_Check.j1 k1 l0 x10_1 (l0.length : Int) x10_1 (!t231))) else (none)) else (none)) else (graftageref15_Check.j1 k1 l0 x10_1 (l0.length : Int) x10_1 false)) = some r := by rw [if_pos rfl] at H; exact H
                clear H
                have H := H1
                clear H1
                have HC8 := Aside0.mk H
                clear H
                have p227 : 0 ≤ (x10_1 : Int) := of_decide_eq_true (by first | (with_reducible assumption) | assumption)
                have q227 : x10_1 < (l0.length : Int) := of_decide_eq_true (by first | (with_reducible assumption) | assumption)
                obtain ⟨ad227, e227, hx227_0, hx227_1, hx227_2⟩ := at_T35 HR0.out x10_1 p227 q227
                cases e227
                replace hx227_0 := (HB.out.cell (World.block_lt_of_cell? w _ hx227_0)).trans hx227_0
                replace hx227_1 := (HB.out.cell (World.block_lt_of_cell? w _ hx227_1)).trans hx227_1
                replace hx227_2 := (HB.out.cell (World.block_lt_of_cell? w _ hx227_2)).trans hx227_2
                replace p227 := eq_true p227
                replace q227 := eq_true q227
                go_upto_region 8 with (first | ((with_reducible refine gate_callee (f := 23) rfl ?_); refine goesL_ (some 17) rfl rfl Tryd.func23 (by kernel_rfl) rfl #[.agg #[.int .i64 ((rd_T35 l0 x10_1).f0), .string ((rd_T35 l0 x10_1).f1), .string ((rd_T35 l0 x10_1).f2)]] rfl (by (try simp only [List.map_toArray, List.map_cons, List.map_nil]); first | done | rfl | (simp only [List.length_drop, List.length_take]; rfl)) ?_; (with_reducible refine (graftageref15_May.calls k1 ((rd_T35 l0 x10_1).f0) ((rd_T35 l0 x10_1).f1) ((rd_T35 l0 x10_1).f2) true _ A6.out).mono ?_); rintro e w9 ⟨rfl, hb⟩; refine ⟨_, rfl, ?_⟩; have n0_ := Aside0.mk (below_step (by repeat (first | (with_reducible first | exact HB.out | apply below_alloc | apply pw_below_drewN | apply below_drew1) | exact HB.out)) hb); clear HB; have HB := n0_; clear n0_; (try clear hb); (try clear hb2); (try clear hk); (try clear hi)))
                (try simp only [Act.put, List.setIfInBounds_toArray, List.set_cons_zero, List.set_cons_succ])
                go_cut [33] (fun v33 wc => ∃ (kq : Nat) (x33_7 : Bool), v33 = .bool x33_7 ∧ Aside0 (graftageref15_Check.j1 kq l0 x10_1 (l0.length : Int) x10_1 x33_7 = some r) ∧ Aside0 (kq ≤ k1) ∧ Aside0 (Below w.heap.size w wc))
                case first =>
                  have H := HC8.out
                  clear HC8
                  by_cases c10 : x10_1 > 0
                  · rw [if_pos c10] at H
                    have c10b0 : decide (0 < x10_1) = true := decide_eq_true c10
                    clear c10
                    (first | rw [c10b0] | (simp only [i64_w, i32_w]; rw [c10b0]) | skip)
                    obtain ⟨ji11, hji11⟩ : ∃ j_ : Int, (wrap64 (x10_1 - 1)) = j_ := ⟨_, rfl⟩
                    replace H : (if 0 ≤ (ji11) then (if (ji11) < (l0.length : Int) then ((graftageref15_Less.f ((rd_T35 l0 (ji11)).f0) ((rd_T35 l0 (ji11)).f1) ((rd_T35 l0 (ji11)).f2) ((rd_T35 l0 x10_1).f0) ((rd_T35 l0 x10_1).f1) ((rd_T35 l0 x10_1).f2)).bind fun t231 => (graftageref15_Check.j1 k1 l0 x10_1 (l0.length : Int) x10_1 (!t231))) else (none)) else (none)) = some r := by first | (rw [hji11] at H; exact H) | (simp only [hji11] at H ⊢; exact H)
                    have hji11w : (IntKind.i64.wrap (x10_1 - 1)) = ji11 := (i64_w _).trans hji11
                    by_cases c12 : 0 ≤ (ji11)
                    · rw [if_pos c12] at H
                      have c12b0 : decide (0 ≤ (ji11)) = true := decide_eq_true c12
                      clear c12
                      by_cases c13 : (ji11) < (l0.length : Int)
                      · rw [if_pos c13] at H
                        have c13b0 : decide ((ji11) < (l0.length : Int)) = true := decide_eq_true c13
                        clear c13
                        replace H := Option.bind_eq_some_iff.mp H
                        obtain ⟨t231, A140, H⟩ := H
                        replace H : (graftageref15_Check.j1 k1 l0 x10_1 (l0.length : Int) x10_1 (!t231)) = some r := H
                        have A14 := Aside0.mk A140
                        clear A140
                        have H' := Aside0.mk H
                        clear H
                        try go_wp2
                        have n0_ := Aside0.mk (below_drew1 HB.out)
                        clear HB
                        have HB := n0_
                        clear n0_
                        have p229 : 0 ≤ ((ji11) : Int) := of_decide_eq_true (by first | (with_reducible assumption) | assumption)
                        have q229 : (ji11) < (l0.length : Int) := of_decide_eq_true (by first | (with_reducible assumption) | assumption)
                        obtain ⟨ad229, e229, hx229_0, hx229_1, hx229_2⟩ := at_T35 HR0.out (ji11) p229 q229
                        have hw229_2 := hx229_2
                        have hw229_1 := hx229_1
                        have hw229_0 := hx229_0
                        obtain rfl : ad227 = ad229 := (by injection e229)
                        replace hx229_0 := (HB.out.cell (World.block_lt_of_cell? w _ hx229_0)).trans hx229_0
                        replace hx229_1 := (HB.out.cell (World.block_lt_of_cell? w _ hx229_1)).trans hx229_1
                        replace hx229_2 := (HB.out.cell (World.block_lt_of_cell? w _ hx229_2)).trans hx229_2
                        replace p229 := eq_true p229
                        replace q229 := eq_true q229
                        have p230 : 0 ≤ (x10_1 : Int) := of_decide_eq_true (by first | (with_reducible assumption) | assumption)
                        have q230 : x10_1 < (l0.length : Int) := of_decide_eq_true (by first | (with_reducible assumption) | assumption)
                        obtain ⟨ad230, e230, hx230_0, hx230_1, hx230_2⟩ := at_T35 HR0.out x10_1 p230 q230
                        have hw230_2 := hx230_2
                        have hw230_1 := hx230_1
                        have hw230_0 := hx230_0
                        obtain rfl : ad227 = ad230 := (by injection e230)
                        replace hx230_0 := (HB.out.cell (World.block_lt_of_cell? w _ hx230_0)).trans hx230_0
                        replace hx230_1 := (HB.out.cell (World.block_lt_of_cell? w _ hx230_1)).trans hx230_1
                        replace hx230_2 := (HB.out.cell (World.block_lt_of_cell? w _ hx230_2)).trans hx230_2
                        replace p230 := eq_true p230
                        replace q230 := eq_true q230
                        refine start_ (n := 15) (S := fun w' => w'.cell? (ad227.add (((ji11)).toNat * 3)) = some (.int .i64 ((rd_T35 l0 (ji11)).f0)) ∧ w'.cell? ⟨(ad227.add (((ji11)).toNat * 3)).block, (ad227.add (((ji11)).toNat * 3)).off + 1, none⟩ = some (.string ((rd_T35 l0 (ji11)).f1)) ∧ w'.cell? ⟨(ad227.add (((ji11)).toNat * 3)).block, (ad227.add (((ji11)).toNat * 3)).off + 2, none⟩ = some (.string ((rd_T35 l0 (ji11)).f2)) ∧ w'.cell? (ad227.add ((x10_1).toNat * 3)) = some (.int .i64 ((rd_T35 l0 x10_1).f0)) ∧ w'.cell? ⟨(ad227.add ((x10_1).toNat * 3)).block, (ad227.add ((x10_1).toNat * 3)).off + 1, none⟩ = some (.string ((rd_T35 l0 x10_1).f1)) ∧ w'.cell? ⟨(ad227.add ((x10_1).toNat * 3)).block, (ad227.add ((x10_1).toNat * 3)).off + 2, none⟩ = some (.string ((rd_T35 l0 x10_1).f2))) (ds := []) #[false, false, false, false, false, false, false, false, false, false, false, false, false, false, false] (by kernel_rfl) rfl rfl ⟨((HB.out.cell (World.block_lt_of_cell? w _ hw229_0)).trans hw229_0), ((HB.out.cell (World.block_lt_of_cell? w _ hw229_1)).trans hw229_1), ((HB.out.cell (World.block_lt_of_cell? w _ hw229_2)).trans hw229_2), ((HB.out.cell (World.block_lt_of_cell? w _ hw230_0)).trans hw230_0), ((HB.out.cell (World.block_lt_of_cell? w _ hw230_1)).trans hw230_1), ((HB.out.cell (World.block_lt_of_cell? w _ hw230_2)).trans hw230_2)⟩ (fun hHeld => ?_); refine with_tabW graftageref15_Check.tab8 graftageref15_Check.bits8 (fun HT_ HW_ => ?_)
                        generalize w9.drew = w15 at HB hx229_0 hx229_1 hx229_2 hx230_0 hx230_1 hx230_2 hHeld ⊢
                        refine pure_ (i := 0) (N := some 19) (v := ?_) (a' := ?_) #[true, false, false, false, false, false, false, false, false, false, false, false, false, false, false] rfl rfl (any_of HT_.out (by kernel_rfl)) (fun _ _ _ h => h) (Or.inl ⟨by rfl, ?_⟩) ?_ ?_
                        rotate_left
                        · intro w'
                          go_simp
                          with_reducible rfl
                        rotate_left
                        · simp only [Act.put, List.setIfInBounds_toArray, List.set_cons_zero, List.set_cons_succ, i64_w, i32_w]
                          rfl
                        refine pure_ (i := 1) (N := some 20) (v := ?_) (a' := ?_) #[true, true, false, false, false, false, false, false, false, false, false, false, false, false, false] rfl rfl (any_of HT_.out (by kernel_rfl)) (fun _ _ _ h => h) (Or.inl ⟨by rfl, ?_⟩) ?_ ?_
                        rotate_left
                        · intro w'
                          go_simp
                          with_reducible rfl
                        rotate_left
                        · simp only [Act.put, List.setIfInBounds_toArray, List.set_cons_zero, List.set_cons_succ, i64_w, i32_w]
                          rfl
                        refine pure_ (i := 2) (N := some 21) (v := ?_) (a' := ?_) #[true, true, true, false, false, false, false, false, false, false, false, false, false, false, false] rfl rfl (any_of HT_.out (by kernel_rfl)) (fun _ _ _ h => h) (Or.inl ⟨by rfl, ?_⟩) ?_ ?_
                        rotate_left
                        · intro w'
                          go_simp
                          with_reducible rfl
                        rotate_left
                        · simp only [Act.put, List.setIfInBounds_toArray, List.set_cons_zero, List.set_cons_succ, i64_w, i32_w]
                          rfl
                        refine pure_ (i := 3) (N := some 22) (v := ?_) (a' := ?_) #[true, true, true, true, false, false, false, false, false, false, false, false, false, false, false] rfl rfl (any_of HT_.out (by kernel_rfl)) (fun _ _ _ h => h) (Or.inl ⟨by rfl, ?_⟩) ?_ ?_
                        rotate_left
                        · intro w'
                          go_simp
                          with_reducible rfl
                        rotate_left
                        · simp only [Act.put, List.setIfInBounds_toArray, List.set_cons_zero, List.set_cons_succ, i64_w, i32_w]
                          rfl
                        refine pure_ (i := 4) (N := some 23) (v := ?_) (a' := ?_) #[true, true, true, true, true, false, false, false, false, false, false, false, false, false, false] rfl rfl (any_of HT_.out (by kernel_rfl)) (fun _ _ _ h => h) (Or.inl ⟨by rfl, ?_⟩) ?_ ?_
                        rotate_left
                        · intro w'
                          go_simp
                          with_reducible rfl
                        rotate_left
                        · simp only [Act.put, List.setIfInBounds_toArray, List.set_cons_zero, List.set_cons_succ, i64_w, i32_w]
                          rfl
                        refine pure_ (i := 5) (N := some 24) (v := ?_) (a' := ?_) #[true, true, true, true, true, true, false, false, false, false, false, false, false, false, false] rfl rfl (any_of HT_.out (by kernel_rfl)) (fun _ _ _ h => h) (Or.inl ⟨by rfl, ?_⟩) ?_ ?_
                        rotate_left
                        · intro w'
                          go_simp
                          with_reducible rfl
                        rotate_left
                        · simp only [Act.put, List.setIfInBounds_toArray, List.set_cons_zero, List.set_cons_succ, i64_w, i32_w]
                          rfl
                        refine pure_ (i := 6) (N := some 25) (v := ?_) (a' := ?_) #[true, true, true, true, true, true, true, false, false, false, false, false, false, false, false] rfl rfl (any_of HT_.out (by kernel_rfl)) (fun _ _ _ h => h) (Or.inl ⟨by rfl, ?_⟩) ?_ ?_
                        rotate_left
                        · intro w'
                          go_simp
                          with_reducible rfl
                        rotate_left
                        · simp only [Act.put, List.setIfInBounds_toArray, List.set_cons_zero, List.set_cons_succ, i64_w, i32_w]
                          rfl
                        refine pure_ (i := 8) (N := some 27) (v := ?_) (a' := ?_) #[true, true, true, true, true, true, true, false, true, false, false, false, false, false, false] rfl rfl (any_of HT_.out (by kernel_rfl)) (fun _ _ _ h => h) (Or.inl ⟨by rfl, ?_⟩) ?_ ?_
                        rotate_left
                        · intro w'
                          go_simp
                          with_reducible rfl
                        rotate_left
                        · simp only [Act.put, List.setIfInBounds_toArray, List.set_cons_zero, List.set_cons_succ, i64_w, i32_w]
                          rfl
                        refine pure_ (i := 9) (N := some 28) (v := ?_) (a' := ?_) #[true, true, true, true, true, true, true, false, true, true, false, false, false, false, false] rfl rfl (any_of HT_.out (by kernel_rfl)) (fun _ _ _ h => h) (Or.inl ⟨by rfl, ?_⟩) ?_ ?_
                        rotate_left
                        · intro w'
                          go_simp
                          with_reducible rfl
                        rotate_left
                        · simp only [Act.put, List.setIfInBounds_toArray, List.set_cons_zero, List.set_cons_succ, i64_w, i32_w]
                          rfl
                        refine pure_ (i := 10) (N := some 29) (v := ?_) (a' := ?_) #[true, true, true, true, true, true, true, false, true, true, true, false, false, false, false] rfl rfl (any_of HT_.out (by kernel_rfl)) (fun _ _ _ h => h) (Or.inl ⟨by rfl, ?_⟩) ?_ ?_
                        rotate_left
                        · intro w'
                          go_simp
                          with_reducible rfl
                        rotate_left
                        · simp only [Act.put, List.setIfInBounds_toArray, List.set_cons_zero, List.set_cons_succ, i64_w, i32_w]
                          rfl
                        refine take_ (i := 7) (N := some 26) (v := ?_) (a' := ?_) #[true, true, true, true, true, true, true, true, true, true, true, false, false, false, false] rfl rfl (take_ofW HT_.out HW_.out (by kernel_rfl)) (fun _ _ _ h => h) (Or.inl ⟨by rfl, ?_⟩) hHeld ?_ ?_
                        rotate_left
                        · rintro w' ⟨s0, s1, s2, s3, s4, s5⟩
                          go_simp
                          with_reducible rfl
                        rotate_left
                        · simp only [Act.put, List.setIfInBounds_toArray, List.set_cons_zero, List.set_cons_succ, i64_w, i32_w]
                          rfl
                        refine take_ (i := 11) (N := some 30) (v := ?_) (a' := ?_) #[true, true, true, true, true, true, true, true, true, true, true, true, false, false, false] rfl rfl (take_ofW HT_.out HW_.out (by kernel_rfl)) (fun _ _ _ h => h) (Or.inl ⟨by rfl, ?_⟩) hHeld ?_ ?_
                        rotate_left
                        · rintro w' ⟨s0, s1, s2, s3, s4, s5⟩
                          go_simp
                          with_reducible rfl
                        rotate_left
                        · simp only [Act.put, List.setIfInBounds_toArray, List.set_cons_zero, List.set_cons_succ, i64_w, i32_w]
                          rfl
                        refine one_ (i := 12) (N := some 31) #[true, true, true, true, true, true, true, true, true, true, true, true, true, false, false] rfl rfl (one_of HT_.out (by kernel_rfl)) (by decide) (fun K hK => ?_)
                        refine goes_ Tryd.func27 (by kernel_rfl) rfl #[.agg #[.int .i64 ((rd_T35 l0 (ji11)).f0), .string ((rd_T35 l0 (ji11)).f1), .string ((rd_T35 l0 (ji11)).f2)], .agg #[.int .i64 ((rd_T35 l0 x10_1).f0), .string ((rd_T35 l0 x10_1).f1), .string ((rd_T35 l0 x10_1).f2)]] (by rfl) rfl rfl (by (try simp only [List.map_toArray, List.map_cons, List.map_nil]); first | done | (simp only [hji11]; rfl) | rfl | (simp only [List.length_drop, List.length_take]; rfl)) ?_
                        with_reducible refine (graftageref15_Less.calls ((rd_T35 l0 (ji11)).f0) ((rd_T35 l0 (ji11)).f1) ((rd_T35 l0 (ji11)).f2) ((rd_T35 l0 x10_1).f0) ((rd_T35 l0 x10_1).f1) ((rd_T35 l0 x10_1).f2) t231 _ A14.out).mono ?_
                        rintro e w16 ⟨rfl, hb⟩
                        refine ⟨_, rfl, ?_⟩
                        have n0_ := Aside0.mk (below_step (by repeat (first | (with_reducible first | exact HB.out | apply below_alloc | apply pw_below_drewN | apply below_drew1) | exact HB.out)) hb)
                        clear HB
                        have HB := n0_
                        clear n0_
                        (try clear hb)
                        (try clear hb2)
                        (try clear hk)
                        (try clear hi)
                        refine hK.out _ _ ⟨((HB.out.cell (World.block_lt_of_cell? w _ hw229_0)).trans hw229_0), ((HB.out.cell (World.block_lt_of_cell? w _ hw229_1)).trans hw229_1), ((HB.out.cell (World.block_lt_of_cell? w _ hw229_2)).trans hw229_2), ((HB.out.cell (World.block_lt_of_cell? w _ hw230_0)).trans hw230_0), ((HB.out.cell (World.block_lt_of_cell? w _ hw230_1)).trans hw230_1), ((HB.out.cell (World.block_lt_of_cell? w _ hw230_2)).trans hw230_2)⟩ (fun hHeld => ?_)
                        clear hK K
                        refine norm_ (a' := ?_) ?_ ?_
                        rotate_left
                        · show Act.put _ (some 31) _ = _
                          simp only [Act.put, List.setIfInBounds_toArray, List.set_cons_zero, List.set_cons_succ, i64_w, i32_w]
                          rfl
                        refine pure_ (i := 13) (N := some 32) (v := ?_) (a' := ?_) #[true, true, true, true, true, true, true, true, true, true, true, true, true, true, false] rfl rfl (any_of HT_.out (by kernel_rfl)) (fun _ _ _ h => h) (Or.inl ⟨by rfl, ?_⟩) ?_ ?_
                        rotate_left
                        · intro w'
                          go_simp
                          with_reducible rfl
                        rotate_left
                        · simp only [Act.put, List.setIfInBounds_toArray, List.set_cons_zero, List.set_cons_succ, i64_w, i32_w]
                          rfl
                        refine pure_ (i := 14) (N := some 33) (v := ?_) (a' := ?_) #[true, true, true, true, true, true, true, true, true, true, true, true, true, true, true] rfl rfl (any_of HT_.out (by kernel_rfl)) (fun _ _ _ h => h) (Or.inl ⟨by rfl, ?_⟩) ?_ ?_
                        rotate_left
                        · intro w'
                          go_simp
                          with_reducible rfl
                        rotate_left
                        · simp only [Act.put, List.setIfInBounds_toArray, List.set_cons_zero, List.set_cons_succ, i64_w, i32_w]
                          rfl
                        refine done_ (done_of HT_.out (by kernel_rfl)) ?_
                        try go_wp2
                        go_meet
                        case rel => exact ⟨_, (!t231), (by first | rfl | (simp; done) | (simp [*]; done) | (simp [ne_nil_bool]; done) | (simp [*, ne_nil_bool]; done)), H', ⟨by have := HK1.out; first | omega | exact Nat.le_refl _⟩, ⟨by repeat (first | (with_reducible first | exact HB.out | apply below_alloc | apply pw_below_drewN | apply below_drew1) | exact HB.out)⟩⟩
                      · rw [if_neg c13] at H
                        exact absurd H (by simp)
                    · rw [if_neg c12] at H
                      exact absurd H (by simp)
                  · rw [if_neg c10] at H
                    have c10b0 : decide (0 < x10_1) = false := decide_eq_false c10
                    clear c10
                    (first | rw [c10b0] | (simp only [i64_w, i32_w]; rw [c10b0]) | skip)
                    have H' := Aside0.mk H
                    clear H
                    try go_wp2
                    have n0_ := Aside0.mk (below_drew1 HB.out)
                    clear HB
                    have HB := n0_
                    clear n0_
                    refine start_ (n := 15) (S := fun w' => True) (ds := []) #[false, false, false, false, false, false, false, false, false, false, false, false, false, false, false] (by kernel_rfl) rfl rfl trivial (fun hHeld => ?_); refine with_tabW graftageref15_Check.tab8 graftageref15_Check.bits8 (fun HT_ HW_ => ?_)
                    generalize w9.drew = w17 at HB hHeld ⊢
                    refine pure_ (i := 0) (N := some 19) (v := ?_) (a' := ?_) #[true, false, false, false, false, false, false, false, false, false, false, false, false, false, false] rfl rfl (any_of HT_.out (by kernel_rfl)) (fun _ _ _ h => h) (Or.inl ⟨by rfl, ?_⟩) ?_ ?_
                    rotate_left
                    · intro w'
                      go_simp
                      with_reducible rfl
                    rotate_left
                    · simp only [Act.put, List.setIfInBounds_toArray, List.set_cons_zero, List.set_cons_succ, i64_w, i32_w]
                      rfl
                    refine pure_ (i := 1) (N := some 20) (v := ?_) (a' := ?_) #[true, true, false, false, false, false, false, false, false, false, false, false, false, false, false] rfl rfl (any_of HT_.out (by kernel_rfl)) (fun _ _ _ h => h) (Or.inl ⟨by rfl, ?_⟩) ?_ ?_
                    rotate_left
                    · intro w'
                      go_simp
                      with_reducible rfl
                    rotate_left
                    · simp only [Act.put, List.setIfInBounds_toArray, List.set_cons_zero, List.set_cons_succ, i64_w, i32_w]
                      rfl
                    refine pure_ (i := 2) (N := some 21) (v := ?_) (a' := ?_) #[true, true, true, false, false, false, false, false, false, false, false, false, false, false, false] rfl rfl (any_of HT_.out (by kernel_rfl)) (fun _ _ _ h => h) (Or.inl ⟨by rfl, ?_⟩) ?_ ?_
                    rotate_left
                    · intro w'
                      go_simp
                      with_reducible rfl
                    rotate_left
                    · simp only [Act.put, List.setIfInBounds_toArray, List.set_cons_zero, List.set_cons_succ, i64_w, i32_w]
                      rfl
                    refine pure_ (i := 3) (N := some 22) (v := undef) (a' := ?_) #[true, true, true, true, false, false, false, false, false, false, false, false, false, false, false] rfl rfl (any_of HT_.out (by kernel_rfl)) (fun _ _ _ h => h) (Or.inr ⟨by rfl, rfl⟩) ?_ ?_
                    rotate_left
                    · simp only [Act.put, List.setIfInBounds_toArray, List.set_cons_zero, List.set_cons_succ, i64_w, i32_w]
                      rfl
                    refine pure_ (i := 4) (N := some 23) (v := undef) (a' := ?_) #[true, true, true, true, true, false, false, false, false, false, false, false, false, false, false] rfl rfl (any_of HT_.out (by kernel_rfl)) (fun _ _ _ h => h) (Or.inr ⟨by rfl, rfl⟩) ?_ ?_
                    rotate_left
                    · simp only [Act.put, List.setIfInBounds_toArray, List.set_cons_zero, List.set_cons_succ, i64_w, i32_w]
                      rfl
                    refine pure_ (i := 5) (N := some 24) (v := undef) (a' := ?_) #[true, true, true, true, true, true, false, false, false, false, false, false, false, false, false] rfl rfl (any_of HT_.out (by kernel_rfl)) (fun _ _ _ h => h) (Or.inr ⟨by rfl, rfl⟩) ?_ ?_
                    rotate_left
                    · simp only [Act.put, List.setIfInBounds_toArray, List.set_cons_zero, List.set_cons_succ, i64_w, i32_w]
                      rfl
                    refine pure_ (i := 6) (N := some 25) (v := undef) (a' := ?_) #[true, true, true, true, true, true, true, false, false, false, false, false, false, false, false] rfl rfl (any_of HT_.out (by kernel_rfl)) (fun _ _ _ h => h) (Or.inr ⟨by rfl, rfl⟩) ?_ ?_
                    rotate_left
                    · simp only [Act.put, List.setIfInBounds_toArray, List.set_cons_zero, List.set_cons_succ, i64_w, i32_w]
                      rfl
                    refine pure_ (i := 7) (N := some 26) (v := undef) (a' := ?_) #[true, true, true, true, true, true, true, true, false, false, false, false, false, false, false] rfl rfl (any_of HT_.out (by kernel_rfl)) (fun _ _ _ h => h) (Or.inr ⟨by rfl, rfl⟩) ?_ ?_
                    rotate_left
                    · simp only [Act.put, List.setIfInBounds_toArray, List.set_cons_zero, List.set_cons_succ, i64_w, i32_w]
                      rfl
                    refine pure_ (i := 8) (N := some 27) (v := undef) (a' := ?_) #[true, true, true, true, true, true, true, true, true, false, false, false, false, false, false] rfl rfl (any_of HT_.out (by kernel_rfl)) (fun _ _ _ h => h) (Or.inr ⟨by rfl, rfl⟩) ?_ ?_
                    rotate_left
                    · simp only [Act.put, List.setIfInBounds_toArray, List.set_cons_zero, List.set_cons_succ, i64_w, i32_w]
                      rfl
                    refine pure_ (i := 9) (N := some 28) (v := undef) (a' := ?_) #[true, true, true, true, true, true, true, true, true, true, false, false, false, false, false] rfl rfl (any_of HT_.out (by kernel_rfl)) (fun _ _ _ h => h) (Or.inr ⟨by rfl, rfl⟩) ?_ ?_
                    rotate_left
                    · simp only [Act.put, List.setIfInBounds_toArray, List.set_cons_zero, List.set_cons_succ, i64_w, i32_w]
                      rfl
                    refine pure_ (i := 10) (N := some 29) (v := undef) (a' := ?_) #[true, true, true, true, true, true, true, true, true, true, true, false, false, false, false] rfl rfl (any_of HT_.out (by kernel_rfl)) (fun _ _ _ h => h) (Or.inr ⟨by rfl, rfl⟩) ?_ ?_
                    rotate_left
                    · simp only [Act.put, List.setIfInBounds_toArray, List.set_cons_zero, List.set_cons_succ, i64_w, i32_w]
                      rfl
                    refine pure_ (i := 11) (N := some 30) (v := undef) (a' := ?_) #[true, true, true, true, true, true, true, true, true, true, true, true, false, false, false] rfl rfl (any_of HT_.out (by kernel_rfl)) (fun _ _ _ h => h) (Or.inr ⟨by rfl, rfl⟩) ?_ ?_
                    rotate_left
                    · simp only [Act.put, List.setIfInBounds_toArray, List.set_cons_zero, List.set_cons_succ, i64_w, i32_w]
                      rfl
                    refine pure_ (i := 12) (N := some 31) (v := undef) (a' := ?_) #[true, true, true, true, true, true, true, true, true, true, true, true, true, false, false] rfl rfl (any_of HT_.out (by kernel_rfl)) (fun _ _ _ h => h) (Or.inr ⟨by rfl, rfl⟩) ?_ ?_
                    rotate_left
                    · simp only [Act.put, List.setIfInBounds_toArray, List.set_cons_zero, List.set_cons_succ, i64_w, i32_w]
                      rfl
                    refine pure_ (i := 13) (N := some 32) (v := undef) (a' := ?_) #[true, true, true, true, true, true, true, true, true, true, true, true, true, true, false] rfl rfl (any_of HT_.out (by kernel_rfl)) (fun _ _ _ h => h) (Or.inr ⟨by rfl, rfl⟩) ?_ ?_
                    rotate_left
                    · simp only [Act.put, List.setIfInBounds_toArray, List.set_cons_zero, List.set_cons_succ, i64_w, i32_w]
                      rfl
                    refine pure_ (i := 14) (N := some 33) (v := ?_) (a' := ?_) #[true, true, true, true, true, true, true, true, true, true, true, true, true, true, true] rfl rfl (any_of HT_.out (by kernel_rfl)) (fun _ _ _ h => h) (Or.inl ⟨by rfl, ?_⟩) ?_ ?_
                    rotate_left
                    · intro w'
                      go_simp
                      with_reducible rfl
                    rotate_left
                    · simp only [Act.put, List.setIfInBounds_toArray, List.set_cons_zero, List.set_cons_succ, i64_w, i32_w]
                      rfl
                    refine done_ (done_of HT_.out (by kernel_rfl)) ?_
                    try go_wp2
                    go_meet
                    case rel => exact ⟨_, (false), (by first | rfl | (simp; done) | (simp [*]; done) | (simp [ne_nil_bool]; done) | (simp [*, ne_nil_bool]; done)), H', ⟨by have := HK1.out; first | omega | exact Nat.le_refl _⟩, ⟨by repeat (first | (with_reducible first | exact HB.out | apply below_alloc | apply pw_below_drewN | apply below_drew1) | exact HB.out)⟩⟩
                case rest =>
                  clear HC8
                  try clear c1
                  try clear c2
                  try clear c2b0
                  try clear c2b1
                  try clear p2
                  try clear q2
                  try clear hx2
                  try clear c3
                  try clear c3b0
                  try clear c4
                  try clear c4b0
                  try clear c5
                  try clear c5b0
                  try clear p6
                  try clear c7
                  try clear c10
                  try clear c10b0
                  try clear c12
                  try clear c12b0
                  try clear c13
                  try clear c13b0
                  try clear hx227_0
                  try clear hx227_1
                  try clear hx227_2
                  try clear hx229_0
                  try clear hx229_1
                  try clear hx229_2
                  try clear hx230_0
                  try clear hx230_1
                  try clear hx230_2
                  try clear p2
                  try clear p227
                  try clear p229
                  try clear p230
                  try clear q227
                  try clear q229
                  try clear q230
                  obtain ⟨kq, x33_7, rfl, HA, HJ7, HB⟩ := hcut
                  cases kq with
                  | zero => exact absurd HA.out (by simp [graftageref15_Check.j1])
                  | succ kj7 =>
                    have H := HA.out
                    clear HA
                    simp only [graftageref15_Check.j1] at H
                    by_cases c18 : x33_7 = true
                    · subst c18
                      have H1 : (some 150) = some r := by rw [if_pos rfl] at H; exact H
                      clear H
                      have H := H1
                      clear H1
                      obtain rfl := Option.some.inj H
                      go_wp2
                      go_ret
                      exact ⟨by first | rfl | (simp [errW_none, errW_some] <;> rfl) | (simp [*, errW_none, errW_some] <;> rfl) | (simp [ne_nil_bool]; done) | (simp [*, ne_nil_bool]; done), by repeat (first | (with_reducible first | exact HB.out | apply below_alloc | apply pw_below_drewN | apply below_drew1) | exact HB.out)⟩
                    · replace c18 := Bool.eq_false_iff.mpr c18
                      subst c18
                      have H1 : (graftageref15_Check.l1 kj7 l0 x10_1 (l0.length : Int) x10_1 x10_1 0) = some r := by rw [if_neg (show ¬ (false = true) by decide)] at H; exact H
                      clear H
                      have H := H1
                      clear H1
                      have H' := Aside0.mk H
                      clear H
                      go_wp2
                      go_loopg [35] kj7 (fun kq v35 w' => ∃ (x35_3 : Int), v35 = .int .i64 x35_3 ∧ Aside0 (graftageref15_Check.l1 kq l0 x10_1 (l0.length : Int) x10_1 x10_1 x35_3 = some r) ∧ Aside0 (kq ≤ kj7) ∧ Aside0 (Below w.heap.size w w'))
                      case atStart => exact ⟨(0), (by first | rfl | (simp; done) | (simp [*]; done) | (simp [ne_nil_bool]; done) | (simp [*, ne_nil_bool]; done)), H', ⟨Nat.le_refl _⟩, ⟨by repeat (first | (with_reducible first | exact HB.out | apply below_alloc | apply pw_below_drewN | apply below_drew1) | exact HB.out)⟩⟩
                      case round =>
                        clear H'
                        try clear c1
                        try clear c2
                        try clear c2b0
                        try clear c2b1
                        try clear p2
                        try clear q2
                        try clear hx2
                        try clear c3
                        try clear c3b0
                        try clear c4
                        try clear c4b0
                        try clear c5
                        try clear c5b0
                        try clear p6
                        try clear c7
                        try clear c10
                        try clear c10b0
                        try clear c12
                        try clear c12b0
                        try clear c13
                        try clear c13b0
                        try clear c18
                        try clear hx227_0
                        try clear hx227_1
                        try clear hx227_2
                        try clear hx229_0
                        try clear hx229_1
                        try clear hx229_2
                        try clear hx230_0
                        try clear hx230_1
                        try clear hx230_2
                        try clear p2
                        try clear p227
                        try clear p229
                        try clear p230
                        try clear p6
                        try clear q2
                        try clear q227
                        try clear q229
                        try clear q230
                        obtain ⟨x35_3, rfl, HA, HK3, HB⟩ := hrel
                        cases gk with
                        | zero => exact absurd HA.out (by simp [graftageref15_Check.l1])
                        | succ k3 =>
                          have H := HA.out
                          clear HA
                          simp only [graftageref15_Check.l1] at H
                          by_cases c19 : x35_3 < x10_1
                          · rw [if_pos c19] at H
                            have c19b0 : decide (x35_3 < x10_1) = true := decide_eq_true c19
                            clear c19
                            by_cases c20 : 0 ≤ x35_3
                            · rw [if_pos c20] at H
                              have c20b0 : decide (0 ≤ x35_3) = true := decide_eq_true c20
                              clear c20
                              by_cases c21 : x35_3 < (l0.length : Int)
                              · rw [if_pos c21] at H
                                have c21b0 : decide (x35_3 < (l0.length : Int)) = true := decide_eq_true c21
                                clear c21
                                by_cases c22 : 0 ≤ x10_1
                                · rw [if_pos c22] at H
                                  have c22b0 : decide (0 ≤ x10_1) = true := decide_eq_true c22
                                  clear c22
                                  by_cases c23 : x10_1 < (l0.length : Int)
                                  · rw [if_pos c23] at H
                                    have c23b0 : decide (x10_1 < (l0.length : Int)) = true := decide_eq_true c23
                                    clear c23
                                    by_cases c24 : ((rd_T35 l0 x35_3).f1).toList = ((rd_T35 l0 x10_1).f1).toList
                                    · rw [if_pos c24] at H
                                      have c24b0 : (((rd_T35 l0 x35_3).f1).toList == ((rd_T35 l0 x10_1).f1).toList) = true := beq_iff_eq.mpr c24
                                      have c24b1 : (((rd_T35 l0 x35_3).f1).toList != ((rd_T35 l0 x10_1).f1).toList) = false := bne_eq_false_iff_eq.mpr c24
                                      clear c24
                                      obtain rfl := Option.some.inj H
                                      try go_wp2
                                      have n0_ := Aside0.mk (below_drew1 HB.out)
                                      clear HB
                                      have HB := n0_
                                      clear n0_
                                      have p232 : 0 ≤ (x35_3 : Int) := of_decide_eq_true (by first | (with_reducible assumption) | assumption)
                                      have q232 : x35_3 < (l0.length : Int) := of_decide_eq_true (by first | (with_reducible assumption) | assumption)
                                      obtain ⟨ad232, e232, hx232_0, hx232_1, hx232_2⟩ := at_T35 HR0.out x35_3 p232 q232
                                      have hw232_2 := hx232_2
                                      have hw232_1 := hx232_1
                                      have hw232_0 := hx232_0
                                      obtain rfl : ad227 = ad232 := (by injection e232)
                                      replace hx232_0 := (HB.out.cell (World.block_lt_of_cell? w _ hx232_0)).trans hx232_0
                                      replace hx232_1 := (HB.out.cell (World.block_lt_of_cell? w _ hx232_1)).trans hx232_1
                                      replace hx232_2 := (HB.out.cell (World.block_lt_of_cell? w _ hx232_2)).trans hx232_2
                                      replace p232 := eq_true p232
                                      replace q232 := eq_true q232
                                      have p233 : 0 ≤ (x10_1 : Int) := of_decide_eq_true (by first | (with_reducible assumption) | assumption)
                                      have q233 : x10_1 < (l0.length : Int) := of_decide_eq_true (by first | (with_reducible assumption) | assumption)
                                      obtain ⟨ad233, e233, hx233_0, hx233_1, hx233_2⟩ := at_T35 HR0.out x10_1 p233 q233
                                      have hw233_2 := hx233_2
                                      have hw233_1 := hx233_1
                                      have hw233_0 := hx233_0
                                      obtain rfl : ad227 = ad233 := (by injection e233)
                                      replace hx233_0 := (HB.out.cell (World.block_lt_of_cell? w _ hx233_0)).trans hx233_0
                                      replace hx233_1 := (HB.out.cell (World.block_lt_of_cell? w _ hx233_1)).trans hx233_1
                                      replace hx233_2 := (HB.out.cell (World.block_lt_of_cell? w _ hx233_2)).trans hx233_2
                                      replace p233 := eq_true p233
                                      replace q233 := eq_true q233
                                      refine start_ (n := 11) (S := fun w' => w'.cell? (ad227.add ((x35_3).toNat * 3)) = some (.int .i64 ((rd_T35 l0 x35_3).f0)) ∧ w'.cell? ⟨(ad227.add ((x35_3).toNat * 3)).block, (ad227.add ((x35_3).toNat * 3)).off + 1, none⟩ = some (.string ((rd_T35 l0 x35_3).f1)) ∧ w'.cell? ⟨(ad227.add ((x35_3).toNat * 3)).block, (ad227.add ((x35_3).toNat * 3)).off + 2, none⟩ = some (.string ((rd_T35 l0 x35_3).f2)) ∧ w'.cell? (ad227.add ((x10_1).toNat * 3)) = some (.int .i64 ((rd_T35 l0 x10_1).f0)) ∧ w'.cell? ⟨(ad227.add ((x10_1).toNat * 3)).block, (ad227.add ((x10_1).toNat * 3)).off + 1, none⟩ = some (.string ((rd_T35 l0 x10_1).f1)) ∧ w'.cell? ⟨(ad227.add ((x10_1).toNat * 3)).block, (ad227.add ((x10_1).toNat * 3)).off + 2, none⟩ = some (.string ((rd_T35 l0 x10_1).f2))) (ds := []) #[false, false, false, false, false, false, false, false, false, false, false] (by kernel_rfl) rfl rfl ⟨((HB.out.cell (World.block_lt_of_cell? w _ hw232_0)).trans hw232_0), ((HB.out.cell (World.block_lt_of_cell? w _ hw232_1)).trans hw232_1), ((HB.out.cell (World.block_lt_of_cell? w _ hw232_2)).trans hw232_2), ((HB.out.cell (World.block_lt_of_cell? w _ hw233_0)).trans hw233_0), ((HB.out.cell (World.block_lt_of_cell? w _ hw233_1)).trans hw233_1), ((HB.out.cell (World.block_lt_of_cell? w _ hw233_2)).trans hw233_2)⟩ (fun hHeld => ?_); refine with_tabW graftageref15_Check.tab13 graftageref15_Check.bits13 (fun HT_ HW_ => ?_)
                                      generalize wr.drew = w25 at HB hx232_0 hx232_1 hx232_2 hx233_0 hx233_1 hx233_2 hHeld ⊢
                                      refine pure_ (i := 0) (N := some 38) (v := ?_) (a' := ?_) #[true, false, false, false, false, false, false, false, false, false, false] rfl rfl (any_of HT_.out (by kernel_rfl)) (fun _ _ _ h => h) (Or.inl ⟨by rfl, ?_⟩) ?_ ?_
                                      rotate_left
                                      · intro w'
                                        go_simp
                                        with_reducible rfl
                                      rotate_left
                                      · simp only [Act.put, List.setIfInBounds_toArray, List.set_cons_zero, List.set_cons_succ, i64_w, i32_w]
                                        rfl
                                      refine pure_ (i := 1) (N := some 39) (v := ?_) (a' := ?_) #[true, true, false, false, false, false, false, false, false, false, false] rfl rfl (any_of HT_.out (by kernel_rfl)) (fun _ _ _ h => h) (Or.inl ⟨by rfl, ?_⟩) ?_ ?_
                                      rotate_left
                                      · intro w'
                                        go_simp
                                        with_reducible rfl
                                      rotate_left
                                      · simp only [Act.put, List.setIfInBounds_toArray, List.set_cons_zero, List.set_cons_succ, i64_w, i32_w]
                                        rfl
                                      refine pure_ (i := 2) (N := some 40) (v := ?_) (a' := ?_) #[true, true, true, false, false, false, false, false, false, false, false] rfl rfl (any_of HT_.out (by kernel_rfl)) (fun _ _ _ h => h) (Or.inl ⟨by rfl, ?_⟩) ?_ ?_
                                      rotate_left
                                      · intro w'
                                        go_simp
                                        with_reducible rfl
                                      rotate_left
                                      · simp only [Act.put, List.setIfInBounds_toArray, List.set_cons_zero, List.set_cons_succ, i64_w, i32_w]
                                        rfl
                                      refine pure_ (i := 3) (N := some 41) (v := ?_) (a' := ?_) #[true, true, true, true, false, false, false, false, false, false, false] rfl rfl (any_of HT_.out (by kernel_rfl)) (fun _ _ _ h => h) (Or.inl ⟨by rfl, ?_⟩) ?_ ?_
                                      rotate_left
                                      · intro w'
                                        go_simp
                                        with_reducible rfl
                                      rotate_left
                                      · simp only [Act.put, List.setIfInBounds_toArray, List.set_cons_zero, List.set_cons_succ, i64_w, i32_w]
                                        rfl
                                      refine pure_ (i := 5) (N := some 43) (v := ?_) (a' := ?_) #[true, true, true, true, false, true, false, false, false, false, false] rfl rfl (any_of HT_.out (by kernel_rfl)) (fun _ _ _ h => h) (Or.inl ⟨by rfl, ?_⟩) ?_ ?_
                                      rotate_left
                                      · intro w'
                                        go_simp
                                        with_reducible rfl
                                      rotate_left
                                      · simp only [Act.put, List.setIfInBounds_toArray, List.set_cons_zero, List.set_cons_succ, i64_w, i32_w]
                                        rfl
                                      refine pure_ (i := 6) (N := some 44) (v := ?_) (a' := ?_) #[true, true, true, true, false, true, true, false, false, false, false] rfl rfl (any_of HT_.out (by kernel_rfl)) (fun _ _ _ h => h) (Or.inl ⟨by rfl, ?_⟩) ?_ ?_
                                      rotate_left
                                      · intro w'
                                        go_simp
                                        with_reducible rfl
                                      rotate_left
                                      · simp only [Act.put, List.setIfInBounds_toArray, List.set_cons_zero, List.set_cons_succ, i64_w, i32_w]
                                        rfl
                                      refine pure_ (i := 7) (N := some 45) (v := ?_) (a' := ?_) #[true, true, true, true, false, true, true, true, false, false, false] rfl rfl (any_of HT_.out (by kernel_rfl)) (fun _ _ _ h => h) (Or.inl ⟨by rfl, ?_⟩) ?_ ?_
                                      rotate_left
                                      · intro w'
                                        go_simp
                                        with_reducible rfl
                                      rotate_left
                                      · simp only [Act.put, List.setIfInBounds_toArray, List.set_cons_zero, List.set_cons_succ, i64_w, i32_w]
                                        rfl
                                      refine pure_ (i := 8) (N := some 46) (v := ?_) (a' := ?_) #[true, true, true, true, false, true, true, true, true, false, false] rfl rfl (any_of HT_.out (by kernel_rfl)) (fun _ _ _ h => h) (Or.inl ⟨by rfl, ?_⟩) ?_ ?_
                                      rotate_left
                                      · intro w'
                                        go_simp
                                        with_reducible rfl
                                      rotate_left
                                      · simp only [Act.put, List.setIfInBounds_toArray, List.set_cons_zero, List.set_cons_succ, i64_w, i32_w]
                                        rfl
                                      refine take_ (i := 4) (N := some 42) (v := ?_) (a' := ?_) #[true, true, true, true, true, true, true, true, true, false, false] rfl rfl (take_ofW HT_.out HW_.out (by kernel_rfl)) (fun _ _ _ h => h) (Or.inl ⟨by rfl, ?_⟩) hHeld ?_ ?_
                                      rotate_left
                                      · rintro w' ⟨s0, s1, s2, s3, s4, s5⟩
                                        go_simp
                                        with_reducible rfl
                                      rotate_left
                                      · simp only [Act.put, List.setIfInBounds_toArray, List.set_cons_zero, List.set_cons_succ, i64_w, i32_w]
                                        rfl
                                      refine take_ (i := 9) (N := some 47) (v := ?_) (a' := ?_) #[true, true, true, true, true, true, true, true, true, true, false] rfl rfl (take_ofW HT_.out HW_.out (by kernel_rfl)) (fun _ _ _ h => h) (Or.inl ⟨by rfl, ?_⟩) hHeld ?_ ?_
                                      rotate_left
                                      · rintro w' ⟨s0, s1, s2, s3, s4, s5⟩
                                        go_simp
                                        with_reducible rfl
                                      rotate_left
                                      · simp only [Act.put, List.setIfInBounds_toArray, List.set_cons_zero, List.set_cons_succ, i64_w, i32_w]
                                        rfl
                                      refine pure_ (i := 10) (N := some 48) (v := ?_) (a' := ?_) #[true, true, true, true, true, true, true, true, true, true, true] rfl rfl (any_of HT_.out (by kernel_rfl)) (fun _ _ _ h => h) (Or.inl ⟨by rfl, ?_⟩) ?_ ?_
                                      rotate_left
                                      · intro w'
                                        go_simp
                                        with_reducible rfl
                                      rotate_left
                                      · simp only [Act.put, List.setIfInBounds_toArray, List.set_cons_zero, List.set_cons_succ, i64_w, i32_w]
                                        rfl
                                      refine done_ (done_of HT_.out (by kernel_rfl)) ?_
                                      try go_wp2
                                      go_ret
                                      exact ⟨by first | rfl | (simp [errW_none, errW_some] <;> rfl) | (simp [*, errW_none, errW_some] <;> rfl) | (simp [ne_nil_bool]; done) | (simp [*, ne_nil_bool]; done), by repeat (first | (with_reducible first | exact HB.out | apply below_alloc | apply pw_below_drewN | apply below_drew1) | exact HB.out)⟩
                                    · rw [if_neg c24] at H
                                      have c24b0 : (((rd_T35 l0 x35_3).f1).toList == ((rd_T35 l0 x10_1).f1).toList) = false := beq_eq_false_iff_ne.mpr c24
                                      have c24b1 : (((rd_T35 l0 x35_3).f1).toList != ((rd_T35 l0 x10_1).f1).toList) = true := bne_iff_ne.mpr c24
                                      have H' := Aside0.mk H
                                      clear H
                                      try go_wp2
                                      have n0_ := Aside0.mk (below_drew1 HB.out)
                                      clear HB
                                      have HB := n0_
                                      clear n0_
                                      have p232 : 0 ≤ (x35_3 : Int) := of_decide_eq_true (by first | (with_reducible assumption) | assumption)
                                      have q232 : x35_3 < (l0.length : Int) := of_decide_eq_true (by first | (with_reducible assumption) | assumption)
                                      obtain ⟨ad232, e232, hx232_0, hx232_1, hx232_2⟩ := at_T35 HR0.out x35_3 p232 q232
                                      have hw232_2 := hx232_2
                                      have hw232_1 := hx232_1
                                      have hw232_0 := hx232_0
                                      obtain rfl : ad227 = ad232 := (by injection e232)
                                      replace hx232_0 := (HB.out.cell (World.block_lt_of_cell? w _ hx232_0)).trans hx232_0
                                      replace hx232_1 := (HB.out.cell (World.block_lt_of_cell? w _ hx232_1)).trans hx232_1
                                      replace hx232_2 := (HB.out.cell (World.block_lt_of_cell? w _ hx232_2)).trans hx232_2
                                      replace p232 := eq_true p232
                                      replace q232 := eq_true q232
                                      have p233 : 0 ≤ (x10_1 : Int) := of_decide_eq_true (by first | (with_reducible assumption) | assumption)
                                      have q233 : x10_1 < (l0.length : Int) := of_decide_eq_true (by first | (with_reducible assumption) | assumption)
                                      obtain ⟨ad233, e233, hx233_0, hx233_1, hx233_2⟩ := at_T35 HR0.out x10_1 p233 q233
                                      have hw233_2 := hx233_2
                                      have hw233_1 := hx233_1
                                      have hw233_0 := hx233_0
                                      obtain rfl : ad227 = ad233 := (by injection e233)
                                      replace hx233_0 := (HB.out.cell (World.block_lt_of_cell? w _ hx233_0)).trans hx233_0
                                      replace hx233_1 := (HB.out.cell (World.block_lt_of_cell? w _ hx233_1)).trans hx233_1
                                      replace hx233_2 := (HB.out.cell (World.block_lt_of_cell? w _ hx233_2)).trans hx233_2
                                      replace p233 := eq_true p233
                                      replace q233 := eq_true q233
                                      refine start_ (n := 11) (S := fun w' => w'.cell? (ad227.add ((x35_3).toNat * 3)) = some (.int .i64 ((rd_T35 l0 x35_3).f0)) ∧ w'.cell? ⟨(ad227.add ((x35_3).toNat * 3)).block, (ad227.add ((x35_3).toNat * 3)).off + 1, none⟩ = some (.string ((rd_T35 l0 x35_3).f1)) ∧ w'.cell? ⟨(ad227.add ((x35_3).toNat * 3)).block, (ad227.add ((x35_3).toNat * 3)).off + 2, none⟩ = some (.string ((rd_T35 l0 x35_3).f2)) ∧ w'.cell? (ad227.add ((x10_1).toNat * 3)) = some (.int .i64 ((rd_T35 l0 x10_1).f0)) ∧ w'.cell? ⟨(ad227.add ((x10_1).toNat * 3)).block, (ad227.add ((x10_1).toNat * 3)).off + 1, none⟩ = some (.string ((rd_T35 l0 x10_1).f1)) ∧ w'.cell? ⟨(ad227.add ((x10_1).toNat * 3)).block, (ad227.add ((x10_1).toNat * 3)).off + 2, none⟩ = some (.string ((rd_T35 l0 x10_1).f2))) (ds := []) #[false, false, false, false, false, false, false, false, false, false, false] (by kernel_rfl) rfl rfl ⟨((HB.out.cell (World.block_lt_of_cell? w _ hw232_0)).trans hw232_0), ((HB.out.cell (World.block_lt_of_cell? w _ hw232_1)).trans hw232_1), ((HB.out.cell (World.block_lt_of_cell? w _ hw232_2)).trans hw232_2), ((HB.out.cell (World.block_lt_of_cell? w _ hw233_0)).trans hw233_0), ((HB.out.cell (World.block_lt_of_cell? w _ hw233_1)).trans hw233_1), ((HB.out.cell (World.block_lt_of_cell? w _ hw233_2)).trans hw233_2)⟩ (fun hHeld => ?_); refine with_tabW graftageref15_Check.tab13 graftageref15_Check.bits13 (fun HT_ HW_ => ?_)
                                      generalize wr.drew = w26 at HB hx232_0 hx232_1 hx232_2 hx233_0 hx233_1 hx233_2 hHeld ⊢
                                      refine pure_ (i := 0) (N := some 38) (v := ?_) (a' := ?_) #[true, false, false, false, false, false, false, false, false, false, false] rfl rfl (any_of HT_.out (by kernel_rfl)) (fun _ _ _ h => h) (Or.inl ⟨by rfl, ?_⟩) ?_ ?_
                                      rotate_left
                                      · intro w'
                                        go_simp
                                        with_reducible rfl
                                      rotate_left
                                      · simp only [Act.put, List.setIfInBounds_toArray, List.set_cons_zero, List.set_cons_succ, i64_w, i32_w]
                                        rfl
                                      refine pure_ (i := 1) (N := some 39) (v := ?_) (a' := ?_) #[true, true, false, false, false, false, false, false, false, false, false] rfl rfl (any_of HT_.out (by kernel_rfl)) (fun _ _ _ h => h) (Or.inl ⟨by rfl, ?_⟩) ?_ ?_
                                      rotate_left
                                      · intro w'
                                        go_simp
                                        with_reducible rfl
                                      rotate_left
                                      · simp only [Act.put, List.setIfInBounds_toArray, List.set_cons_zero, List.set_cons_succ, i64_w, i32_w]
                                        rfl
                                      refine pure_ (i := 2) (N := some 40) (v := ?_) (a' := ?_) #[true, true, true, false, false, false, false, false, false, false, false] rfl rfl (any_of HT_.out (by kernel_rfl)) (fun _ _ _ h => h) (Or.inl ⟨by rfl, ?_⟩) ?_ ?_
                                      rotate_left
                                      · intro w'
                                        go_simp
                                        with_reducible rfl
                                      rotate_left
                                      · simp only [Act.put, List.setIfInBounds_toArray, List.set_cons_zero, List.set_cons_succ, i64_w, i32_w]
                                        rfl
                                      refine pure_ (i := 3) (N := some 41) (v := ?_) (a' := ?_) #[true, true, true, true, false, false, false, false, false, false, false] rfl rfl (any_of HT_.out (by kernel_rfl)) (fun _ _ _ h => h) (Or.inl ⟨by rfl, ?_⟩) ?_ ?_
                                      rotate_left
                                      · intro w'
                                        go_simp
                                        with_reducible rfl
                                      rotate_left
                                      · simp only [Act.put, List.setIfInBounds_toArray, List.set_cons_zero, List.set_cons_succ, i64_w, i32_w]
                                        rfl
                                      refine pure_ (i := 5) (N := some 43) (v := ?_) (a' := ?_) #[true, true, true, true, false, true, false, false, false, false, false] rfl rfl (any_of HT_.out (by kernel_rfl)) (fun _ _ _ h => h) (Or.inl ⟨by rfl, ?_⟩) ?_ ?_
                                      rotate_left
                                      · intro w'
                                        go_simp
                                        with_reducible rfl
                                      rotate_left
                                      · simp only [Act.put, List.setIfInBounds_toArray, List.set_cons_zero, List.set_cons_succ, i64_w, i32_w]
                                        rfl
                                      refine pure_ (i := 6) (N := some 44) (v := ?_) (a' := ?_) #[true, true, true, true, false, true, true, false, false, false, false] rfl rfl (any_of HT_.out (by kernel_rfl)) (fun _ _ _ h => h) (Or.inl ⟨by rfl, ?_⟩) ?_ ?_
                                      rotate_left
                                      · intro w'
                                        go_simp
                                        with_reducible rfl
                                      rotate_left
                                      · simp only [Act.put, List.setIfInBounds_toArray, List.set_cons_zero, List.set_cons_succ, i64_w, i32_w]
                                        rfl
                                      refine pure_ (i := 7) (N := some 45) (v := ?_) (a' := ?_) #[true, true, true, true, false, true, true, true, false, false, false] rfl rfl (any_of HT_.out (by kernel_rfl)) (fun _ _ _ h => h) (Or.inl ⟨by rfl, ?_⟩) ?_ ?_
                                      rotate_left
                                      · intro w'
                                        go_simp
                                        with_reducible rfl
                                      rotate_left
                                      · simp only [Act.put, List.setIfInBounds_toArray, List.set_cons_zero, List.set_cons_succ, i64_w, i32_w]
                                        rfl
                                      refine pure_ (i := 8) (N := some 46) (v := ?_) (a' := ?_) #[true, true, true, true, false, true, true, true, true, false, false] rfl rfl (any_of HT_.out (by kernel_rfl)) (fun _ _ _ h => h) (Or.inl ⟨by rfl, ?_⟩) ?_ ?_
                                      rotate_left
                                      · intro w'
                                        go_simp
                                        with_reducible rfl
                                      rotate_left
                                      · simp only [Act.put, List.setIfInBounds_toArray, List.set_cons_zero, List.set_cons_succ, i64_w, i32_w]
                                        rfl
                                      refine take_ (i := 4) (N := some 42) (v := ?_) (a' := ?_) #[true, true, true, true, true, true, true, true, true, false, false] rfl rfl (take_ofW HT_.out HW_.out (by kernel_rfl)) (fun _ _ _ h => h) (Or.inl ⟨by rfl, ?_⟩) hHeld ?_ ?_
                                      rotate_left
                                      · rintro w' ⟨s0, s1, s2, s3, s4, s5⟩
                                        go_simp
                                        with_reducible rfl
                                      rotate_left
                                      · simp only [Act.put, List.setIfInBounds_toArray, List.set_cons_zero, List.set_cons_succ, i64_w, i32_w]
                                        rfl
                                      refine take_ (i := 9) (N := some 47) (v := ?_) (a' := ?_) #[true, true, true, true, true, true, true, true, true, true, false] rfl rfl (take_ofW HT_.out HW_.out (by kernel_rfl)) (fun _ _ _ h => h) (Or.inl ⟨by rfl, ?_⟩) hHeld ?_ ?_
                                      rotate_left
                                      · rintro w' ⟨s0, s1, s2, s3, s4, s5⟩
                                        go_simp
                                        with_reducible rfl
                                      rotate_left
                                      · simp only [Act.put, List.setIfInBounds_toArray, List.set_cons_zero, List.set_cons_succ, i64_w, i32_w]
                                        rfl
                                      refine pure_ (i := 10) (N := some 48) (v := ?_) (a' := ?_) #[true, true, true, true, true, true, true, true, true, true, true] rfl rfl (any_of HT_.out (by kernel_rfl)) (fun _ _ _ h => h) (Or.inl ⟨by rfl, ?_⟩) ?_ ?_
                                      rotate_left
                                      · intro w'
                                        go_simp
                                        with_reducible rfl
                                      rotate_left
                                      · simp only [Act.put, List.setIfInBounds_toArray, List.set_cons_zero, List.set_cons_succ, i64_w, i32_w]
                                        rfl
                                      refine done_ (done_of HT_.out (by kernel_rfl)) ?_
                                      try go_wp2
                                      go_roundg k3
                                      case measure => have := HK1.out; have := HJ7.out; have := HK3.out; omega
                                      case rel => exact ⟨(wrap64 (x35_3 + 1)), (by first | rfl | (simp; done) | (simp [*]; done) | (simp [ne_nil_bool]; done) | (simp [*, ne_nil_bool]; done)), H', ⟨by have := HK1.out; have := HJ7.out; have := HK3.out; omega⟩, ⟨by repeat (first | (with_reducible first | exact HB.out | apply below_alloc | apply pw_below_drewN | apply below_drew1) | exact HB.out)⟩⟩
                                  · rw [if_neg c23] at H
                                    exact absurd H (by simp)
                                · rw [if_neg c22] at H
                                  exact absurd H (by simp)
                              · rw [if_neg c21] at H
                                exact absurd H (by simp)
                            · rw [if_neg c20] at H
                              exact absurd H (by simp)
                          · rw [if_neg c19] at H
                            have c19b0 : decide (x35_3 < x10_1) = false := decide_eq_false c19
                            clear c19
                            have H' := Aside0.mk H
                            clear H
                            go_wp2
                            go_roundg k3
                            case measure => have := HK1.out; have := HJ7.out; have := HK3.out; omega
                            case rel => exact ⟨(wrap64 (x10_1 + 1)), (by first | rfl | (simp; done) | (simp [*]; done) | (simp [ne_nil_bool]; done) | (simp [*, ne_nil_bool]; done)), H', ⟨by have := HK1.out; have := HJ7.out; have := HK3.out; omega⟩, ⟨by repeat (first | (with_reducible first | exact HB.out | apply below_alloc | apply pw_below_drewN | apply below_drew1) | exact HB.out)⟩⟩
              · replace c7 := Bool.eq_false_iff.mpr c7
                subst c7
                have H1 : (some 1) = some r := by rw [if_neg (show ¬ (false = true) by decide)] at H; exact H
                clear H
                have H := H1
                clear H1
                obtain rfl := Option.some.inj H
                have p227 : 0 ≤ (x10_1 : Int) := of_decide_eq_true (by first | (with_reducible assumption) | assumption)
                have q227 : x10_1 < (l0.length : Int) := of_decide_eq_true (by first | (with_reducible assumption) | assumption)
                obtain ⟨ad227, e227, hx227_0, hx227_1, hx227_2⟩ := at_T35 HR0.out x10_1 p227 q227
                cases e227
                replace hx227_0 := (HB.out.cell (World.block_lt_of_cell? w _ hx227_0)).trans hx227_0
                replace hx227_1 := (HB.out.cell (World.block_lt_of_cell? w _ hx227_1)).trans hx227_1
                replace hx227_2 := (HB.out.cell (World.block_lt_of_cell? w _ hx227_2)).trans hx227_2
                replace p227 := eq_true p227
                replace q227 := eq_true q227
                go_wp2_with (first | ((with_reducible refine gate_callee (f := 23) rfl ?_); refine goesL_ (some 17) rfl rfl Tryd.func23 (by kernel_rfl) rfl #[.agg #[.int .i64 ((rd_T35 l0 x10_1).f0), .string ((rd_T35 l0 x10_1).f1), .string ((rd_T35 l0 x10_1).f2)]] rfl (by (try simp only [List.map_toArray, List.map_cons, List.map_nil]); first | done | rfl | (simp only [List.length_drop, List.length_take]; rfl)) ?_; (with_reducible refine (graftageref15_May.calls k1 ((rd_T35 l0 x10_1).f0) ((rd_T35 l0 x10_1).f1) ((rd_T35 l0 x10_1).f2) false _ A6.out).mono ?_); rintro e w27 ⟨rfl, hb⟩; refine ⟨_, rfl, ?_⟩; have n0_ := Aside0.mk (below_step (by repeat (first | (with_reducible first | exact HB.out | apply below_alloc | apply pw_below_drewN | apply below_drew1) | exact HB.out)) hb); clear HB; have HB := n0_; clear n0_; (try clear hb); (try clear hb2); (try clear hk); (try clear hi)))
                go_ret
                exact ⟨by first | rfl | (simp [errW_none, errW_some] <;> rfl) | (simp [*, errW_none, errW_some] <;> rfl) | (simp [ne_nil_bool]; done) | (simp [*, ne_nil_bool]; done), by repeat (first | (with_reducible first | exact HB.out | apply below_alloc | apply pw_below_drewN | apply below_drew1) | exact HB.out)⟩
            · rw [if_neg c5] at H
              exact absurd H (by simp)
          · rw [if_neg c4] at H
            exact absurd H (by simp)
        · rw [if_neg c3] at H
          have c3b0 : decide (x10_1 < (l0.length : Int)) = false := decide_eq_false c3
          clear c3
          obtain rfl := Option.some.inj H
          go_wp2
          go_ret
          exact ⟨by first | rfl | (simp [errW_none, errW_some] <;> rfl) | (simp [*, errW_none, errW_some] <;> rfl) | (simp [ne_nil_bool]; done) | (simp [*, ne_nil_bool]; done), by repeat (first | (with_reducible first | exact HB.out | apply below_alloc | apply pw_below_drewN | apply below_drew1) | exact HB.out)⟩

end Go.Proofs.YtccbpbdfihnlgaaDoor.Q

/- Contracts of Go functions as calls of plain Lean functions, written by a program of this session over the kit's print. -/
namespace Go.Proofs.YtccbpbdfihnlgaaDoor.Q
open Go.RowKit Go.Proofs.YtccbpbdfihnlgaaDoorW.PrintWords Go.Proofs.YtccbpbdfihnlgaaDoorW.PrintLast Go.Proofs.YtccbpbdfihnlgaaDoorW.PrintMore
attribute [local go_sem] max2_int min2_int max_two min_two max_three min_three max_four min_four   -- for this text's walks alone

/-! ### graftagelaw15_few: function 14 -/
def graftagelaw15_few.l0 : Nat → List (S35) → Int → Int → Option (Bool)
  | 0, _, _, _ => none
  | k + 1, x0, x5, x6 => if x6 < x5 then (if 0 ≤ x6 then (if x6 < (x0.length : Int) then (if (wrap64 ((((rd_T35 x0 x6).f1).size : Int) + (((rd_T35 x0 x6).f2).size : Int))) > 500 then (some false) else (graftagelaw15_few.l0 k x0 x5 (wrap64 (x6 + 1)))) else (none)) else (none)) else (some (decide ((x0.length : Int) ≤ 60)))
def graftagelaw15_few.f (k : Nat) (l0 : List (S35)) : Option (Bool) := graftagelaw15_few.l0 k l0 (l0.length : Int) 0
theorem graftagelaw15_few.mono_l : ∀ k, (∀ y0 y1 y2, LeO (graftagelaw15_few.l0 k y0 y1 y2) (graftagelaw15_few.l0 (k + 1) y0 y1 y2))
  | 0 => fun _ _ _ r h => by simp [graftagelaw15_few.l0] at h
  | k + 1 => by
    have ih0 := graftagelaw15_few.mono_l k
    · intro y0 y1 y2
      unfold graftagelaw15_few.l0
      repeat' first
      | (with_reducible exact ih0 _ _ _)
      | (with_reducible exact LeO.refl _)
      | (with_reducible exact LeO.none _)
      | (with_reducible refine LeO.ite ?_ ?_)
      | (with_reducible refine LeO.bind ?_ (fun _ => ?_))
      | exact ih0 _ _ _
      | exact LeO.none _
      | refine LeO.ite ?_ ?_
      | refine LeO.bind ?_ (fun _ => ?_)
theorem graftagelaw15_few.mono : ∀ a0 k, LeO (graftagelaw15_few.f k a0) (graftagelaw15_few.f (k + 1) a0) := by
  intro a0 k
  have ih0 := graftagelaw15_few.mono_l k
  unfold graftagelaw15_few.f
  repeat' first
      | (with_reducible exact ih0 _ _ _)
      | (with_reducible exact LeO.refl _)
      | (with_reducible exact LeO.none _)
      | (with_reducible refine LeO.ite ?_ ?_)
      | (with_reducible refine LeO.bind ?_ (fun _ => ?_))
      | exact ih0 _ _ _
      | exact LeO.none _
      | refine LeO.ite ?_ ?_
      | refine LeO.bind ?_ (fun _ => ?_)
set_option maxHeartbeats 8000000 in
set_option maxRecDepth 100000 in
theorem graftagelaw15_few.calls (k : Nat) (A0 : Option Addr) (c0 : Nat) (l0 : List (S35)) (r : Bool) (w : World) (hr0 : Kd.C k35 w A0 l0.length l0) (hc0 : l0.length ≤ c0) (h : graftagelaw15_few.f k l0 = some r) :
    Calls Tryd.prog 14 #[.slice A0 l0.length c0] w fun e w' => e = .returned (.bool r) ∧ Drawn0 w w' := by
  have HR0 := Aside0.mk hr0
  have HC0 := Aside0.mk hc0
  clear hr0 hc0
  have H : (graftagelaw15_few.l0 k l0 (l0.length : Int) 0) = some r := h
  clear h
  have H' := Aside0.mk H
  clear H
  go_enter Tryd.func14, Tryd.ntmps14
  go_wp2
  repeat (go_quiet (fail); try go_wp2)
  go_loopg [6] k (fun kq v6 w' => ∃ (x6_1 : Int), v6 = .int .i64 x6_1 ∧ Aside0 (graftagelaw15_few.l0 kq l0 (l0.length : Int) x6_1 = some r) ∧ Aside0 (kq ≤ k) ∧ Drawn0 w w')
  case atStart => exact ⟨(0), (by first | rfl | (simp; done) | (simp [*]; done) | (simp [ne_nil_bool]; done) | (simp [*, ne_nil_bool]; done)), H', ⟨Nat.le_refl _⟩, by repeat (first | exact Drawn0.refl _ | apply Drawn0.step)⟩
  case round =>
    clear H'
    try clear c1
    obtain ⟨x6_1, rfl, HA, HK1, ⟨m1, rfl⟩⟩ := hrel
    cases gk with
    | zero => exact absurd HA.out (by simp [graftagelaw15_few.l0])
    | succ k1 =>
      have H := HA.out
      clear HA
      simp only [graftagelaw15_few.l0] at H
      by_cases c2 : x6_1 < (l0.length : Int)
      · rw [if_pos c2] at H
        have c2b0 : decide (x6_1 < (l0.length : Int)) = true := decide_eq_true c2
        clear c2
        by_cases c3 : 0 ≤ x6_1
        · rw [if_pos c3] at H
          have c3b0 : decide (0 ≤ x6_1) = true := decide_eq_true c3
          clear c3
          by_cases c4 : x6_1 < (l0.length : Int)
          · rw [if_pos c4] at H
            have c4b0 : decide (x6_1 < (l0.length : Int)) = true := decide_eq_true c4
            clear c4
            by_cases c5 : (wrap64 ((((rd_T35 l0 x6_1).f1).size : Int) + (((rd_T35 l0 x6_1).f2).size : Int))) > 500
            · rw [if_pos c5] at H
              have c5b0 : decide (500 < (wrap64 ((((rd_T35 l0 x6_1).f1).size : Int) + (((rd_T35 l0 x6_1).f2).size : Int)))) = true := decide_eq_true c5
              clear c5
              obtain rfl := Option.some.inj H
              have p101 : 0 ≤ (x6_1 : Int) := of_decide_eq_true (by first | (with_reducible assumption) | assumption)
              have q101 : x6_1 < (l0.length : Int) := of_decide_eq_true (by first | (with_reducible assumption) | assumption)
              obtain ⟨ad101, e101, hx101_0, hx101_1, hx101_2⟩ := at_T35 HR0.out x6_1 p101 q101
              cases e101
              replace p101 := eq_true p101
              replace q101 := eq_true q101
              have p102 : 0 ≤ (x6_1 : Int) := of_decide_eq_true (by first | (with_reducible assumption) | assumption)
              have q102 : x6_1 < (l0.length : Int) := of_decide_eq_true (by first | (with_reducible assumption) | assumption)
              obtain ⟨ad102, e102, hx102_0, hx102_1, hx102_2⟩ := at_T35 HR0.out x6_1 p102 q102
              obtain rfl : ad101 = ad102 := (by injection e102)
              replace p102 := eq_true p102
              replace q102 := eq_true q102
              go_wp2
              repeat (go_quiet (fail); try go_wp2)
              go_ret
              exact ⟨by first | rfl | (simp; done) | (simp [*]; done) | (simp [ne_nil_bool]; done) | (simp [*, ne_nil_bool]; done), by repeat (first | exact Drawn0.refl _ | apply Drawn0.step)⟩
            · rw [if_neg c5] at H
              have c5b0 : decide (500 < (wrap64 ((((rd_T35 l0 x6_1).f1).size : Int) + (((rd_T35 l0 x6_1).f2).size : Int)))) = false := decide_eq_false c5
              clear c5
              have H' := Aside0.mk H
              clear H
              have p101 : 0 ≤ (x6_1 : Int) := of_decide_eq_true (by first | (with_reducible assumption) | assumption)
              have q101 : x6_1 < (l0.length : Int) := of_decide_eq_true (by first | (with_reducible assumption) | assumption)
              obtain ⟨ad101, e101, hx101_0, hx101_1, hx101_2⟩ := at_T35 HR0.out x6_1 p101 q101
              cases e101
              replace p101 := eq_true p101
              replace q101 := eq_true q101
              have p102 : 0 ≤ (x6_1 : Int) := of_decide_eq_true (by first | (with_reducible assumption) | assumption)
              have q102 : x6_1 < (l0.length : Int) := of_decide_eq_true (by first | (with_reducible assumption) | assumption)
              obtain ⟨ad102, e102, hx102_0, hx102_1, hx102_2⟩ := at_T35 HR0.out x6_1 p102 q102
              obtain rfl : ad101 = ad102 := (by injection e102)
              replace p102 := eq_true p102
              replace q102 := eq_true q102
              go_wp2
              repeat (go_quiet (fail); try go_wp2)
              go_roundg k1
              case measure => have := HK1.out; omega
              case rel => exact ⟨(wrap64 (x6_1 + 1)), (by first | rfl | (simp; done) | (simp [*]; done) | (simp [ne_nil_bool]; done) | (simp [*, ne_nil_bool]; done)), H', ⟨by have := HK1.out; omega⟩, by repeat (first | exact Drawn0.refl _ | apply Drawn0.step)⟩
          · rw [if_neg c4] at H
            exact absurd H (by simp)
        · rw [if_neg c3] at H
          exact absurd H (by simp)
      · rw [if_neg c2] at H
        have c2b0 : decide (x6_1 < (l0.length : Int)) = false := decide_eq_false c2
        clear c2
        obtain rfl := Option.some.inj H
        go_wp2
        repeat (go_quiet (fail); try go_wp2)
        go_ret
        exact ⟨by first | rfl | (simp; done) | (simp [*]; done) | (simp [ne_nil_bool]; done) | (simp [*, ne_nil_bool]; done), by repeat (first | exact Drawn0.refl _ | apply Drawn0.step)⟩

end Go.Proofs.YtccbpbdfihnlgaaDoor.Q

/- Trees: entries, their order, the test of a list; the program's and the reference's. (35: the type of an entry in this seat's translation.) -/
namespace Go.Proofs.YtccbpbdfihnlgaaDoor.Q
open Go.RowKit Go.Proofs.YtccbpbdfihnlgaaDoorW.PrintWords Go.Proofs.YtccbpbdfihnlgaaDoorW.PrintLast Go.Proofs.YtccbpbdfihnlgaaDoorW.PrintMore

theorem ev_ite {α : Type} {c : Prop} [Decidable c] {f g : Nat → Option α} {r : α} (h1 : c → Ev f r) (h2 : ¬ c → Ev g r) : Ev (fun k => if c then f k else g k) r := by
  by_cases h : c
  · simp only [if_pos h]; exact h1 h
  · simp only [if_neg h]; exact h2 h
theorem rd35_get (l : List S35) (i : Nat) (h : i < l.length) : rd_T35 l i = l[i] := by
  simp [rd_T35, List.getD, List.getElem?_eq_getElem h]
/-! ### a byte's place -/
def ixF (l : List UInt8) (c : UInt8) (i : Nat) : Int := if Lib.indexByte (l.drop i) c = -1 then -1 else Lib.indexByte (l.drop i) c + i
theorem ix_step (x c : UInt8) (q : Int) (i : Nat) (hge : -1 ≤ q) (T : Option Int) (hT : T = some (if q = -1 then -1 else q + ((i + 1 : Nat) : Int))) :
    (if (x.toNat : Int) = (c.toNat : Int) then some (i : Int) else T) = some (if (if (x == c) = true then 0 else if (q == -1) = true then -1 else q + 1) = -1 then -1 else (if (x == c) = true then 0 else if (q == -1) = true then -1 else q + 1) + (i : Int)) := by
  by_cases h : x = c
  · rw [if_pos (by rw [h])]
    simp [h]
  · rw [if_neg (fun e => h (UInt8.toNat_inj.1 (by exact_mod_cast e))), hT]
    have hb : (x == c) = false := by simpa using h
    simp only [hb, Bool.false_eq_true, if_false, beq_iff_eq]
    by_cases h2 : q = -1
    · simp [h2]
    · simp only [h2, if_false]
      rw [if_neg (by omega)]
      congr 1; omega
theorem Find_l0 (s : ByteArray) (hs : s.size ≤ 140737488351232) (c : UInt8) : ∀ (d k i : Nat), i + d = s.size → d < k → graftageref14_Find.l0 k s (c.toNat : Int) i = some (ixF s.data.toList c i) := by
  intro d
  induction d with
  | zero =>
    intro k i hi hk
    obtain ⟨k, rfl⟩ : ∃ m, k = m + 1 := ⟨k - 1, by omega⟩
    simp only [graftageref14_Find.l0]
    rw [if_neg (by omega)]
    have : s.data.toList.drop i = [] := List.drop_of_length_le (by rw [← Lib.size_eq]; omega)
    unfold ixF; rw [this]; rfl
  | succ d ih =>
    intro k i hi hk
    obtain ⟨k, rfl⟩ : ∃ m, k = m + 1 := ⟨k - 1, by omega⟩
    have := ih k (i + 1) (by omega) (by omega)
    have hl : i < s.data.toList.length := by rw [← Lib.size_eq]; omega
    have hd : s.data.toList.drop i = s.data.toList[i] :: s.data.toList.drop (i + 1) := List.drop_eq_getElem_cons hl
    have hge := Lib.indexByte_ge (s.data.toList.drop (i + 1)) c
    simp only [graftageref14_Find.l0]
    rw [if_pos (by omega), if_pos (by omega), bt_get s i (by omega), wrap_id (by omega) (by omega)]
    unfold ixF at this ⊢
    rw [hd]
    simp only [Lib.indexByte]
    exact ix_step _ _ _ i hge _ (by exact_mod_cast this)
theorem Find_ev (s : ByteArray) (hs : s.size ≤ 140737488351232) (c : UInt8) (i : Nat) (hi : i ≤ s.size) : Ev (fun k => graftageref14_Find.f k s (c.toNat : Int) i) (ixF s.data.toList c i) := by
  refine Ev.of (fun k => graftageref14_Find.mono s _ _ k) (k := s.size + 1) ?_
  exact Find_l0 s hs c (s.size - i) _ i (by omega) (by omega)
/-! ### what may be -/
def no47 (s : ByteArray) : Bool := decide (Lib.indexByte s.data.toList 47 < 0)
def mayB (e : S35) : Bool := decide (1 ≤ e.f0) && (decide (e.f0 ≤ 4) && (isPath e.f1 && (no47 e.f1 && idOk e.f2)))
theorem may_ev (e : S35) : Ev (fun k => tree_may.f k e.f0 e.f1 e.f2) (mayB e) := by
  unfold mayB
  refine ev_ite (fun h1 => ev_ite (fun h2 => ?_) (fun h2 => ?_)) (fun h1 => ?_)
  · rw [decide_eq_true (show 1 ≤ e.f0 from h1), decide_eq_true h2, Bool.true_and, Bool.true_and]
    refine Ev.bind (path_Is_ev e.f1) (ev_ite (fun h3 => ?_) (fun h3 => ?_))
    · rw [h3, Bool.true_and]
      have hc : strings_Contains.f e.f1 ⟨#[47]⟩ = some (!no47 e.f1) := by
        show some (decide (0 ≤ Lib.indexByte e.f1.data.toList 47)) = _
        unfold no47
        congr 1
        rw [← decide_not]
        apply decide_eq_decide.2
        omega
      rw [hc]
      simp only [Option.bind_some]
      by_cases h4 : no47 e.f1 = true
      · simp only [h4, Bool.not_true, Bool.false_eq_true, if_false, Bool.true_and]
        exact Ev.bind (ident_Is_ev e.f2) (Ev.now _)
      · rw [Bool.not_eq_true] at h4
        simp only [h4, Bool.not_false, if_true, Bool.false_and]
        exact Ev.now _
    · rw [Bool.not_eq_true] at h3
      rw [h3, Bool.false_and]; exact Ev.now _
  · rw [decide_eq_false (show ¬ e.f0 ≤ 4 from h2), Bool.false_and, Bool.and_false]; exact Ev.now _
  · rw [decide_eq_false (show ¬ 1 ≤ e.f0 from h1), Bool.false_and]; exact Ev.now _
theorem May_ev (e : S35) (hs : e.f1.size ≤ 4294967280) : Ev (fun k => graftageref15_May.f k e.f0 e.f1 e.f2) (mayB e) := by
  unfold mayB
  refine ev_ite (fun h1 => ev_ite (fun h2 => ?_) (fun h2 => ?_)) (fun h1 => ?_)
  · rw [decide_eq_true (show 1 ≤ e.f0 from h1), decide_eq_true h2, Bool.true_and, Bool.true_and]
    refine Ev.bind (ref_Is_ev e.f1 hs) (ev_ite (fun h3 => ?_) (fun h3 => ?_))
    · rw [h3, Bool.true_and]
      refine Ev.bind (Find_ev e.f1 (by omega) 47 0 (by omega)) ?_
      have hix : (ixF e.f1.data.toList 47 0 < 0) ↔ (no47 e.f1 = true) := by
        unfold ixF no47
        rw [List.drop_zero, decide_eq_true_eq]
        have := Lib.indexByte_ge e.f1.data.toList 47
        split
        · rename_i h; simp [h]
        · simp
      by_cases h4 : no47 e.f1 = true
      · simp only [if_pos (hix.2 h4), h4, Bool.true_and]
        exact Ev.bind (ref_idIs_ev e.f2) (Ev.now _)
      · simp only [if_neg (fun h => h4 (hix.1 h))]
        rw [Bool.not_eq_true] at h4
        rw [h4, Bool.false_and]
        exact Ev.now _
    · rw [Bool.not_eq_true] at h3
      rw [h3, Bool.false_and]; exact Ev.now _
  · rw [decide_eq_false (show ¬ e.f0 ≤ 4 from h2), Bool.false_and, Bool.and_false]; exact Ev.now _
  · rw [decide_eq_false (show ¬ 1 ≤ e.f0 from h1), Bool.false_and]; exact Ev.now _
/-! ### the order -/
def keyB (m : Int) (s : ByteArray) : ByteArray := if m = 4 then s ++ ⟨#[47]⟩ else s
def lessB (a b : S35) : Bool := Op.bytesLess (keyB a.f0 a.f1).toList (keyB b.f0 b.f1).toList
theorem key_eq (m : Int) (s i : ByteArray) (hs : s.size ≤ 140737488351232) : tree_key.f m s i = some (keyB m s) := by
  unfold tree_key.f keyB
  by_cases h : m = 4
  · rw [if_pos h, if_pos h, if_pos (by omega)]
  · rw [if_neg h, if_neg h]
theorem Less_eq (a b : S35) (ha : a.f1.size ≤ 140737488351232) (hb : b.f1.size ≤ 140737488351232) : tree_Less.f a.f0 a.f1 a.f2 b.f0 b.f1 b.f2 = some (lessB a b) := by
  unfold tree_Less.f lessB
  rw [key_eq _ _ _ ha]
  simp only [Option.bind_some]
  rw [key_eq _ _ _ hb]
  rfl
theorem ref_Less_eq (a b : S35) (ha : a.f1.size ≤ 140737488351232) (hb : b.f1.size ≤ 140737488351232) : graftageref15_Less.f a.f0 a.f1 a.f2 b.f0 b.f1 b.f2 = some (lessB a b) := Less_eq a b ha hb
/-! ### the test of a list -/
def z35' : S35 := ⟨0, ⟨#[]⟩, ⟨#[]⟩⟩
def at35 (l : List S35) (i : Nat) : S35 := rd_T35 l i
/-- How often a name stands among the first n. -/
def cnt (l : List S35) (x : List UInt8) : Nat → Int
  | 0 => 0
  | n + 1 => cnt l x n + (if (at35 l n).f1.data.toList = x then 1 else 0)
theorem cnt_ge (l : List S35) (x : List UInt8) : ∀ n, 0 ≤ cnt l x n ∧ cnt l x n ≤ n
  | 0 => by simp [cnt]
  | n + 1 => by
    have := cnt_ge l x n
    unfold cnt
    split <;> omega
def dupF (l : List S35) (x : List UInt8) : Nat → Bool
  | 0 => false
  | n + 1 => dupF l x n || decide ((at35 l n).f1.data.toList = x)
theorem cnt_dup (l : List S35) (x : List UInt8) : ∀ n, decide (0 < cnt l x n) = dupF l x n
  | 0 => by simp [cnt, dupF]
  | n + 1 => by
    have ih := cnt_dup l x n
    have := cnt_ge l x n
    rw [cnt, dupF, ← ih]
    by_cases h : (at35 l n).f1.data.toList = x
    · rw [if_pos h, decide_eq_true h, Bool.or_true, decide_eq_true (by omega)]
    · rw [if_neg h, decide_eq_false h, Bool.or_false, Int.add_zero]
def cF (l : List S35) : Nat → Nat → Int
  | 0, _ => 0
  | d + 1, i => if mayB (at35 l i) = false then 1 else if (decide (0 < i) && !lessB (at35 l (i - 1)) (at35 l i)) = true then 150 else if dupF l (at35 l i).f1.data.toList i = true then 6 else cF l d (i + 1)
def checkB (l : List S35) : Int := if l.length > 1024 then 4 else cF l l.length 0
structure MetI (l : List S35) (N : Nat) (m : MSI) : Prop where
  hn : m.n = N
  hf : ∀ x, (m.f x).getD 0 = cnt l x N
theorem MetI.put {l : List S35} {n : Nat} {m : MSI} (h : MetI l n m) (hn : n ≤ 1024) : MetI l (n + 1) (MSI.put m (at35 l n).f1 (wrap64 (MSI.get m (at35 l n).f1 + 1))) := by
  refine ⟨by simp [MSI.put, h.hn], fun x => ?_⟩
  have hc := cnt_ge l x n
  have hg : MSI.get m (at35 l n).f1 = cnt l (at35 l n).f1.data.toList n := h.hf _
  have hc2 := cnt_ge l (at35 l n).f1.data.toList n
  rw [hg, wrap_id (by omega) (by omega)]
  simp only [MSI.put]
  by_cases e : x = (at35 l n).f1.data.toList
  · rw [if_pos e, cnt, if_pos e.symm, e]; rfl
  · rw [if_neg e, cnt, if_neg (fun h => e h.symm), Int.add_zero]; exact h.hf x
theorem at_size (l : List S35) (hs : ∀ x ∈ l, x.f1.size ≤ 4294967280) (hn : l.length ≤ 1024) (i : Nat) (h : i < l.length) : (at35 l i).f1.size ≤ 4294967280 := by
  unfold at35; rw [rd35_get l i h]; exact hs _ (List.getElem_mem h)
section
variable (l : List S35) (hs : ∀ x ∈ l, x.f1.size ≤ 4294967280) (hn : l.length ≤ 1024)
include hs hn
theorem Check_l0 : ∀ (d i : Nat) (m : MSI), i + d = l.length → MetI l i m → Ev (fun k => tree_Check.l0 k l l l.length i m) (cF l d i) := by
  intro d
  induction d with
  | zero =>
    intro i m hi hm
    exact Ev.step (f := fun _ => some 0) (fun k => by rw [tree_Check.l0, if_neg (by omega)]) (Ev.now _)
  | succ d ih =>
    intro i m hi hm
    have hsz := at_size l hs hn i (by omega)
    have e0 : rd_T35 l (i : Int) = at35 l i := rfl
    refine Ev.step (f := fun k => (tree_may.f k (at35 l i).f0 (at35 l i).f1 (at35 l i).f2).bind fun t104 => (if t104 = true then (if (i : Int) > 0 then (if 0 ≤ (wrap64 ((i : Int) - 1)) then (if (wrap64 ((i : Int) - 1)) < (l.length : Int) then ((tree_Less.f ((rd_T35 l (wrap64 ((i : Int) - 1))).f0) ((rd_T35 l (wrap64 ((i : Int) - 1))).f1) ((rd_T35 l (wrap64 ((i : Int) - 1))).f2) (at35 l i).f0 (at35 l i).f1 (at35 l i).f2).bind fun t106 => (tree_Check.j1 k l l l.length i (!t106) (MSI.put m (at35 l i).f1 (wrap64 (MSI.get m (at35 l i).f1 + 1))) (at35 l i).f0 (at35 l i).f1 (at35 l i).f2)) else none) else none) else (tree_Check.j1 k l l l.length i false (MSI.put m (at35 l i).f1 (wrap64 (MSI.get m (at35 l i).f1 + 1))) (at35 l i).f0 (at35 l i).f1 (at35 l i).f2)) else (some 1))) (fun k => ?_) ?_
    · rw [tree_Check.l0, if_pos (by omega), if_pos (by omega), if_pos (by omega), e0, if_pos (by omega), if_pos (by rw [hm.hn]; omega)]
    · refine Ev.bind (may_ev (at35 l i)) ?_
      rw [cF]
      by_cases hmay : mayB (at35 l i) = true
      · simp only [hmay, if_true, Bool.true_eq_false, if_false]
        have hput := hm.put (by omega)
        have hJ : ∀ b : Bool, Ev (fun k => tree_Check.j1 k l l l.length i b (MSI.put m (at35 l i).f1 (wrap64 (MSI.get m (at35 l i).f1 + 1))) (at35 l i).f0 (at35 l i).f1 (at35 l i).f2) (if b = true then 150 else if dupF l (at35 l i).f1.data.toList i = true then 6 else cF l d (i + 1)) := by
          intro b
          refine Ev.step (f := fun k => if b = true then some 150 else (if MSI.get (MSI.put m (at35 l i).f1 (wrap64 (MSI.get m (at35 l i).f1 + 1))) (at35 l i).f1 > 1 then some 6 else tree_Check.l0 k l l l.length ((i : Int) + 1) (MSI.put m (at35 l i).f1 (wrap64 (MSI.get m (at35 l i).f1 + 1))))) (fun k => ?_) ?_
          · rw [tree_Check.j1, if_pos (show (at35 l i).f1.size ≤ 9223372036854775807 by omega), wrap_id (x := (i : Int) + 1) (by omega) (by omega)]
          · have hg : MSI.get (MSI.put m (at35 l i).f1 (wrap64 (MSI.get m (at35 l i).f1 + 1))) (at35 l i).f1 = cnt l (at35 l i).f1.data.toList (i + 1) := hput.hf _
            rw [hg, cnt, if_pos rfl, ← cnt_dup]
            refine ev_ite (fun hb => ?_) (fun hb => ?_)
            · rw [if_pos hb]; exact Ev.now _
            · rw [if_neg hb]
              refine ev_ite (fun hc => ?_) (fun hc => ?_)
              · rw [if_pos (decide_eq_true (by omega))]; exact Ev.now _
              · rw [if_neg (by rw [decide_eq_true_eq]; omega)]
                exact_mod_cast ih (i + 1) _ (by omega) hput
        refine ev_ite (fun h0 => ?_) (fun h0 => ?_)
        · have e1 : wrap64 ((i : Int) - 1) = ((i - 1 : Nat) : Int) := by rw [wrap_id (by omega) (by omega)]; omega
          have hsz1 := at_size l hs hn (i - 1) (by omega)
          rw [e1]
          refine Ev.congr (f := fun k => tree_Check.j1 k l l l.length i (!lessB (at35 l (i - 1)) (at35 l i)) (MSI.put m (at35 l i).f1 (wrap64 (MSI.get m (at35 l i).f1 + 1))) (at35 l i).f0 (at35 l i).f1 (at35 l i).f2) (fun k => ?_) ?_
          · rw [if_pos (by omega), if_pos (by omega)]
            have := Less_eq (at35 l (i - 1)) (at35 l i) (by omega) (by omega)
            unfold at35 at this ⊢
            rw [this]; rfl
          · have := hJ (!lessB (at35 l (i - 1)) (at35 l i))
            rw [decide_eq_true (show 0 < i by omega), Bool.true_and]
            exact this
        · have := hJ false
          rw [decide_eq_false (show ¬ 0 < i by omega), Bool.false_and]
          exact this
      · rw [Bool.not_eq_true] at hmay
        simp only [hmay, Bool.false_eq_true, if_false, if_true]
        exact Ev.now _
end
theorem metI0 (l : List S35) : MetI l 0 MSI.nil := ⟨rfl, fun x => rfl⟩
theorem Check_ev (l : List S35) (hs : ∀ x ∈ l, x.f1.size ≤ 4294967280) : Ev (fun k => tree_Check.f k l) (checkB l) := by
  unfold checkB
  refine ev_ite (fun h => ?_) (fun h => ?_)
  · rw [if_pos (by omega)]; exact Ev.now _
  · rw [if_neg (by omega)]
    exact_mod_cast Check_l0 l hs (by omega) l.length 0 MSI.nil (by omega) (metI0 l)
theorem refDup_l1 (l : List S35) (hs : ∀ x ∈ l, x.f1.size ≤ 4294967280) (hn : l.length ≤ 1024) (i : Nat) (hi : i < l.length) (r : Int) (hr : Ev (fun k => graftageref15_Check.l0 k l l.length ((i : Int) + 1)) r) : ∀ (d j : Nat), j + d = i → dupF l (at35 l i).f1.data.toList j = false →
    Ev (fun k => graftageref15_Check.l1 k l i l.length i i j) (if dupF l (at35 l i).f1.data.toList i = true then 6 else r) := by
  intro d
  induction d with
  | zero =>
    intro j hj hd
    obtain rfl : j = i := by omega
    rw [hd]
    refine Ev.step (f := fun k => graftageref15_Check.l0 k l l.length ((j : Int) + 1)) (fun k => by rw [graftageref15_Check.l1, if_neg (by omega), wrap_id (by omega) (by omega)]) ?_
    simpa using hr
  | succ d ih =>
    intro j hj hd
    have e0 : rd_T35 l (i : Int) = at35 l i := rfl
    have e1 : rd_T35 l (j : Int) = at35 l j := rfl
    have mono : ∀ (n m : Nat), n ≤ m → dupF l (at35 l i).f1.data.toList n = true → dupF l (at35 l i).f1.data.toList m = true := by
      intro n m hnm h
      induction m with
      | zero =>
        obtain rfl : n = 0 := by omega
        exact h
      | succ m ih2 =>
        by_cases e : n = m + 1
        · rw [← e]; exact h
        · rw [dupF, ih2 (by omega), Bool.true_or]
    refine Ev.step (f := fun k => if (at35 l j).f1.toList = (at35 l i).f1.toList then some 6 else graftageref15_Check.l1 k l i l.length i i ((j : Int) + 1)) (fun k => by rw [graftageref15_Check.l1, if_pos (by omega), if_pos (by omega), if_pos (by omega), if_pos (by omega), if_pos (by omega), e0, e1, wrap_id (by omega) (by omega)]) ?_
    refine ev_ite (fun h => ?_) (fun h => ?_)
    · rw [if_pos (mono (j + 1) i (by omega) (by rw [dupF, decide_eq_true (by rw [Lib.toList_data, Lib.toList_data] at h; exact h), Bool.or_true]))]
      exact Ev.now _
    · exact_mod_cast ih (j + 1) (by omega) (by rw [dupF, hd, decide_eq_false (by rw [Lib.toList_data, Lib.toList_data] at h; exact h)]; rfl)
section
variable (l : List S35) (hs : ∀ x ∈ l, x.f1.size ≤ 4294967280) (hn : l.length ≤ 1024)
include hs hn
theorem refCheck_l0 : ∀ (d i : Nat), i + d = l.length → Ev (fun k => graftageref15_Check.l0 k l l.length i) (cF l d i) := by
  intro d
  induction d with
  | zero =>
    intro i hi
    exact Ev.step (f := fun _ => some 0) (fun k => by rw [graftageref15_Check.l0, if_neg (by omega)]) (Ev.now _)
  | succ d ih =>
    intro i hi
    have hsz := at_size l hs hn i (by omega)
    have e0 : rd_T35 l (i : Int) = at35 l i := rfl
    refine Ev.step (f := fun k => (graftageref15_May.f k (at35 l i).f0 (at35 l i).f1 (at35 l i).f2).bind fun t104 => (if t104 = true then (if (i : Int) > 0 then (if 0 ≤ (wrap64 ((i : Int) - 1)) then (if (wrap64 ((i : Int) - 1)) < (l.length : Int) then ((graftageref15_Less.f ((rd_T35 l (wrap64 ((i : Int) - 1))).f0) ((rd_T35 l (wrap64 ((i : Int) - 1))).f1) ((rd_T35 l (wrap64 ((i : Int) - 1))).f2) (at35 l i).f0 (at35 l i).f1 (at35 l i).f2).bind fun t106 => (graftageref15_Check.j1 k l i l.length i (!t106))) else none) else none) else (graftageref15_Check.j1 k l i l.length i false)) else (some 1))) (fun k => ?_) ?_
    · rw [graftageref15_Check.l0, if_pos (by omega), if_pos (by omega), if_pos (by omega), e0]
    · refine Ev.bind (May_ev (at35 l i) hsz) ?_
      rw [cF]
      by_cases hmay : mayB (at35 l i) = true
      · simp only [hmay, if_true, Bool.true_eq_false, if_false]
        have hJ : ∀ b : Bool, Ev (fun k => graftageref15_Check.j1 k l i l.length i b) (if b = true then 150 else if dupF l (at35 l i).f1.data.toList i = true then 6 else cF l d (i + 1)) := by
          intro b
          refine Ev.step (f := fun k => if b = true then some 150 else graftageref15_Check.l1 k l i l.length i i 0) (fun k => by rw [graftageref15_Check.j1]) ?_
          refine ev_ite (fun hb => ?_) (fun hb => ?_)
          · rw [if_pos hb]; exact Ev.now _
          · rw [if_neg hb]
            exact_mod_cast refDup_l1 l hs hn i (by omega) _ (by exact_mod_cast ih (i + 1) (by omega)) i 0 (by omega) rfl
        refine ev_ite (fun h0 => ?_) (fun h0 => ?_)
        · have e1 : wrap64 ((i : Int) - 1) = ((i - 1 : Nat) : Int) := by rw [wrap_id (by omega) (by omega)]; omega
          have hsz1 := at_size l hs hn (i - 1) (by omega)
          rw [e1]
          refine Ev.congr (f := fun k => graftageref15_Check.j1 k l i l.length i (!lessB (at35 l (i - 1)) (at35 l i))) (fun k => ?_) ?_
          · rw [if_pos (by omega), if_pos (by omega)]
            have := ref_Less_eq (at35 l (i - 1)) (at35 l i) (by omega) (by omega)
            unfold at35 at this ⊢
            rw [this]; rfl
          · have := hJ (!lessB (at35 l (i - 1)) (at35 l i))
            rw [decide_eq_true (show 0 < i by omega), Bool.true_and]
            exact this
        · have := hJ false
          rw [decide_eq_false (show ¬ 0 < i by omega), Bool.false_and]
          exact this
      · rw [Bool.not_eq_true] at hmay
        simp only [hmay, Bool.false_eq_true, if_false, if_true]
        exact Ev.now _
end
theorem refCheck_ev (l : List S35) (hs : l.length ≤ 1024 → ∀ x ∈ l, x.f1.size ≤ 4294967280) : Ev (fun k => graftageref15_Check.f k l) (checkB l) := by
  unfold checkB
  refine ev_ite (fun h => ?_) (fun h => ?_)
  · rw [if_pos (by omega)]; exact Ev.now _
  · rw [if_neg (by omega)]
    exact_mod_cast refCheck_l0 l (hs (by omega)) (by omega) l.length 0 (by omega)
theorem Check_ev' (l : List S35) (hs : l.length ≤ 1024 → ∀ x ∈ l, x.f1.size ≤ 4294967280) : Ev (fun k => tree_Check.f k l) (checkB l) := by
  by_cases h : l.length ≤ 1024
  · exact Check_ev l (hs h)
  · unfold checkB
    refine ev_ite (fun h => ?_) (fun h => ?_)
    · rw [if_pos (by omega)]; exact Ev.now _
    · omega
/-! ### few, Same -/
def fewF (l : List S35) : Nat → Nat → Bool
  | 0, _ => decide (l.length ≤ 60)
  | d + 1, i => if ((at35 l i).f1.size + (at35 l i).f2.size : Nat) > 500 then false else fewF l d (i + 1)
theorem few_ev (l : List S35) (hs : ∀ x ∈ l, x.f1.size ≤ 140737488351232 ∧ x.f2.size ≤ 140737488351232) (hn : l.length ≤ 140737488351232) : Ev (fun k => graftagelaw15_few.f k l) (fewF l l.length 0) := by
  have key : ∀ (d i : Nat), i + d = l.length → Ev (fun k => graftagelaw15_few.l0 k l l.length i) (fewF l d i) := by
    intro d
    induction d with
    | zero =>
      intro i hi
      refine Ev.step (f := fun _ => some (decide (l.length ≤ 60))) (fun k => ?_) (Ev.now _)
      rw [graftagelaw15_few.l0, if_neg (by omega)]
      congr 1
      apply decide_eq_decide.2
      omega
    | succ d ih =>
      intro i hi
      have h0 : (at35 l i).f1.size ≤ 140737488351232 ∧ (at35 l i).f2.size ≤ 140737488351232 := by unfold at35; rw [rd35_get l i (by omega)]; exact hs _ (List.getElem_mem _)
      have e0 : rd_T35 l (i : Int) = at35 l i := rfl
      refine Ev.step (f := fun k => if (((at35 l i).f1.size : Int) + ((at35 l i).f2.size : Int)) > 500 then some false else graftagelaw15_few.l0 k l l.length ((i : Int) + 1)) (fun k => by rw [graftagelaw15_few.l0, if_pos (by omega), if_pos (by omega), if_pos (by omega), e0, wrap_id (by omega) (by omega), wrap_id (by omega) (by omega)]) ?_
      rw [fewF]
      refine ev_ite (fun h => ?_) (fun h => ?_)
      · rw [if_pos (by omega)]; exact Ev.now _
      · rw [if_neg (by omega)]; exact_mod_cast ih (i + 1) (by omega)
  exact_mod_cast key l.length 0 (by omega)
theorem few_all (l : List S35) : ∀ (d i : Nat), i + d = l.length → fewF l d i = true → l.length ≤ 60 ∧ ∀ j, i ≤ j → j < l.length → (at35 l j).f1.size + (at35 l j).f2.size ≤ 500
  | 0, i, hi, h => ⟨by simpa [fewF] using h, fun j h1 h2 => by omega⟩
  | d + 1, i, hi, h => by
    rw [fewF] at h
    split at h
    · cases h
    · obtain ⟨h1, h2⟩ := few_all l d (i + 1) (by omega) h
      refine ⟨h1, fun j hj hl => ?_⟩
      by_cases e : j = i
      · rw [e]; omega
      · exact h2 j (by omega) hl
theorem few_size {l : List S35} (h : fewF l l.length 0 = true) : ∀ x ∈ l, x.f1.size + x.f2.size ≤ 500 := by
  intro x hx
  obtain ⟨j, hj, rfl⟩ := List.mem_iff_getElem.1 hx
  have := (few_all l l.length 0 (by omega) h).2 j (by omega) hj
  unfold at35 at this
  rwa [rd35_get l j hj] at this
theorem Same35_ev (l : List S35) (hn : l.length ≤ 140737488351232) : Ev (fun k => graftageref15_Same.f k l l) true := by
  have key : ∀ (d i : Nat), i + d = l.length → Ev (fun k => graftageref15_Same.l0 k l l l.length i) true := by
    intro d
    induction d with
    | zero =>
      intro i hi
      exact Ev.step (f := fun _ => some true) (fun k => by rw [graftageref15_Same.l0, if_neg (by omega)]) (Ev.now _)
    | succ d ih =>
      intro i hi
      refine Ev.step (f := fun k => graftageref15_Same.l0 k l l l.length ((i : Int) + 1)) (fun k => by rw [graftageref15_Same.l0, if_pos (by omega), if_pos (by omega), if_pos (by omega), if_pos (by omega), if_neg (by simp), wrap_id (by omega) (by omega)]) ?_
      exact_mod_cast ih (i + 1) (by omega)
  refine Ev.congr (f := fun k => graftageref15_Same.l0 k l l l.length 0) (fun k => by unfold graftageref15_Same.f; rw [if_pos rfl]) ?_
  exact_mod_cast key l.length 0 (by omega)
end Go.Proofs.YtccbpbdfihnlgaaDoor.Q

/- Trees: TreeOrder. -/
namespace Go.Proofs.YtccbpbdfihnlgaaDoor.Q
open Go.RowKit Go.Proofs.YtccbpbdfihnlgaaDoorW.PrintWords Go.Proofs.YtccbpbdfihnlgaaDoorW.PrintLast Go.Proofs.YtccbpbdfihnlgaaDoorW.PrintMore
theorem keyB_data (m : Int) (s : ByteArray) : (keyB m s).toList = if m = 4 then s.data.toList ++ [47] else s.data.toList := by
  unfold keyB
  by_cases h : m = 4
  · rw [if_pos h, if_pos h, Lib.toList_data, append_data]
  · rw [if_neg h, if_neg h, Lib.toList_data]
theorem indexByte_neg : ∀ (l : List UInt8) (c : UInt8), Lib.indexByte l c < 0 → c ∉ l
  | [], _, _ => by simp
  | b :: r, c, h => by
    have hge := Lib.indexByte_ge r c
    rw [Lib.indexByte] at h
    by_cases e : b = c
    · rw [if_pos (by simp [e])] at h; omega
    · rw [if_neg (by simp [e])] at h
      by_cases e2 : Lib.indexByte r c = -1
      · have := indexByte_neg r c (by omega)
        simp only [List.mem_cons, not_or]
        exact ⟨fun x => e x.symm, this⟩
      · rw [if_neg (by simpa using e2)] at h; omega
theorem indexByte_nonneg : ∀ (l : List UInt8) (c : UInt8), c ∉ l → Lib.indexByte l c = -1
  | [], _, _ => rfl
  | b :: r, c, h => by
    simp only [List.mem_cons, not_or] at h
    rw [Lib.indexByte, if_neg (by simpa using fun e => h.1 e.symm), indexByte_nonneg r c h.2]; rfl
theorem no47_mem {s : ByteArray} (h : no47 s = true) : (47 : UInt8) ∉ s.data.toList := by
  unfold no47 at h
  exact indexByte_neg _ _ (by simpa using h)
theorem lt_trichotomy : ∀ a b : List UInt8, a < b ∨ a = b ∨ b < a
  | [], [] => .inr (.inl rfl)
  | [], y :: q => .inl (List.nil_lt_cons y q)
  | x :: r, [] => .inr (.inr (List.nil_lt_cons x r))
  | x :: r, y :: q => by
    rcases Nat.lt_trichotomy x.toNat y.toNat with h | h | h
    · exact .inl (List.cons_lt_cons_iff.2 (.inl (UInt8.lt_iff_toNat_lt.2 h)))
    · obtain rfl := UInt8.toNat_inj.1 h
      rcases lt_trichotomy r q with h | h | h
      · exact .inl (List.cons_lt_cons_iff.2 (.inr ⟨rfl, h⟩))
      · exact .inr (.inl (by rw [h]))
      · exact .inr (.inr (List.cons_lt_cons_iff.2 (.inr ⟨rfl, h⟩)))
    · exact .inr (.inr (List.cons_lt_cons_iff.2 (.inl (UInt8.lt_iff_toNat_lt.2 h))))
theorem lessB_eq (a b : S35) : lessB a b = decide ((keyB a.f0 a.f1).toList < (keyB b.f0 b.f1).toList) := Go.Proofs.bytesLess_eq _ _
theorem key_ne {a b : S35} (ha : (47 : UInt8) ∉ a.f1.data.toList) (hb : (47 : UInt8) ∉ b.f1.data.toList) (h : a.f1.data.toList ≠ b.f1.data.toList) : (keyB a.f0 a.f1).toList ≠ (keyB b.f0 b.f1).toList := by
  rw [keyB_data, keyB_data]
  intro e
  split at e <;> split at e
  · exact h (List.append_cancel_right e)
  · exact hb (by rw [← e]; simp)
  · exact ha (by rw [e]; simp)
  · exact h e
theorem app_lt : ∀ l : List UInt8, l < l ++ [47]
  | [] => List.nil_lt_cons 47 []
  | a :: r => List.cons_lt_cons_iff.2 (.inr ⟨rfl, app_lt r⟩)
theorem TreeOrder_ev (a b : S35) (ha : a.f1.size ≤ 140737488351232) (hb : b.f1.size ≤ 140737488351232) : Ev (fun k => graftagelaw15_TreeOrder.f k a.f0 a.f1 a.f2 b.f0 b.f1 b.f2) true := by
  have hT : Ev (fun k => graftagelaw15_TreeOrder.j0 k true a.f0 a.f1 a.f2 b.f0 b.f1 b.f2) true :=
    Ev.step (f := fun k => (graftagelaw15_lives.f k).bind fun t => some t) (fun k => by rw [graftagelaw15_TreeOrder.j0, if_pos rfl]) liveOr15
  unfold graftagelaw15_TreeOrder.f
  refine ev_ite (fun h => hT) (fun h => ?_)
  rw [wrap_id (by omega) (by omega)] at h
  refine Ev.bind (May_ev a (by omega)) (ev_ite (fun h1 => ?_) (fun h1 => hT))
  refine Ev.bind (May_ev b (by omega)) ?_
  by_cases h2 : mayB b = true
  · rw [h2, Bool.not_true]
    refine Ev.step (f := fun k => (tree_Less.f a.f0 a.f1 a.f2 b.f0 b.f1 b.f2).bind fun t106 => ((tree_Less.f b.f0 b.f1 b.f2 a.f0 a.f1 a.f2).bind fun t107 => (if a.f1.toList = b.f1.toList then (if t106 = true then (if t107 = true then (some false) else (if (true == ((a.f0 == 4) != (b.f0 == 4))) = true then ((graftagelaw15_lives.f k).bind fun t108 => (some t108)) else (some false))) else (if (t107 == ((a.f0 == 4) != (b.f0 == 4))) = true then ((graftagelaw15_lives.f k).bind fun t109 => (some t109)) else (some false))) else (if (t106 != t107) = true then ((graftagelaw15_lives.f k).bind fun t110 => (some t110)) else (some false))))) (fun k => by rw [graftagelaw15_TreeOrder.j0, if_neg (by decide)]) ?_
    rw [Less_eq a b ha hb]
    simp only [Option.bind_some]
    rw [Less_eq b a hb ha]
    simp only [Option.bind_some]
    have m1 : (47 : UInt8) ∉ a.f1.data.toList := no47_mem (by unfold mayB at h1; simp only [Bool.and_eq_true] at h1; exact h1.2.2.2.1)
    have m2 : (47 : UInt8) ∉ b.f1.data.toList := no47_mem (by unfold mayB at h2; simp only [Bool.and_eq_true] at h2; exact h2.2.2.2.1)
    refine ev_ite (fun h3 => ?_) (fun h3 => ?_)
    · rw [Lib.toList_data, Lib.toList_data] at h3
      have e1 : lessB a b = (!decide (a.f0 = 4) && decide (b.f0 = 4)) := by
        rw [lessB_eq, keyB_data, keyB_data, h3]
        by_cases c1 : a.f0 = 4 <;> by_cases c2 : b.f0 = 4 <;> simp only [c1, c2, if_true, if_false]
        · simp [List.lt_irrefl]
        · have : ¬ (b.f1.data.toList ++ [47] < b.f1.data.toList) := fun h => List.lt_irrefl _ (List.lt_trans h (app_lt _))
          simp [this, c2]
        · simp [app_lt]
        · simp [List.lt_irrefl]
      have e2 : lessB b a = (!decide (b.f0 = 4) && decide (a.f0 = 4)) := by
        rw [lessB_eq, keyB_data, keyB_data, h3]
        by_cases c1 : a.f0 = 4 <;> by_cases c2 : b.f0 = 4 <;> simp only [c1, c2, if_true, if_false]
        · simp [List.lt_irrefl]
        · simp [app_lt]
        · have : ¬ (b.f1.data.toList ++ [47] < b.f1.data.toList) := fun h => List.lt_irrefl _ (List.lt_trans h (app_lt _))
          simp [this, c1]
        · simp [List.lt_irrefl]
      have b1 : (a.f0 == 4) = decide (a.f0 = 4) := rfl
      have b2 : (b.f0 == 4) = decide (b.f0 = 4) := rfl
      rw [e1, e2, b1, b2]
      by_cases c1 : a.f0 = 4 <;> by_cases c2 : b.f0 = 4 <;> simp only [c1, c2, decide_true, decide_false, Bool.not_true, Bool.not_false, Bool.and_true, Bool.and_false, Bool.false_eq_true, if_true, if_false, bne_self_eq_false, beq_self_eq_true, show (true != false) = true from rfl, show (false != true) = true from rfl] <;> exact liveOr15
    · rw [Lib.toList_data, Lib.toList_data] at h3
      have hk := key_ne m1 m2 h3
      rw [lessB_eq, lessB_eq]
      rcases lt_trichotomy (keyB a.f0 a.f1).toList (keyB b.f0 b.f1).toList with h4 | h4 | h4
      · have h5 : ¬ (keyB b.f0 b.f1).toList < (keyB a.f0 a.f1).toList := fun h => List.lt_irrefl _ (List.lt_trans h4 h)
        simp only [decide_eq_true h4, decide_eq_false h5, show (true != false) = true from rfl, if_true]
        exact liveOr15
      · exact absurd h4 hk
      · have h5 : ¬ (keyB a.f0 a.f1).toList < (keyB b.f0 b.f1).toList := fun h => List.lt_irrefl _ (List.lt_trans h4 h)
        simp only [decide_eq_true h4, decide_eq_false h5, show (false != true) = true from rfl, if_true]
        exact liveOr15
  · rw [Bool.not_eq_true] at h2
    rw [h2, Bool.not_false]
    exact hT
end Go.Proofs.YtccbpbdfihnlgaaDoor.Q

/- TreeOrder, over plain lists and numbers. -/
namespace Go.Proofs.YtccbpbdfihnlgaaDoor.Pure
open Go.Proofs.YtccbpbdfihnlgaaDoor.Q Go.Proofs.YtccbpbdfihnlgaaDoorW.PrintWords

theorem TreeOrder : ∀ (y0 : S35), ∀ (y1 : S35), ((Lit.int .i64 y0.f0).wf = true ∧ y0.f1.size ≤ 140737488351232 ∧ y0.f2.size ≤ 140737488351232) → ((Lit.int .i64 y1.f0).wf = true ∧ y1.f1.size ≤ 140737488351232 ∧ y1.f2.size ≤ 140737488351232) → ∃ k, graftagelaw15_TreeOrder.f k y0.f0 y0.f1 y0.f2 y1.f0 y1.f1 y1.f2 = some true :=
  fun y0 y1 h0 h1 => (TreeOrder_ev y0 y1 h0.2.1 h1.2.1).rounds

end Go.Proofs.YtccbpbdfihnlgaaDoor.Pure

/- What a law's argument reads as (numbers, bools, strings, structs, slices, nested) opens into the printed kinds, with the reach's bounds; for the rows of this seat. -/
namespace Go.Proofs.YtccbpbdfihnlgaaDoor.Ro
open Go.RowKit Go.Deep Go.Proofs.YtccbpbdfihnlgaaDoorW.PrintWords

/-- What a reading of type t by the form tells in the words of kind d; S: the bounds. -/
def Opens (P : Program) (t : TypeId) {α : Type} (d : Kd α) (S : α → Prop) : Prop :=
  ∀ {H : Type} (enc : TypeId × Value → H) (w : World) (fuel : Nat) (cs : List Value) (x : DataW H × List MemPlace),
    DataW.trod enc P w 0 (fun _ => true) true fuel t cs = some x → (∀ n ∈ DataW.weights P t x.1, n ≤ reachBytes) → ∃ y : α, d.K w y cs ∧ S y

section
variable {P : Program} {t e : TypeId}

theorem Opens.int {k : IntKind} (ht : P.underlying t = some (.int k)) : Opens P t (Kd.int k) (fun y => (Lit.int k y).wf = true) := by
  intro H enc w fuel cs x h _
  obtain ⟨n, rfl, rfl, hw⟩ := DataW.trod_int ht h
  exact ⟨n, rfl, hw⟩

theorem Opens.bool (ht : P.underlying t = some .bool) : Opens P t Kd.bool (fun _ => True) := by
  intro H enc w fuel cs x h _
  obtain ⟨b, rfl, rfl⟩ := DataW.trod_bool ht h
  exact ⟨b, rfl, trivial⟩

theorem Opens.string (ht : P.underlying t = some .string) : Opens P t Kd.string (fun y => y.size ≤ 140737488351232) := by
  intro H enc w fuel cs x h hn
  obtain ⟨s, rfl, rfl, _⟩ := DataW.trod_string ht h
  refine ⟨s, rfl, ?_⟩
  have := hn s.data.toList.length (by simp [DataW.weights])
  simpa [reachBytes] using this

theorem choose_list {α : Type} {n : Nat} {p : Nat → α → Prop} (h : ∀ i, i < n → ∃ y, p i y) : ∃ l : List α, l.length = n ∧ ∀ i y, l[i]? = some y → p i y := by
  induction n with
  | zero => exact ⟨[], rfl, fun i y hy => by simp at hy⟩
  | succ n ih =>
    obtain ⟨l, hl, hp⟩ := ih (fun i hi => h i (by omega))
    obtain ⟨y, hy⟩ := h n (by omega)
    refine ⟨l ++ [y], by simp [hl], fun i z hz => ?_⟩
    rcases Nat.lt_or_ge i l.length with hi | hi
    · rw [List.getElem?_append_left hi] at hz
      exact hp i z hz
    · rw [List.getElem?_append_right hi] at hz
      have : i - l.length = 0 := by
        have := (List.getElem?_eq_some_iff.1 hz).1
        simpa using this
      rw [this] at hz
      have h1 : i = n := by omega
      subst h1
      have : y = z := by simpa using hz
      subst this
      exact hy

theorem weightsAll_mem {H : Type} {e : TypeId} : ∀ {l : List (DataW H)} {d : DataW H}, d ∈ l → ∀ n ∈ d.weights P e, n ∈ DataW.weightsAll P e l
  | a :: l, d, hd, n, hn => by
    simp only [DataW.weightsAll, List.mem_append]
    rcases List.mem_cons.1 hd with rfl | hd
    · exact .inl hn
    · exact .inr (weightsAll_mem hd n hn)

theorem Opens.slice {α : Type} {d : Kd α} {S : α → Prop} {b : Nat} (ht : P.underlying t = some (.slice e)) (hc : P.cellsOf e = d.sz) (hb : P.bytesOf e = b) (h : Opens P e d S) :
    Opens P t (Kd.slice e d) (fun l => l.length * b ≤ 140737488351232 ∧ ∀ y ∈ l, S y) := by
  intro H enc w fuel cs x hx hn
  rcases open_slice ht hx with ⟨rfl, rfl⟩ | ⟨a, len, cap, m, n, D, Pl, rfl, _, hl, hm, hmm, rfl, hall⟩
  · exact ⟨[], ⟨none, 0, rfl, Nat.le_refl _, rfl, by simp, fun h => absurd h (by simp)⟩, by simp, by simp⟩
  · simp only [if_true] at hmm
    obtain rfl : m = cap := hmm
    have hel : ∀ i, i < len → ∃ y : α, (∃ cs', w.cells? 0 (a.add (i * P.cellsOf e)) (P.cellsOf e) = some cs' ∧ d.K w y cs') ∧ S y := by
      intro i hi
      obtain ⟨cs', h1, h2⟩ := hall i (by omega)
      obtain ⟨y, hy, hs⟩ := h enc w n cs' _ h2 (fun k hk => hn k (by
        simp only [DataW.weights, ht, List.mem_cons, List.mem_append]
        exact .inr (.inl (weightsAll_mem (List.mem_map.2 ⟨i, List.mem_range.2 hi, rfl⟩) k hk))))
      exact ⟨y, ⟨cs', h1, hy⟩, hs⟩
    obtain ⟨l, hll, hp⟩ := choose_list hel
    subst hll
    have hw : (l.length + (m - l.length)) * b ≤ reachBytes := by
      have := hn _ (by simp only [DataW.weights, ht, List.mem_cons]; exact .inl rfl)
      simpa [hb] using this
    refine ⟨l, ⟨some a, m, rfl, hl, rfl, by unfold maxLen at hm; omega, fun _ => ⟨a, rfl, fun j p hj => ?_⟩⟩, ?_, fun y hy => ?_⟩
    · obtain ⟨⟨cs', h1, hk⟩, _⟩ := hp j p hj
      obtain ⟨_, hlen, hcell⟩ := World.cells?_some h1
      refine ⟨cs', by rw [hlen, hc], hk, fun i u hu => ?_⟩
      have hi : i < P.cellsOf e := by
        have := (List.getElem?_eq_some_iff.1 hu).1
        omega
      have := hcell i hi
      rw [Go.Deep.add_add, hu, hc] at this
      exact this
    · have : l.length * b ≤ (l.length + (m - l.length)) * b := Nat.mul_le_mul_right _ (by omega)
      simp only [reachBytes] at hw
      omega
    · obtain ⟨j, hj⟩ := List.mem_iff_getElem?.1 hy
      exact (hp j y hj).2

/-- The fields from one on, in line. -/
def OpensF (P : Program) (fs : List Field) (o : Nat) {α : Type} (d : Kd α) (S : α → Prop) : Prop :=
  ∀ {H : Type} (enc : TypeId × Value → H) (w : World) (n : Nat) (cs : List Value) (ys : List (DataW H × List MemPlace)),
    (∀ (i : Nat) (f : Field), fs[i]? = some f → DataW.trod enc P w 0 (fun _ => true) true n f.type ((cs.drop f.offset).take (P.cellsOf f.type)) = ys[i]?) → ys.length = fs.length →
    (∀ k ∈ DataW.weightsEach P (fs.map (·.type)) (ys.map (·.1)), k ≤ reachBytes) → cs.length = o + d.sz → ∃ y : α, d.K w y (cs.drop o) ∧ S y

theorem OpensF.one {α : Type} {f : Field} {o : Nat} {d : Kd α} {S : α → Prop} (ho : f.offset = o) (hc : P.cellsOf f.type = d.sz) (h : Opens P f.type d S) : OpensF P [f] o d S := by
  intro H enc w n cs ys hf hl hw hlen
  match ys, hl with
  | [y], _ =>
    have h1 := hf 0 f rfl
    rw [ho, hc, List.take_of_length_le (by rw [List.length_drop]; omega)] at h1
    exact h enc w n _ y h1 (fun k hk => hw k (by simp [DataW.weightsEach, hk]))

theorem OpensF.cons {α β : Type} {f : Field} {fs : List Field} {o o' : Nat} {d : Kd α} {d' : Kd β} {S : α → Prop} {S' : β → Prop} (ho : f.offset = o) (hc : P.cellsOf f.type = d.sz) (ho' : o + d.sz = o')
    (h : Opens P f.type d S) (h' : OpensF P fs o' d' S') : OpensF P (f :: fs) o (Kd.pair d d') (fun z => S z.1 ∧ S' z.2) := by
  intro H enc w n cs ys hf hl hw hlen
  match ys, hl with
  | y :: ys, hl =>
    have h1 := hf 0 f rfl
    rw [ho, hc] at h1
    have hlen' : cs.length = o + (d.sz + d'.sz) := hlen
    obtain ⟨a, ha, hs⟩ := h enc w n _ y h1 (fun k hk => hw k (by simp only [List.map_cons, DataW.weightsEach, List.mem_append]; exact .inl hk))
    obtain ⟨b, hb, hs'⟩ := h' enc w n cs ys (fun i g hg => hf (i + 1) g (by simpa using hg)) (by simpa using hl) (fun k hk => hw k (by simp only [List.map_cons, DataW.weightsEach, List.mem_append]; exact .inr hk)) (by omega)
    refine ⟨(a, b), ⟨_, _, ?_, ha, hb⟩, hs, hs'⟩
    rw [← ho', ← List.drop_drop, List.take_append_drop]

theorem Opens.struct {α β : Type} {fs : Array Field} {d : Kd α} {S : α → Prop} {f : β → α} {g : α → β} (ht : P.underlying t = some (.struct fs)) (hc : P.cellsOf t = d.sz) (hfg : ∀ a, f (g a) = a) (h : OpensF P fs.toList 0 d S) :
    Opens P t (Kd.iso d f) (fun y => S (f y)) := by
  intro H enc w fuel cs x hx hn
  obtain ⟨xs, n, _, rfl, hl, hlen, hf⟩ := DataW.trod_struct ht hx
  obtain ⟨a, ha, hs⟩ := h enc w n cs xs (fun i q hq => hf i q (by simpa using hq)) (by simpa using hlen) (fun k hk => hn k (by simpa [DataW.weights, ht] using hk)) (by rw [hl, hc]; omega)
  refine ⟨g a, ?_, by show S (f (g a)); rw [hfg]; exact hs⟩
  show d.K w (f (g a)) cs
  rw [hfg]
  simpa using ha

theorem Opens.imp {α : Type} {d : Kd α} {S S' : α → Prop} (h : Opens P t d S) (hS : ∀ y, S y → S' y) : Opens P t d S' := by
  intro H enc w fuel cs x hx hn
  obtain ⟨y, hy, hs⟩ := h enc w fuel cs x hx hn
  exact ⟨y, hy, hS y hs⟩

/-- An argument: its cells, told. -/
theorem Opens.arg {H : Type} {enc : TypeId × Value → H} {α : Type} {d : Kd α} {S : α → Prop} {w : World} {ts : List TypeId} {ds : List (DataW H)} {j : Nat} {v : Value} {dd : DataW H} {ps : List MemPlace} (h : Opens P t d S)
    (hz : (DataW.weightsEach P ts ds).all (· ≤ reachBytes) = true) (ht : ts[j]? = some t) (hd : ds[j]? = some dd) (hv : DataW.Trod enc P w 0 (fun _ => true) true t v dd ps) : ∃ y : α, d.K w y v.cells.toList ∧ S y := by
  obtain ⟨fuel, hf⟩ := hv
  exact h enc w fuel _ (dd, ps) hf (fun n hn => by simpa using List.all_eq_true.1 hz n (DataW.weights_mem_each ht hd n hn))

theorem arg_lt {H : Type} {enc : TypeId × Value → H} {w : World} {v : Value} {dd : DataW H} {ps : List MemPlace} (hv : DataW.Trod enc P w 0 (fun _ => true) true t v dd ps) : ∀ x ∈ ps, x.block < w.heap.size := by
  obtain ⟨m, hm⟩ := hv
  exact DataW.trod_lt m _ _ _ hm
end
end Go.Proofs.YtccbpbdfihnlgaaDoor.Ro

/- The law TreeOrder holds: for every input it returns true, and each argument reads afterwards as it read before. -/
namespace Go.Proofs.YtccbpbdfihnlgaaDoor.treeOrder
open Go.ChangeShapes Go.WideShapes Go.ChangeAt Go.RowKit Go.Proofs.YtccbpbdfihnlgaaDoor.Ro Go.Proofs.YtccbpbdfihnlgaaDoor.Q Go.Proofs.YtccbpbdfihnlgaaDoorW.PrintWords
open Go.ChangeMaps (open_string shut_string)
theorem own : ownKnob Tryd.prog.godebug = none := by kernel_rfl
theorem laidOut : laidOutB Tryd.prog = true := by kernel_rfl
theorem opens35 : Opens Tryd.prog 35 k35 (fun y => ((Lit.int .i64 y.f0).wf = true ∧ y.f1.size ≤ 140737488351232 ∧ y.f2.size ≤ 140737488351232)) := (Opens.struct (f := (fun x : S35 => (x.f0, x.f1, x.f2))) (g := (fun a => (⟨a.1, a.2.1, a.2.2⟩ : S35))) Tryd.underlying35 (by kernel_rfl) (fun _ => rfl) (OpensF.cons rfl (by kernel_rfl) rfl (Opens.int Tryd.underlying3) (OpensF.cons rfl (by kernel_rfl) rfl (Opens.string Tryd.underlying9) (OpensF.one rfl (by kernel_rfl) (Opens.string Tryd.underlying9)))))
set_option maxRecDepth 100000 in
theorem lifted (os : Os) (started : os.Started) (H : Type) (enc : TypeId × Value → H) :
    ReturnsInHanded {} Tryd.checked os 6 .any (fun w args => (Rows.treeOrderSpec.pre enc Tryd.prog Tryd.f6 [] false w args ∧ laidMetH Tryd.prog Rows.treeOrderRow.laid w) ∧ sizedMet enc Tryd.prog Tryd.f6 (OpenSpec.ofChange Rows.treeOrderSpec) false w args) (Rows.treeOrderSpec.post enc Tryd.prog Tryd.f6 false true false false) := by
  refine returnsInHanded_of_change_and (C := Tryd.checked) (X := fun w _ => laidMetH Tryd.prog Rows.treeOrderRow.laid w) (fun _ _ _ hh h => h.of_heap hh) own started (by kernel_rfl) Tryd.func6
    (ChangeSpec.witness_shaped (enc := enc) (C := Tryd.checked) (os := os) (X := fun w _ => laidMetH Tryd.prog Rows.treeOrderRow.laid w) false (World.laidAll Tryd.prog os Rows.treeOrderRow.laid) #[.agg #[.int .i64 0, .string ByteArray.empty, .string ByteArray.empty], .agg #[.int .i64 0, .string ByteArray.empty, .string ByteArray.empty]] 8 (World.laidAll_os _ _ _)
      (World.shaped_of_ZipB (by kernel_rfl) (by kernel_rfl)) (by kernel_rfl) (by kernel_rfl) (by kernel_rfl)
      (by rw [MakeChecks.laidMetH_plain _ _ _ (by kernel_rfl)]; exact laidMet_laidAll _ (by kernel_rfl) (by kernel_rfl))) ?_
  intro W base args ds gs before hval0 hW hcnd hsz0 _ _
  have hsz : (DataW.weightsEach Tryd.prog (Tryd.f6.params.toList ++ Rows.treeOrderSpec.plain.varTypes Tryd.prog) (ds ++ gs)).all (· ≤ reachBytes) = true := hsz0
  have hval : ∀ (j : Nat) t v, Tryd.f6.params[j]? = some t → args[j]? = some v → Value.okWide Tryd.prog W .any base t v := hval0
  have hW' := hW
  obtain ⟨p, q, hA0, hV, rfl, hfz, hnd⟩ := hW
  have hA : DataW.TrodAll enc Tryd.prog W 0 (fun _ => true) true Tryd.f6.params.toList args.toList ds p := hA0
  rw [Tryd.params6] at hA hval hsz
  obtain ⟨v0, vs0, d0, ds0, p0, q0, hargs, rfl, rfl, h0, r0⟩ := trodAll_cons hA
  obtain ⟨v1, vs1, d1, ds1, p1, q1, rfl, rfl, rfl, h1, r1⟩ := trodAll_cons r0
  obtain ⟨rfl, rfl, rfl⟩ := trodAll_nil r1
  obtain rfl : args = #[v0, v1] := by cases args; simp_all
  obtain ⟨rfl, rfl⟩ := trodVars_none hV
  have lt0 := arg_lt h0
  obtain ⟨y0, hk0, w0⟩ := opens35.arg hsz (j := 0) rfl rfl h0
  obtain ⟨cs0, rfl, _⟩ := okWide_struct Tryd.underlying35 (hval 0 35 v0 rfl rfl)
  have hk0' := k35_open hk0
  have e0 := hk0'
  obtain rfl : cs0 = #[.int .i64 y0.f0, .string y0.f1, .string y0.f2] := by cases cs0; simpa [Value.cells] using e0
  have lt1 := arg_lt h1
  obtain ⟨y1, hk1, w1⟩ := opens35.arg hsz (j := 1) rfl rfl h1
  obtain ⟨cs1, rfl, _⟩ := okWide_struct Tryd.underlying35 (hval 1 35 v1 rfl rfl)
  have hk1' := k35_open hk1
  have e1 := hk1'
  obtain rfl : cs1 = #[.int .i64 y1.f0, .string y1.f1, .string y1.f2] := by cases cs1; simpa [Value.cells] using e1
  obtain ⟨k, hp⟩ := Pure.TreeOrder _ _ w0 w1
  clear hA0 hval0 hsz0 hsz
  refine (Q.graftagelaw15_TreeOrder.calls k y0.f0 y0.f1 y0.f2 y1.f0 y1.f1 y1.f2 true W  hp).mono ?_
  rintro e W' ⟨rfl, bel0⟩
  have bel : Below W.heap.size W W' := bel0
  exact ⟨_, rfl, _, _, _, [], _, [], hW', trodAll_mk1 (shut_bool Tryd.underlying4 _), (trodAll_cons_mk (Below.trod laidOut (by kernel_rfl) (of_decide_eq_true (by kernel_rfl)) h0 bel lt0) (trodAll_cons_mk (Below.trod laidOut (by kernel_rfl) (of_decide_eq_true (by kernel_rfl)) h1 bel lt1) trodAll_mk0)), rfl, bel.frame _, fun h => by cases h⟩
theorem over : Rows.treeOrderRow.holds Tryd.pinned (OpenSpec.ofChange Rows.treeOrderSpec) :=
  OpenClaim.holds_of_wide 6 Tryd.f6 rfl rfl rfl rfl rfl rfl rfl ⟨rfl, rfl, rfl, rfl, rfl⟩ rfl rfl rfl rfl rfl (by kernel_rfl) Tryd.func6 (by kernel_rfl)
    (of_decide_eq_true (by kernel_rfl)) (by unfold Func.isWrapper; first | (rw [if_pos (by decide +kernel)]; kernel_rfl) | (rw [if_neg (by decide +kernel)]; exact ⟨rfl, rfl⟩))
    (fun os started H enc _ => lifted os started H enc)
theorem proved : Rows.TreeOrderSaid := over
theorem card_holds : Rows.TreeOrderCardSaid :=
  Claim7.holds_tied_plain_at .later [] [.data, .pinned] true (true, "f211dbb39e0f8aee4bdc9ae8c5517fa944c5333aa6a5e92b425f441664a6fa8b") false over (fun _ h => by cases h) (by kernel_rfl) (fun _ h => by cases h) treeOrder_row_tie rfl ⟨rfl, rfl⟩ (by kernel_rfl) rfl
    (fun f fn hf hfn => by
      obtain rfl : f = 6 := Option.some.inj ((show Tryd.prog.funcNamed "graftage/graftagelaw15.TreeOrder" = some 6 by kernel_rfl).symm.trans hf) |>.symm
      obtain rfl : fn = Tryd.f6 := (Option.some.inj (Tryd.func6.symm.trans hfn)).symm
      exact ⟨by kernel_rfl, fun j t ht => by
        rw [Tryd.params6] at ht
        have hm : t ∈ [35, 35] := by simpa using Array.mem_of_getElem? ht
        have hall : ([35, 35].all fun u => !Tryd.prog.wantsStandIn u) = true := by kernel_rfl
        exact (show Tryd.prog.wantsStandIn t = false by simpa using List.all_eq_true.1 hall t hm)⟩)
    (by kernel_rfl)
#print axioms card_holds
end Go.Proofs.YtccbpbdfihnlgaaDoor.treeOrder
namespace Go.Proofs.YtccbpbdfihnlgaaDoor
/-- The statement, under a short name, for the claim. -/
theorem treeOrder_holds : Rows.TreeOrderCardSaid := treeOrder.card_holds
end Go.Proofs.YtccbpbdfihnlgaaDoor

