/- The law RefsNames holds: for every input it returns true, and each argument reads afterwards as it read before. -/
import Derived.Test.YtccbpbdfihnlgaaDoorMYRefsNames1
import Derived.Test.YtccbpbdfihnlgaaDoorMRefsNames1
import Derived.Test.YtccbpbdfihnlgaaDoorMRefsNames2
import Derived.Test.YtccbpbdfihnlgaaDoorMRefsNames3
import Derived.Test.YtccbpbdfihnlgaaDoorMRefsNames4
import Derived.Lib.IndexAny
import Derived.Lib.IndexMore
import Derived.Sort.Walk0
import Derived.Deep.Slices
import Derived.Lib.SmallJoins
import Derived.ChangeArms
import Derived.SizedLaws
import Derived.WalkKit
import Derived.ProofKit
import Derived.Test.YtccbpbdfihnlgaaDoorRows
import Derived.Test.YtccbpbdfihnlgaaDoorTie
import Derived.Test.YtccbpbdfihnlgaaDoorCards
import Derived.OpenShut
import Derived.ShutString
import Derived.ChangeOld
import Derived.Below
import Derived.Lay
import Derived.LaidOnce
import Derived.SevenTiedAt
import Derived.LaidLaws
import Derived.Handed
import Derived.ChangeVars
import Derived.JoinedOf
import Derived.Deep.DeepHandedRow
import Derived.Stop.Joined
set_option linter.unusedVariables false
set_option linter.unusedSimpArgs false
/- Ids: digits, bytes and their digits; the program's and the reference's. -/
namespace Go.Proofs.YtccbpbdfihnlgaaDoor.Q
open Go.RowKit Go.Proofs.YtccbpbdfihnlgaaDoorW.PrintWords Go.Proofs.YtccbpbdfihnlgaaDoorW.PrintLast Go.Proofs.YtccbpbdfihnlgaaDoorW.PrintMore

def hexD : List UInt8 := [48, 49, 50, 51, 52, 53, 54, 55, 56, 57, 97, 98, 99, 100, 101, 102]
/-- A digit's value; -1. -/
def dv (b : Int) : Int := Lib.indexByte hexD b.toNat.toUInt8
theorem dv_table : ∀ n : Fin 256, graftageref02_Digit.f 2 (n.val : Int) = some (dv (n.val : Int)) ∧ -1 ≤ dv (n.val : Int) ∧ dv (n.val : Int) ≤ 15 := by decide +kernel
theorem bt_fin (s : ByteArray) (i : Int) : ∃ n : Fin 256, bt s i = (n.val : Int) := by
  obtain ⟨h0, h1⟩ := bt_range s i
  exact ⟨⟨(bt s i).toNat, by omega⟩, by simp; omega⟩
theorem value_eq (b : Int) : ident_value.f b = some (dv b) := rfl
theorem Digit_bt (s : ByteArray) (i : Int) (k : Nat) (hk : 2 ≤ k) : graftageref02_Digit.f k (bt s i) = some (dv (bt s i)) := by
  obtain ⟨n, hn⟩ := bt_fin s i
  rw [hn]
  exact at_rounds (fun k => graftageref02_Digit.mono _ k) hk (dv_table n).1
/-- Are all digits, from a place on? -/
def hexF (s : ByteArray) : Nat → Nat → Bool
  | 0, _ => true
  | d + 1, i => decide (0 ≤ dv (bt s i)) && hexF s d (i + 1)
theorem all_l0 (s : ByteArray) (hs : s.size ≤ 140737488351232) : ∀ (d k i : Nat), i + d = s.size → d < k → ident_all.l0 k s s.size i = some (hexF s d i) := by
  intro d
  induction d with
  | zero =>
    intro k i hi hk
    obtain ⟨k, rfl⟩ : ∃ m, k = m + 1 := ⟨k - 1, by omega⟩
    simp only [ident_all.l0]
    rw [if_neg (by omega)]; rfl
  | succ d ih =>
    intro k i hi hk
    obtain ⟨k, rfl⟩ : ∃ m, k = m + 1 := ⟨k - 1, by omega⟩
    have := ih k (i + 1) (by omega) (by omega)
    simp only [ident_all.l0]
    rw [if_pos (by omega), if_pos (by omega), if_pos (by omega), value_eq, wrap_id (by omega) (by omega)]
    simp only [Option.bind_some]
    rw [hexF]
    by_cases h : dv (bt s i) < 0
    · rw [if_pos h, decide_eq_false (by omega)]; rfl
    · rw [if_neg h, decide_eq_true (by omega), Bool.true_and]; exact_mod_cast this
theorem digits_l0 (s : ByteArray) (hs : s.size ≤ 140737488351232) : ∀ (d k i : Nat), i + d = s.size → d + 2 < k → graftageref02_digits.l0 k s i = some (hexF s d i) := by
  intro d
  induction d with
  | zero =>
    intro k i hi hk
    obtain ⟨k, rfl⟩ : ∃ m, k = m + 1 := ⟨k - 1, by omega⟩
    simp only [graftageref02_digits.l0]
    rw [if_neg (by omega)]; rfl
  | succ d ih =>
    intro k i hi hk
    obtain ⟨k, rfl⟩ : ∃ m, k = m + 1 := ⟨k - 1, by omega⟩
    have := ih k (i + 1) (by omega) (by omega)
    simp only [graftageref02_digits.l0]
    rw [if_pos (by omega), if_pos (by omega), Digit_bt s i k (by omega), wrap_id (by omega) (by omega)]
    simp only [Option.bind_some]
    rw [hexF]
    by_cases h : dv (bt s i) < 0
    · rw [if_pos h, decide_eq_false (by omega)]; rfl
    · rw [if_neg h, decide_eq_true (by omega), Bool.true_and]; exact_mod_cast this
def idOk (s : ByteArray) : Bool := decide (s.size = 40) && hexF s s.size 0
theorem ident_Is_ev (s : ByteArray) : Ev (fun k => ident_Is.f k s) (idOk s) := by
  unfold idOk
  by_cases h : s.size = 40
  · refine Ev.congr (f := fun k => (ident_all.f k s).bind fun t => some t) (fun k => by unfold ident_Is.f; rw [if_pos (by omega)]) ?_
    refine Ev.bind (Ev.of (fun k => ident_all.mono s k) (k := 60) (r := hexF s s.size 0) ?_) ?_
    · unfold ident_all.f
      exact_mod_cast all_l0 s (by omega) s.size 60 0 (by omega) (by omega)
    · rw [decide_eq_true h, Bool.true_and]; exact Ev.now _
  · refine Ev.congr (f := fun _ => some false) (fun k => by unfold ident_Is.f; rw [if_neg (by omega)]) ?_
    rw [decide_eq_false h, Bool.false_and]; exact Ev.now _
theorem ref_idIs_ev (s : ByteArray) : Ev (fun k => graftageref02_Is.f k s) (idOk s) := by
  unfold idOk
  by_cases h : s.size = 40
  · refine Ev.congr (f := fun k => (graftageref02_digits.f k s).bind fun t => some t) (fun k => by unfold graftageref02_Is.f; rw [if_pos (by omega)]) ?_
    refine Ev.bind (Ev.of (fun k => graftageref02_digits.mono s k) (k := 60) (r := hexF s s.size 0) ?_) ?_
    · unfold graftageref02_digits.f
      exact_mod_cast digits_l0 s (by omega) s.size 60 0 (by omega) (by omega)
    · rw [decide_eq_true h, Bool.true_and]; exact Ev.now _
  · refine Ev.congr (f := fun _ => some false) (fun k => by unfold graftageref02_Is.f; rw [if_neg (by omega)]) ?_
    rw [decide_eq_false h, Bool.false_and]; exact Ev.now _
/-! ### Hex -/
def hx (n : Int) : Int := bt (⟨#[48, 49, 50, 51, 52, 53, 54, 55, 56, 57, 97, 98, 99, 100, 101, 102]⟩ : ByteArray) n
end Go.Proofs.YtccbpbdfihnlgaaDoor.Q


/- Names of refs: both functions tell the same. -/
namespace Go.Proofs.YtccbpbdfihnlgaaDoor.Q
open Go.RowKit Go.Proofs.YtccbpbdfihnlgaaDoorW.PrintWords Go.Proofs.YtccbpbdfihnlgaaDoorW.PrintLast Go.Proofs.YtccbpbdfihnlgaaDoorW.PrintMore
theorem ev_iff {α : Type} {c : Prop} [Decidable c] {f g : Nat → Option α} {r : α} (h1 : c → Ev f r) (h2 : ¬ c → Ev g r) : Ev (fun k => if c then f k else g k) r := by
  by_cases h : c
  · simp only [if_pos h]; exact h1 h
  · simp only [if_neg h]; exact h2 h
/-! ### what is in a text -/
theorem contains_cons (x : UInt8) (l sub : List UInt8) : Lib.contains (x :: l) sub = (sub.isPrefixOf (x :: l) || Lib.contains l sub) := by
  have hge := Lib.index_ge l sub
  unfold Lib.contains
  rw [Lib.index]
  by_cases hp : sub.isPrefixOf (x :: l) = true
  · rw [if_pos hp, hp]; rfl
  · rw [if_neg hp]
    have : sub.isPrefixOf (x :: l) = false := Bool.eq_false_iff.2 hp
    rw [this, Bool.false_or]
    by_cases h1 : Lib.index l sub = -1
    · rw [if_pos (by simp [h1]), h1]
    · rw [if_neg (by simpa using h1)]
      by_cases h0 : 0 ≤ Lib.index l sub
      · rw [decide_eq_true h0, decide_eq_true (by omega)]
      · omega
theorem contains_two (a b : UInt8) : ∀ l : List UInt8, Lib.contains l [a, b] = true ↔ ∃ i, l[i]? = some a ∧ l[i + 1]? = some b
  | [] => by simp [Lib.contains, Lib.index]
  | x :: l => by
    rw [contains_cons, Bool.or_eq_true, contains_two a b l]
    constructor
    · rintro (h | ⟨i, h1, h2⟩)
      · cases l with
        | nil => simp [List.isPrefixOf] at h
        | cons y l =>
          simp [List.isPrefixOf] at h
          exact ⟨0, by simp [h.1], by simp [h.2]⟩
      · exact ⟨i + 1, by simpa using h1, by simpa using h2⟩
    · rintro ⟨i, h1, h2⟩
      cases i with
      | zero =>
        left
        cases l with
        | nil => simp at h2
        | cons y l =>
          simp at h1 h2
          simp [List.isPrefixOf, h1, h2]
      | succ i => exact .inr ⟨i, by simpa using h1, by simpa using h2⟩
theorem containsAny_cons (x : UInt8) (l cs : List UInt8) : Lib.containsAny (x :: l) cs = (cs.contains x || Lib.containsAny l cs) := by
  have hge := Lib.indexAny_ge cs l
  unfold Lib.containsAny
  rw [Lib.indexAny]
  by_cases hp : cs.contains x = true
  · rw [if_pos hp, hp]; rfl
  · rw [if_neg hp]
    have : cs.contains x = false := by simpa using hp
    rw [this, Bool.false_or]
    by_cases h1 : Lib.indexAny l cs = -1
    · rw [if_pos (by simp [h1]), h1]
    · rw [if_neg (by simpa using h1)]
      by_cases h0 : 0 ≤ Lib.indexAny l cs
      · rw [decide_eq_true h0, decide_eq_true (by omega)]
      · omega
theorem containsAny_any (cs : List UInt8) : ∀ l : List UInt8, Lib.containsAny l cs = l.any (fun b => cs.contains b)
  | [] => rfl
  | x :: l => by rw [containsAny_cons, containsAny_any cs l, List.any_cons]
/-! ### beginnings and ends -/
def preB (a b : ByteArray) : Bool := decide (b.size ≤ a.size) && ((a.extract 0 b.size).toList == b.toList)
def sufB (a b : ByteArray) : Bool := decide (b.size ≤ a.size) && ((a.extract (a.size - b.size) a.size).toList == b.toList)
theorem HasPrefix_is (a b : ByteArray) : strings_HasPrefix.f a b = some (preB a b) := by
  unfold strings_HasPrefix.f stringslite_HasPrefix.f preB
  by_cases h : b.size ≤ a.size
  · rw [if_pos (by omega), if_pos (by omega), if_pos (by omega), decide_eq_true h, Bool.true_and]; rfl
  · rw [if_neg (by omega), decide_eq_false h, Bool.false_and]; rfl
theorem begins_is (a b : ByteArray) : graftageref37_begins.f a b = some (preB a b) := by
  unfold graftageref37_begins.f preB
  by_cases h : b.size ≤ a.size
  · rw [if_pos (by omega), if_pos (by omega), if_pos (by omega), decide_eq_true h, Bool.true_and]
  · rw [if_neg (by omega), decide_eq_false h, Bool.false_and]
theorem HasSuffix_is (a b : ByteArray) (ha : a.size ≤ 140737488351232) : strings_HasSuffix.f a b = some (sufB a b) := by
  unfold strings_HasSuffix.f stringslite_HasSuffix.f sufB
  by_cases h : b.size ≤ a.size
  · rw [if_pos (by omega), wrap_id (by omega) (by omega), if_pos (by omega), if_pos (by omega), decide_eq_true h, Bool.true_and, show ((a.size : Int) - (b.size : Int)).toNat = a.size - b.size by omega]; rfl
  · rw [if_neg (by omega), decide_eq_false h, Bool.false_and]; rfl
theorem ends_is (a b : ByteArray) (ha : a.size ≤ 140737488351232) : graftageref37_ends.f a b = some (sufB a b) := by
  unfold graftageref37_ends.f sufB
  by_cases h : b.size ≤ a.size
  · rw [if_pos (by omega), wrap_id (by omega) (by omega), if_pos (by omega), if_pos (by omega), decide_eq_true h, Bool.true_and, show ((a.size : Int) - (b.size : Int)).toNat = a.size - b.size by omega]
  · rw [if_neg (by omega), decide_eq_false h, Bool.false_and]
/-! ### parts -/
def badPart (p : ByteArray) : Bool := preB p ⟨#[46]⟩ || sufB p ⟨#[46, 108, 111, 99, 107]⟩
theorem Name_1_eq (p : ByteArray) (hp : p.size ≤ 140737488351232) : refs_Name_1.f p = some (badPart p) := by
  unfold refs_Name_1.f badPart
  rw [HasPrefix_is, HasSuffix_is _ _ hp]
  simp only [Option.bind_some]
  by_cases h : preB p ⟨#[46]⟩ = true
  · rw [if_pos h, h, Bool.true_or]
  · rw [if_neg h]
    have : preB p ⟨#[46]⟩ = false := by simpa using h
    rw [this, Bool.false_or]
theorem Contains_l0 (l : List ByteArray) (f : ByteArray → Option Bool) (p : ByteArray → Bool) (hf : ∀ x ∈ l, f x = some (p x)) (hl : l.length ≤ 140737488351232) : ∀ (d i : Nat), i + d = l.length → ∃ q : Int, Ev (fun k => slices_IndexFunc_string_string.l0 k l f l.length i) q ∧ decide (q ≥ 0) = (l.drop i).any p := by
  intro d
  induction d with
  | zero =>
    intro i hi
    refine ⟨-1, Ev.step (f := fun _ => some (-1)) (fun k => by rw [slices_IndexFunc_string_string.l0, if_neg (by omega)]) (Ev.now _), ?_⟩
    rw [List.drop_of_length_le (by omega)]; rfl
  | succ d ih =>
    intro i hi
    have hlt : i < l.length := by omega
    have hm : f (rdOf ByteArray.empty l (i : Int)) = some (p l[i]) := by rw [rd_ext l i hlt]; exact hf _ (List.getElem_mem hlt)
    have hd : (l.drop i).any p = (p l[i] || (l.drop (i + 1)).any p) := by rw [List.drop_eq_getElem_cons hlt, List.any_cons]
    by_cases hp : p l[i] = true
    · refine ⟨(i : Int), Ev.step (f := fun _ => some (i : Int)) (fun k => by rw [slices_IndexFunc_string_string.l0, if_pos (by omega), if_pos (by omega), if_pos (by omega), hm, Option.bind_some, if_pos hp]) (Ev.now _), ?_⟩
      rw [hd, hp, decide_eq_true (by omega)]; rfl
    · obtain ⟨q, h1, h2⟩ := ih (i + 1) (by omega)
      refine ⟨q, Ev.step (f := fun k => slices_IndexFunc_string_string.l0 k l f l.length ((i : Int) + 1)) (fun k => by rw [slices_IndexFunc_string_string.l0, if_pos (by omega), if_pos (by omega), if_pos (by omega), hm, Option.bind_some, if_neg hp, wrap_id (by omega) (by omega)]) (by exact_mod_cast h1), ?_⟩
      have hp' : p l[i] = false := by simpa using hp
      rw [hd, hp', Bool.false_or, h2]
theorem ContainsFunc_ev (l : List ByteArray) (f : ByteArray → Option Bool) (p : ByteArray → Bool) (hf : ∀ x ∈ l, f x = some (p x)) (hl : l.length ≤ 140737488351232) : Ev (fun k => slices_ContainsFunc_string_string.f k l f) (l.any p) := by
  obtain ⟨q, h1, h2⟩ := Contains_l0 l f p hf hl l.length 0 (by omega)
  rw [List.drop_zero] at h2
  have h3 : Ev (fun k => slices_IndexFunc_string_string.f k l f) q := by exact_mod_cast h1
  refine Ev.bind h3 ?_
  rw [h2]
  exact Ev.now _
/-! ### a name -/
def barC : ByteArray := ⟨#[126, 94, 58, 63, 42, 91, 92, 127]⟩
def nameIn (s : ByteArray) : Bool := isPath s && (preB s ⟨#[114, 101, 102, 115, 47]⟩ && (!Lib.contains s.data.toList [46, 46] && (!Lib.contains s.data.toList [64, 123] && (!Lib.containsAny s.data.toList barC.data.toList && (s.data.toList.all (fun b => decide (32 < b.toNat)) && !(pathParts s).any badPart)))))
def nameB (s : ByteArray) : Bool := decide (s.toList = [72, 69, 65, 68]) || nameIn s
theorem isPath_size {s : ByteArray} (h : isPath s = true) : s.size ≤ 255 := by
  unfold isPath at h
  simp only [Bool.and_eq_true, decide_eq_true_eq] at h
  exact h.1.2
theorem isPath_parts {s : ByteArray} (h : isPath s = true) : ∀ p ∈ pathParts s, 1 ≤ p.size ∧ p.size ≤ 64 := by
  unfold isPath at h
  simp only [Bool.and_eq_true, decide_eq_true_eq] at h
  intro p hp
  unfold pathParts at hp
  split at hp
  · cases hp
  · have := List.all_eq_true.1 h.2.1 p hp
    unfold partOK at this
    simp only [Bool.and_eq_true, decide_eq_true_eq] at this
    exact ⟨this.1.1.1.1.1, this.1.1.1.1.2⟩
theorem pathParts_len {s : ByteArray} : (pathParts s).length ≤ s.size + 1 := by
  unfold pathParts
  split
  · simp
  · exact partsB_length_le s
theorem Name_l0 (s : ByteArray) (hp : isPath s = true) : ∀ (d i : Nat), i + d = s.size → Ev (fun k => refs_Name.l0 k s s.size i) ((s.data.toList.drop i).all (fun b => decide (32 < b.toNat)) && !(pathParts s).any badPart) := by
  have hs := isPath_size hp
  intro d
  induction d with
  | zero =>
    intro i hi
    rw [List.drop_of_length_le (by rw [← Lib.size_eq]; omega), List.all_nil, Bool.true_and]
    refine Ev.step (f := fun k => (slices_ContainsFunc_string_string.f k (pathParts s) (fun z0 => refs_Name_1.f z0)).bind fun t109 => some (!t109)) (fun k => by rw [refs_Name.l0, if_neg (by omega), path_Parts_eq s (by omega), Option.bind_some]) ?_
    have := pathParts_len (s := s)
    exact Ev.bind (ContainsFunc_ev (pathParts s) _ badPart (fun x hx => Name_1_eq x (by have := (isPath_parts hp x hx).2; omega)) (by omega)) (Ev.now _)
  | succ d ih =>
    intro i hi
    have hlt : i < s.size := by omega
    have hll : i < s.data.toList.length := by rw [← Lib.size_eq]; exact hlt
    have hb := bt_get s i hlt
    rw [List.drop_eq_getElem_cons hll, List.all_cons]
    by_cases hc : (bt s i) ≤ 32
    · have : decide (32 < (s.data.toList[i]'hll).toNat) = false := by rw [hb] at hc; exact decide_eq_false (by omega)
      rw [this, Bool.false_and, Bool.false_and]
      exact Ev.step (f := fun _ => some false) (fun k => by rw [refs_Name.l0, if_pos (by omega), if_pos (by omega), if_pos (by omega), if_pos hc]) (Ev.now _)
    · have : decide (32 < (s.data.toList[i]'hll).toNat) = true := by rw [hb] at hc; exact decide_eq_true (by omega)
      rw [this, Bool.true_and]
      refine Ev.step (f := fun k => refs_Name.l0 k s s.size ((i : Int) + 1)) (fun k => by rw [refs_Name.l0, if_pos (by omega), if_pos (by omega), if_pos (by omega), if_neg hc, wrap_id (by omega) (by omega)]) ?_
      exact_mod_cast ih (i + 1) (by omega)
theorem Name_ev (s : ByteArray) : Ev (fun k => refs_Name.f k s) (nameB s) := by
  unfold nameB
  refine ev_iff (fun h => ?_) (fun h => ?_)
  · rw [decide_eq_true h, Bool.true_or]; exact Ev.now _
  rw [decide_eq_false h, Bool.false_or]
  unfold nameIn
  have hF : Ev (fun k => refs_Name.j0 k s true) false := Ev.step (f := fun _ => some false) (fun k => by rw [refs_Name.j0, if_pos rfl]) (Ev.now _)
  refine Ev.bind (path_Is_ev s) ?_
  by_cases hp : isPath s = true
  case neg =>
    have : isPath s = false := by simpa using hp
    rw [this]
    simp only [Bool.false_eq_true, if_false, Bool.false_and]
    exact hF
  have hs := isPath_size hp
  rw [hp, Bool.true_and]
  simp only [if_true, HasPrefix_is, Option.bind_some]
  by_cases h1 : preB s ⟨#[114, 101, 102, 115, 47]⟩ = true
  case neg =>
    have : preB s ⟨#[114, 101, 102, 115, 47]⟩ = false := by simpa using h1
    rw [this]
    simp only [Bool.false_eq_true, if_false, Bool.false_and]
    exact hF
  rw [h1, Bool.true_and]
  simp only [if_true, strings_Contains2.f, show s.size < 4294967281 from by omega, Option.bind_some]
  by_cases h2 : Lib.contains s.data.toList [46, 46] = true
  · simp only [h2, if_true, Bool.not_true, Bool.false_and]; exact hF
  have h2' : Lib.contains s.data.toList [46, 46] = false := by simpa using h2
  simp only [h2', Bool.false_eq_true, if_false, Bool.not_false, Bool.true_and]
  by_cases h3 : Lib.contains s.data.toList [64, 123] = true
  · simp only [h3, if_true, Bool.not_true, Bool.false_and]; exact hF
  have h3' : Lib.contains s.data.toList [64, 123] = false := by simpa using h3
  simp only [h3', Bool.false_eq_true, if_false, Bool.not_false, Bool.true_and]
  have hany : strings_ContainsAny.f s (⟨#[126, 94, 58, 63, 42, 91, 92, 127]⟩ : ByteArray) = some (Lib.containsAny s.data.toList barC.data.toList) := by
    unfold strings_ContainsAny.f
    rw [if_pos (by omega), if_pos (by decide), if_pos (by decide)]
    rfl
  simp only [hany, Option.bind_some]
  by_cases h4 : Lib.containsAny s.data.toList barC.data.toList = true
  · rw [h4, Bool.not_true, Bool.false_and]; exact hF
  have h4' : Lib.containsAny s.data.toList barC.data.toList = false := by simpa using h4
  rw [h4', Bool.not_false, Bool.true_and]
  refine Ev.step (f := fun k => refs_Name.l0 k s s.size 0) (fun k => by rw [refs_Name.j0, if_neg (by decide)]) ?_
  have := Name_l0 s hp s.size 0 (by omega)
  rw [List.drop_zero] at this
  exact_mod_cast this
/-! ### the reference's -/
def barB (b : UInt8) : Bool := decide (b.toNat < 33) || barC.data.toList.contains b
theorem Barred_table : ∀ n : Fin 256, graftageref37_Barred.f (n.val : Int) = some (barB (UInt8.ofNat n.val)) := by decide +kernel
theorem Barred_bt (s : ByteArray) (i : Nat) (h : i < s.size) : graftageref37_Barred.f (bt s i) = some (barB (s.data.toList[i]'(by rw [← Lib.size_eq]; exact h))) := by
  rw [bt_get s i h]
  have := Barred_table ⟨(s.data.toList[i]'(by rw [← Lib.size_eq]; exact h)).toNat, UInt8.toNat_lt _⟩
  simpa using this
def plB (s : ByteArray) : Nat → Nat → Bool
  | 0, _ => true
  | d + 1, i => if barB (s.data.toList.getD i 0) = true then false else if (decide (0 < i) && ((decide (s.data.toList.getD (i - 1) 0 = 46) && decide (s.data.toList.getD i 0 = 46)) || (decide (s.data.toList.getD (i - 1) 0 = 64) && decide (s.data.toList.getD i 0 = 123)))) = true then false else plB s d (i + 1)
theorem ext_two (s : ByteArray) (i : Nat) (h0 : 0 < i) (h : i < s.size) : (s.extract (i - 1) (i + 1)).toList = [s.data.toList.getD (i - 1) 0, s.data.toList.getD i 0] := by
  have hl : s.data.toList.length = s.size := (Lib.size_eq s).symm
  rw [Lib.toList_data, Lib.extract_data, show i + 1 - (i - 1) = 2 by omega, List.drop_eq_getElem_cons (by omega), show i - 1 + 1 = i by omega, List.drop_eq_getElem_cons (by omega)]
  simp only [List.take_succ_cons, List.take_zero, List.getD, List.getElem?_eq_getElem (show i - 1 < s.data.toList.length by omega), List.getElem?_eq_getElem (show i < s.data.toList.length by omega), Option.getD_some]
theorem plain_l0 (s : ByteArray) (hs : s.size ≤ 140737488351232) : ∀ (d i : Nat), i + d = s.size → Ev (fun k => graftageref37_plain.l0 k s s.size i) (plB s d i) := by
  intro d
  induction d with
  | zero =>
    intro i hi
    exact Ev.step (f := fun _ => some true) (fun k => by rw [graftageref37_plain.l0, if_neg (by omega)]) (Ev.now _)
  | succ d ih =>
    intro i hi
    have hlt : i < s.size := by omega
    have hll : i < s.data.toList.length := by rw [← Lib.size_eq]; exact hlt
    have hg : s.data.toList.getD i 0 = s.data.toList[i] := by simp [List.getD, List.getElem?_eq_getElem hll]
    have hB : graftageref37_Barred.f (bt s i) = some (barB (s.data.toList.getD i 0)) := by rw [hg]; exact Barred_bt s i hlt
    rw [plB]
    by_cases h1 : barB (s.data.toList.getD i 0) = true
    · rw [if_pos h1]
      exact Ev.step (f := fun _ => some false) (fun k => by rw [graftageref37_plain.l0, if_pos (by omega), if_pos (by omega), if_pos (by omega), hB, Option.bind_some, if_pos h1]) (Ev.now _)
    rw [if_neg h1]
    by_cases h0 : 0 < i
    · have e2 := ext_two s i h0 hlt
      have ev : ∀ k, graftageref37_plain.l0 (k + 1) s s.size i = (if (s.extract (i - 1) (i + 1)).toList = ([46, 46] : List UInt8) then (some false) else (if (s.extract (i - 1) (i + 1)).toList = ([64, 123] : List UInt8) then (some false) else (graftageref37_plain.l0 k s s.size ((i : Int) + 1)))) := fun k => by
        rw [graftageref37_plain.l0, if_pos (by omega), if_pos (by omega), if_pos (by omega), hB, Option.bind_some, if_neg h1, if_pos (by omega), wrap_id (by omega) (by omega), wrap_id (by omega) (by omega), if_pos (by omega), if_pos (by omega), if_pos (by omega), show ((i : Int) - 1).toNat = i - 1 by omega, show ((i : Int) + 1).toNat = i + 1 by omega]
      rw [e2] at ev
      refine Ev.step ev ?_
      by_cases h2 : s.data.toList.getD (i - 1) 0 = 46 ∧ s.data.toList.getD i 0 = 46
      · rw [if_pos (by rw [decide_eq_true h0, decide_eq_true h2.1, decide_eq_true h2.2]; rfl)]
        exact Ev.congr (f := fun _ => some false) (fun k => by rw [if_pos (by rw [h2.1, h2.2])]) (Ev.now _)
      have h2' : ¬ ([s.data.toList.getD (i - 1) 0, s.data.toList.getD i 0] = ([46, 46] : List UInt8)) := fun h => h2 (by simpa using h)
      simp only [if_neg h2']
      by_cases h3 : s.data.toList.getD (i - 1) 0 = 64 ∧ s.data.toList.getD i 0 = 123
      · rw [if_pos (by rw [decide_eq_true h0, decide_eq_true h3.1, decide_eq_true h3.2]; simp)]
        exact Ev.congr (f := fun _ => some false) (fun k => by rw [if_pos (by rw [h3.1, h3.2])]) (Ev.now _)
      have h3' : ¬ ([s.data.toList.getD (i - 1) 0, s.data.toList.getD i 0] = ([64, 123] : List UInt8)) := fun h => h3 (by simpa using h)
      simp only [if_neg h3']
      rw [if_neg]
      · exact_mod_cast ih (i + 1) (by omega)
      · simp only [Bool.and_eq_true, Bool.or_eq_true, decide_eq_true_eq]
        rintro ⟨_, h | h⟩
        · exact h2 h
        · exact h3 h
    · rw [if_neg (by rw [decide_eq_false h0, Bool.false_and]; decide)]
      refine Ev.step (f := fun k => graftageref37_plain.l0 k s s.size ((i : Int) + 1)) (fun k => by rw [graftageref37_plain.l0, if_pos (by omega), if_pos (by omega), if_pos (by omega), hB, Option.bind_some, if_neg h1, if_neg (by omega), wrap_id (by omega) (by omega)]) ?_
      exact_mod_cast ih (i + 1) (by omega)
theorem plB_iff (s : ByteArray) : ∀ (d i : Nat), i + d = s.size → (plB s d i = true ↔ ∀ j, i ≤ j → j < s.size → barB (s.data.toList.getD j 0) = false ∧ (0 < j → ¬ (s.data.toList.getD (j - 1) 0 = 46 ∧ s.data.toList.getD j 0 = 46) ∧ ¬ (s.data.toList.getD (j - 1) 0 = 64 ∧ s.data.toList.getD j 0 = 123)))
  | 0, i, hi => by
    simp only [plB, true_iff]
    intro j h1 h2
    omega
  | d + 1, i, hi => by
    have ih := plB_iff s d (i + 1) (by omega)
    rw [plB]
    constructor
    · intro h j h1 h2
      split at h
      · cases h
      · rename_i hb
        split at h
        · cases h
        · rename_i hq
          by_cases e : j = i
          · subst e
            refine ⟨by simpa using hb, fun h0 => ?_⟩
            rw [decide_eq_true h0, Bool.true_and, Bool.not_eq_true, Bool.or_eq_false_iff, Bool.and_eq_false_iff, Bool.and_eq_false_iff, decide_eq_false_iff_not, decide_eq_false_iff_not, decide_eq_false_iff_not, decide_eq_false_iff_not] at hq
            exact ⟨fun hx => hq.1.elim (fun hh => hh hx.1) (fun hh => hh hx.2), fun hx => hq.2.elim (fun hh => hh hx.1) (fun hh => hh hx.2)⟩
          · exact ih.1 h j (by omega) h2
    · intro h
      obtain ⟨hb, hq⟩ := h i (Nat.le_refl _) (by omega)
      rw [if_neg (by rw [hb]; decide), if_neg]
      · exact ih.2 (fun j h1 h2 => h j (by omega) h2)
      · simp only [Bool.and_eq_true, Bool.or_eq_true, decide_eq_true_eq]
        rintro ⟨h0, hh | hh⟩
        · exact (hq h0).1 hh
        · exact (hq h0).2 hh
theorem two_at (s : ByteArray) (a b : UInt8) : Lib.contains s.data.toList [a, b] = true ↔ ∃ j, 0 < j ∧ j < s.size ∧ s.data.toList.getD (j - 1) 0 = a ∧ s.data.toList.getD j 0 = b := by
  rw [contains_two]
  have hl : s.data.toList.length = s.size := (Lib.size_eq s).symm
  constructor
  · rintro ⟨i, h1, h2⟩
    have hlt : i + 1 < s.size := by rw [← hl]; exact (List.getElem?_eq_some_iff.1 h2).1
    exact ⟨i + 1, by omega, hlt, by simp [List.getD, h1], by simp [List.getD, h2]⟩
  · rintro ⟨j, h0, hlt, h1, h2⟩
    refine ⟨j - 1, ?_, ?_⟩
    · rw [List.getElem?_eq_getElem (by omega), ← h1]; simp [List.getD, List.getElem?_eq_getElem (show j - 1 < s.data.toList.length by omega)]
    · rw [show j - 1 + 1 = j by omega, List.getElem?_eq_getElem (by omega), ← h2]; simp [List.getD, List.getElem?_eq_getElem (show j < s.data.toList.length by omega)]
theorem plain_is (s : ByteArray) : plB s s.size 0 = (!Lib.contains s.data.toList [46, 46] && (!Lib.contains s.data.toList [64, 123] && (!Lib.containsAny s.data.toList barC.data.toList && s.data.toList.all (fun b => decide (32 < b.toNat))))) := by
  have hl : s.data.toList.length = s.size := (Lib.size_eq s).symm
  rw [Bool.eq_iff_iff, plB_iff s s.size 0 (by omega)]
  simp only [Bool.and_eq_true, Bool.not_eq_true', ← Bool.not_eq_true, two_at, containsAny_any, List.any_eq_true, List.all_eq_true, decide_eq_true_eq, not_exists, not_and]
  constructor
  · intro h
    refine ⟨fun j h0 hj h1 h2 => (((h j (Nat.zero_le _) hj).2 h0).1 h1 h2), fun j h0 hj h1 h2 => (((h j (Nat.zero_le _) hj).2 h0).2 h1 h2), fun x hx hc => ?_, fun x hx => ?_⟩
    · obtain ⟨j, hj, rfl⟩ := List.mem_iff_getElem.1 hx
      have := (h j (Nat.zero_le _) (by omega)).1
      simp only [List.getD, List.getElem?_eq_getElem hj, Option.getD_some, barB, Bool.not_eq_true, Bool.or_eq_false_iff] at this
      rw [this.2] at hc; cases hc
    · obtain ⟨j, hj, rfl⟩ := List.mem_iff_getElem.1 hx
      have := (h j (Nat.zero_le _) (by omega)).1
      simp only [List.getD, List.getElem?_eq_getElem hj, Option.getD_some, barB, Bool.not_eq_true, Bool.or_eq_false_iff, decide_eq_false_iff_not] at this
      omega
  · rintro ⟨h1, h2, h3, h4⟩ j _ hj
    have hjl : j < s.data.toList.length := by omega
    have hmem : s.data.toList[j] ∈ s.data.toList := List.getElem_mem hjl
    refine ⟨?_, fun h0 => ⟨fun hx hy => h1 j h0 hj hx hy, fun hx hy => h2 j h0 hj hx hy⟩⟩
    simp only [List.getD, List.getElem?_eq_getElem hjl, Option.getD_some, barB, Bool.not_eq_true, Bool.or_eq_false_iff, decide_eq_false_iff_not]
    exact ⟨by have := h4 _ hmem; omega, by simpa using h3 _ hmem⟩
theorem refPart_bad (p : ByteArray) (h1 : 1 ≤ p.size) : (decide (bt p 0 = 46) || sufB p ⟨#[46, 108, 111, 99, 107]⟩) = badPart p := by
  unfold badPart
  congr 1
  have hl : p.data.toList.length = p.size := (Lib.size_eq p).symm
  have hb := bt_get p 0 (by omega)
  have hb' : bt p 0 = ((p.data.toList[0]'(by omega)).toNat : Int) := by exact_mod_cast hb
  unfold preB
  rw [show (⟨#[46]⟩ : ByteArray).size = 1 from rfl, decide_eq_true h1, Bool.true_and, hb', Lib.toList_data, Lib.extract_data, List.drop_zero, Nat.sub_zero, Lib.toList_data]
  have e : p.data.toList.take 1 = [p.data.toList[0]'(by omega)] := by
    rw [List.take_succ_eq_append_getElem (by omega), List.take_zero, List.nil_append]
  rw [e]
  by_cases hc : p.data.toList[0]'(by omega) = 46
  · rw [hc]; rfl
  · rw [decide_eq_false (fun h => hc (UInt8.toNat_inj.1 (by exact_mod_cast h)))]
    exact (beq_eq_false_iff_ne.2 (fun h => hc (List.cons.inj h).1)).symm
theorem refName_l0 (l : List ByteArray) (hl : ∀ p ∈ l, 1 ≤ p.size ∧ p.size ≤ 64) (hn : l.length ≤ 140737488351232) : ∀ (d i : Nat), i + d = l.length → Ev (fun k => graftageref37_Name.l0 k l l.length i) (!(l.drop i).any badPart) := by
  intro d
  induction d with
  | zero =>
    intro i hi
    rw [List.drop_of_length_le (by omega)]
    exact Ev.step (f := fun _ => some true) (fun k => by rw [graftageref37_Name.l0, if_neg (by omega)]) (Ev.now _)
  | succ d ih =>
    intro i hi
    have hlt : i < l.length := by omega
    obtain ⟨h1, h64⟩ := hl _ (List.getElem_mem hlt)
    have hbad := refPart_bad l[i] h1
    rw [List.drop_eq_getElem_cons hlt, List.any_cons, ← hbad, Bool.or_assoc, Bool.not_or, Bool.not_or]
    have hst : ∀ k, graftageref37_Name.l0 (k + 1) l l.length i = (if (bt l[i] 0) = 46 then (some false) else (if sufB l[i] ⟨#[46, 108, 111, 99, 107]⟩ = true then (some false) else (graftageref37_Name.l0 k l l.length ((i : Int) + 1)))) := fun k => by
      rw [graftageref37_Name.l0, if_pos (by omega), if_pos (by omega), if_pos (by omega), rd_ext l i hlt, if_pos (by omega), ends_is _ _ (by omega), Option.bind_some, wrap_id (by omega) (by omega)]
    refine Ev.step hst (ev_iff (fun h => ?_) (fun h => ?_))
    · rw [decide_eq_true h]; exact Ev.now _
    · rw [decide_eq_false h, Bool.not_false, Bool.true_and]
      refine ev_iff (fun h2 => ?_) (fun h2 => ?_)
      · rw [h2]; exact Ev.now _
      · have : sufB l[i] ⟨#[46, 108, 111, 99, 107]⟩ = false := by simpa using h2
        rw [this, Bool.not_false, Bool.true_and]
        exact_mod_cast ih (i + 1) (by omega)
theorem refName_ev (s : ByteArray) (hs : s.size ≤ 4294967280) : Ev (fun k => graftageref37_Name.f k s) (nameB s) := by
  unfold nameB
  refine ev_iff (fun h => ?_) (fun h => ?_)
  · rw [decide_eq_true h, Bool.true_or]; exact Ev.now _
  rw [decide_eq_false h, Bool.false_or]
  have hF : Ev (fun k => graftageref37_Name.j0 k s true) false := Ev.step (f := fun _ => some false) (fun k => by rw [graftageref37_Name.j0, if_pos rfl]) (Ev.now _)
  have hN : nameIn s = (preB s ⟨#[114, 101, 102, 115, 47]⟩ && (isPath s && (plB s s.size 0 && !(pathParts s).any badPart))) := by
    rw [plain_is]
    unfold nameIn
    cases isPath s <;> cases preB s ⟨#[114, 101, 102, 115, 47]⟩ <;> simp [Bool.and_assoc]
  rw [hN]
  simp only [begins_is, Option.bind_some]
  by_cases h1 : preB s ⟨#[114, 101, 102, 115, 47]⟩ = true
  case neg =>
    have : preB s ⟨#[114, 101, 102, 115, 47]⟩ = false := by simpa using h1
    rw [this]
    simp only [Bool.false_eq_true, if_false, Bool.false_and]
    exact hF
  rw [h1, Bool.true_and]
  simp only [if_true]
  refine Ev.bind (ref_Is_ev s hs) ?_
  by_cases hp : isPath s = true
  case neg =>
    have : isPath s = false := by simpa using hp
    rw [this]
    simp only [Bool.false_eq_true, if_false, Bool.false_and]
    exact hF
  rw [hp, Bool.true_and]
  simp only [if_true]
  have hsz := isPath_size hp
  have hpl : Ev (fun k => graftageref37_plain.f k s) (plB s s.size 0) := by have := plain_l0 s (by omega) s.size 0 (by omega); exact_mod_cast this
  refine Ev.bind hpl ?_
  by_cases h2 : plB s s.size 0 = true
  case neg =>
    have : plB s s.size 0 = false := by simpa using h2
    rw [this, Bool.not_false, Bool.false_and]
    exact hF
  rw [h2, Bool.not_true, Bool.true_and]
  refine Ev.step (f := fun k => (graftageref06_Parts.f k s).bind fun t214 => graftageref37_Name.l0 k t214 (t214.length : Int) 0) (fun k => by rw [graftageref37_Name.j0, if_neg (by decide)]) ?_
  refine Ev.bind (ref_Parts_ev s hs) ?_
  have hlen := pathParts_len (s := s)
  have := refName_l0 (pathParts s) (isPath_parts hp) (by omega) (pathParts s).length 0 (by omega)
  rw [List.drop_zero] at this
  exact_mod_cast this
end Go.Proofs.YtccbpbdfihnlgaaDoor.Q


/- Within: both functions tell the same. -/
namespace Go.Proofs.YtccbpbdfihnlgaaDoor.Q
open Go.RowKit Go.Proofs.YtccbpbdfihnlgaaDoorW.PrintWords Go.Proofs.YtccbpbdfihnlgaaDoorW.PrintLast Go.Proofs.YtccbpbdfihnlgaaDoorW.PrintMore
def withinB (a b : ByteArray) : Bool := if a.toList = [] then b.toList != [] else decide (a.size + 1 < b.size) && ((b.extract 0 a.size).toList == a.toList && bt b a.size == 47)
theorem path_Within_eq (a b : ByteArray) (ha : a.size ≤ 140737488351232) : path_Within.f a b = some (withinB a b) := by
  unfold path_Within.f withinB
  by_cases h : a.toList = []
  · rw [if_pos h, if_pos h]
  · rw [if_neg h, if_neg h, wrap_id (by omega) (by omega)]
    by_cases h1 : a.size + 1 < b.size
    · rw [if_pos (by omega), if_pos (by omega), if_pos (by omega)]
      by_cases h2 : bt b a.size = 47
      · rw [if_pos h2, if_pos (by omega)]; simp [h1, h2]
      · rw [if_neg h2]; simp [h2]
    · rw [if_neg (by omega)]; simp [h1]
theorem ref_Within_eq (a b : ByteArray) (ha : a.size ≤ 140737488351232) : graftageref06_Within.f a b = some (withinB a b) := by
  unfold graftageref06_Within.f withinB
  by_cases h : a.toList = []
  · rw [if_pos h, if_pos h]
  · rw [if_neg h, if_neg h, wrap_id (by omega) (by omega)]
    by_cases h1 : a.size + 1 < b.size
    · rw [if_pos (by omega), if_pos (by omega), if_pos (by omega)]
      by_cases h2 : (b.extract 0 a.size).toList = a.toList
      · rw [if_pos h2, if_pos (by omega)]; simp [h1, h2]
      · rw [if_neg h2]; simp [h2]
    · rw [if_neg (by omega)]; simp [h1]
end Go.Proofs.YtccbpbdfihnlgaaDoor.Q


/- Meet: the two loops go alike, and end. -/
namespace Go.Proofs.YtccbpbdfihnlgaaDoor.Q
open Go.RowKit Go.Proofs.YtccbpbdfihnlgaaDoorW.PrintWords Go.Proofs.YtccbpbdfihnlgaaDoorW.PrintLast Go.Proofs.YtccbpbdfihnlgaaDoorW.PrintMore

theorem meet_same (l : List ByteArray) (hl : ∀ x ∈ l, x.size ≤ 140737488351232) (hn : l.length ≤ 140737488351232) : ∀ k : Nat,
    (∀ i : Nat, i ≤ l.length → path_Meet.l0 k l l l.length i = graftageref06_Meet.l0 k l i) ∧
    (∀ i j : Nat, i < l.length → j ≤ l.length → path_Meet.l1 k l i (rdOf ByteArray.empty l i) j l l.length i = graftageref06_Meet.l1 k l i j) := by
  intro k
  induction k with
  | zero => exact ⟨fun _ _ => by simp [path_Meet.l0, graftageref06_Meet.l0], fun _ _ _ _ => by simp [path_Meet.l1, graftageref06_Meet.l1]⟩
  | succ k ih =>
    refine ⟨fun i hi => ?_, fun i j hi hj => ?_⟩
    · simp only [path_Meet.l0, graftageref06_Meet.l0]
      by_cases h : i < l.length
      · rw [if_pos (by omega), if_pos (by omega), if_pos (by omega), if_pos (by omega), wrap_id (by omega) (by omega)]
        exact ih.2 i (i + 1) h (by omega)
      · rw [if_neg (by omega), if_neg (by omega)]
    · simp only [path_Meet.l1, graftageref06_Meet.l1]
      by_cases h : j < l.length
      · have e1 : (j : Int) < (l.length : Int) := by omega
        have e2 : (0 : Int) ≤ (j : Int) := by omega
        have e3 : (0 : Int) ≤ (i : Int) := by omega
        have e4 : (i : Int) < (l.length : Int) := by omega
        simp only [if_pos e1, if_pos e2, if_pos e3, if_pos e4]
        by_cases he : (rdOf ByteArray.empty l i).toList = (rdOf ByteArray.empty l j).toList
        · simp only [if_pos he]
        · simp only [if_neg he]
          have hi' : (rdOf ByteArray.empty l i).size ≤ 140737488351232 := by rw [rd_ext l i hi]; exact hl _ (List.getElem_mem hi)
          have hj' : (rdOf ByteArray.empty l j).size ≤ 140737488351232 := by rw [rd_ext l j h]; exact hl _ (List.getElem_mem h)
          rw [path_Within_eq _ _ hi', ref_Within_eq _ _ hi', path_Within_eq _ _ hj', ref_Within_eq _ _ hj']
          simp only [Option.bind_some]
          rw [wrap_id (by omega) (by omega)]
          have := ih.2 i (j + 1) hi (by omega)
          rw [show ((j : Int) + 1) = ((j + 1 : Nat) : Int) by omega, this]
      · rw [if_neg (by omega), if_neg (by omega), wrap_id (by omega) (by omega)]
        exact ih.1 (i + 1) (by omega)
theorem meet_ends (l : List ByteArray) (hl : ∀ x ∈ l, x.size ≤ 140737488351232) (hn : l.length ≤ 140737488351232) : ∀ (d i : Nat), i + d = l.length →
    (∃ k r, graftageref06_Meet.l0 k l i = some r) ∧ (∀ (e j : Nat), j + e = l.length → i < l.length → ∃ k r, graftageref06_Meet.l1 k l i j = some r) := by
  intro d
  induction d with
  | zero =>
    intro i hi
    refine ⟨⟨1, (0, 0, false), ?_⟩, fun e j hj h => by omega⟩
    simp only [graftageref06_Meet.l0]
    rw [if_neg (by omega)]
  | succ d ih =>
    intro i hi
    have key : ∀ (e j : Nat), j + e = l.length → i < l.length → ∃ k r, graftageref06_Meet.l1 k l i j = some r := by
      intro e
      induction e with
      | zero =>
        intro j hj h
        obtain ⟨⟨k, r, hk⟩, _⟩ := ih (i + 1) (by omega)
        refine ⟨k + 1, r, ?_⟩
        simp only [graftageref06_Meet.l1]
        rw [if_neg (by omega), wrap_id (by omega) (by omega)]
        exact hk
      | succ e ihe =>
        intro j hj h
        obtain ⟨k, r, hk⟩ := ihe (j + 1) (by omega) h
        have hi' : (rdOf ByteArray.empty l i).size ≤ 140737488351232 := by rw [rd_ext l i h]; exact hl _ (List.getElem_mem h)
        have hj' : (rdOf ByteArray.empty l j).size ≤ 140737488351232 := by rw [rd_ext l j (by omega)]; exact hl _ (List.getElem_mem (by omega))
        by_cases he : (rdOf ByteArray.empty l i).toList = (rdOf ByteArray.empty l j).toList
        · refine ⟨k + 1, (i, j, true), ?_⟩
          simp only [graftageref06_Meet.l1]
          rw [if_pos (by omega), if_pos (by omega), if_pos (by omega), if_pos (by omega), if_pos he]
        · by_cases h1 : withinB (rdOf ByteArray.empty l i) (rdOf ByteArray.empty l j) = true
          · refine ⟨k + 1, (i, j, true), ?_⟩
            simp only [graftageref06_Meet.l1]
            rw [if_pos (by omega), if_pos (by omega), if_pos (by omega), if_pos (by omega), if_neg he, ref_Within_eq _ _ hi']
            simp only [Option.bind_some]
            rw [if_pos h1]
          · by_cases h2 : withinB (rdOf ByteArray.empty l j) (rdOf ByteArray.empty l i) = true
            · refine ⟨k + 1, (i, j, true), ?_⟩
              simp only [graftageref06_Meet.l1]
              rw [if_pos (by omega), if_pos (by omega), if_pos (by omega), if_pos (by omega), if_neg he, ref_Within_eq _ _ hi', ref_Within_eq _ _ hj']
              simp only [Option.bind_some]
              rw [if_neg h1, if_pos h2]
            · refine ⟨k + 1, r, ?_⟩
              simp only [graftageref06_Meet.l1]
              rw [if_pos (by omega), if_pos (by omega), if_pos (by omega), if_pos (by omega), if_neg he, ref_Within_eq _ _ hi', ref_Within_eq _ _ hj']
              simp only [Option.bind_some]
              rw [if_neg h1, if_neg h2, wrap_id (by omega) (by omega)]
              exact hk
    refine ⟨?_, key⟩
    obtain ⟨k, r, hk⟩ := key (l.length - (i + 1)) (i + 1) (by omega) (by omega)
    refine ⟨k + 1, r, ?_⟩
    simp only [graftageref06_Meet.l0]
    rw [if_pos (by omega), wrap_id (by omega) (by omega)]
    exact hk
theorem meet_ev (l : List ByteArray) (hl : ∀ x ∈ l, x.size ≤ 140737488351232) (hn : l.length ≤ 140737488351232) : ∃ r, Ev (fun k => path_Meet.f k l) r ∧ Ev (fun k => graftageref06_Meet.f k l) r := by
  obtain ⟨⟨k, r, hk⟩, _⟩ := meet_ends l hl hn l.length 0 (by omega)
  refine ⟨r, Ev.of (fun k => path_Meet.mono l k) (k := k) ?_, Ev.of (fun k => graftageref06_Meet.mono l k) (k := k) hk⟩
  exact ((meet_same l hl hn k).1 0 (by omega)).trans hk

end Go.Proofs.YtccbpbdfihnlgaaDoor.Q


/- Refs: what bars a list; both functions tell the same. -/
namespace Go.Proofs.YtccbpbdfihnlgaaDoor.Q
open Go.RowKit Go.Proofs.YtccbpbdfihnlgaaDoorW.PrintWords Go.Proofs.YtccbpbdfihnlgaaDoorW.PrintLast Go.Proofs.YtccbpbdfihnlgaaDoorW.PrintMore
def at55 (l : List S55) (i : Nat) : S55 := rd_T55 l i
theorem at55_get (l : List S55) (i : Nat) (h : i < l.length) : at55 l i = l[i] := by
  unfold at55 rd_T55
  simp [List.getD, List.getElem?_eq_getElem h]
theorem lt_tri : ∀ a b : List UInt8, a < b ∨ a = b ∨ b < a
  | [], [] => .inr (.inl rfl)
  | [], y :: q => .inl (List.nil_lt_cons y q)
  | x :: r, [] => .inr (.inr (List.nil_lt_cons x r))
  | x :: r, y :: q => by
    rcases Nat.lt_trichotomy x.toNat y.toNat with h | h | h
    · exact .inl (List.cons_lt_cons_iff.2 (.inl (UInt8.lt_iff_toNat_lt.2 h)))
    · obtain rfl := UInt8.toNat_inj.1 h
      rcases lt_tri r q with h | h | h
      · exact .inl (List.cons_lt_cons_iff.2 (.inr ⟨rfl, h⟩))
      · exact .inr (.inl (by rw [h]))
      · exact .inr (.inr (List.cons_lt_cons_iff.2 (.inr ⟨rfl, h⟩)))
    · exact .inr (.inr (List.cons_lt_cons_iff.2 (.inl (UInt8.lt_iff_toNat_lt.2 h))))
theorem less_or_eq (a b : List UInt8) : (Op.bytesLess b a || (b == a)) = !Op.bytesLess a b := by
  rw [Go.Proofs.bytesLess_eq, Go.Proofs.bytesLess_eq]
  rcases lt_tri a b with h | h | h
  · have h1 : ¬ b < a := fun h2 => List.lt_irrefl _ (List.lt_trans h h2)
    have h2 : ¬ b = a := fun h2 => List.lt_irrefl _ (h2 ▸ h)
    rw [decide_eq_true h, decide_eq_false h1]
    simpa using h2
  · subst h
    rw [decide_eq_false (List.lt_irrefl a)]
    simp
  · have h1 : ¬ a < b := fun h2 => List.lt_irrefl _ (List.lt_trans h h2)
    rw [decide_eq_true h, decide_eq_false h1]
    rfl
theorem nameB_nil {s : ByteArray} (h : s.toList = []) : nameB s = false := by
  unfold nameB nameIn isPath
  simp [h]
def wholeB (r : S55) : Bool := if r.f2.toList = [] then idOk r.f1 else (decide (r.f1.toList = []) && nameB r.f2)
def chkR (r : S55) : Int := if nameB r.f0 = true then (if wholeB r = true then 0 else 1) else 370
theorem check_ev (r : S55) : Ev (fun k => refs_check.f k r.f0 r.f1 r.f2) (chkR r) := by
  refine Ev.bind (Name_ev r.f0) ?_
  unfold chkR
  refine ev_iff (fun h => ?_) (fun h => ?_)
  rotate_left
  · rw [if_neg h]; exact Ev.now _
  rw [if_pos h]
  unfold wholeB
  refine ev_iff (fun h2 => ?_) (fun h2 => ?_)
  · rw [if_pos h2]
    refine Ev.bind (ident_Is_ev r.f1) ?_
    by_cases h3 : idOk r.f1 = true
    · rw [if_pos h3, h3]
      exact Ev.step (f := fun _ => some 0) (fun k => by rw [refs_check.j0, if_pos rfl]) (Ev.now _)
    · rw [if_neg h3]
      have h3' : idOk r.f1 = false := by simpa using h3
      rw [h3']
      refine Ev.step (f := fun k => if r.f1.toList = ([] : List UInt8) then ((refs_Name.f k r.f2).bind fun t104 => (if t104 = true then (some 0) else (some 1))) else (some 1)) (fun k => by rw [refs_check.j0, if_neg (by decide)]) ?_
      refine ev_iff (fun h4 => ?_) (fun h4 => Ev.now _)
      refine Ev.bind (Name_ev r.f2) ?_
      rw [nameB_nil h2]
      exact Ev.now _
  · rw [if_neg h2]
    refine Ev.step (f := fun k => if r.f1.toList = ([] : List UInt8) then ((refs_Name.f k r.f2).bind fun t104 => (if t104 = true then (some 0) else (some 1))) else (some 1)) (fun k => by rw [refs_check.j0, if_neg (by decide)]) ?_
    refine ev_iff (fun h4 => ?_) (fun h4 => ?_)
    · rw [decide_eq_true h4, Bool.true_and]
      refine Ev.bind (Name_ev r.f2) ?_
      refine ev_iff (fun h5 => ?_) (fun h5 => ?_)
      · rw [if_pos h5]; exact Ev.now _
      · rw [if_neg h5]; exact Ev.now _
    · rw [decide_eq_false h4, Bool.false_and, if_neg (by decide)]; exact Ev.now _
theorem whole_ev (r : S55) (hs : r.f2.size ≤ 4294967280) : Ev (fun k => graftageref37_whole.f k r.f0 r.f1 r.f2) (wholeB r) := by
  unfold wholeB
  refine ev_iff (fun h => ?_) (fun h => ?_)
  · rw [if_pos h]; exact Ev.bind (ref_idIs_ev r.f1) (Ev.now _)
  · rw [if_neg h]
    refine ev_iff (fun h2 => ?_) (fun h2 => ?_)
    · rw [decide_eq_true h2, Bool.true_and]; exact Ev.bind (refName_ev r.f2 hs) (Ev.now _)
    · rw [decide_eq_false h2, Bool.false_and]; exact Ev.now _
theorem names_ev (l : List S55) (hn : l.length ≤ 1000000) : Ev (fun k => refs_names.f k l) (l.map (·.f0)) := by
  have key : ∀ (d i : Nat) (acc : List ByteArray), i + d = l.length → acc = (l.take i).map (·.f0) → Ev (fun k => refs_names.l0 k acc l l.length i) (l.map (·.f0)) := by
    intro d
    induction d with
    | zero =>
      intro i acc hi ha
      have : acc = l.map (·.f0) := by rw [ha, List.take_of_length_le (by omega)]
      exact Ev.step (f := fun _ => some acc) (fun k => by rw [refs_names.l0, if_neg (by omega)]) (this ▸ Ev.now _)
    | succ d ih =>
      intro i acc hi ha
      have hlt : i < l.length := by omega
      have hal : acc.length = i := by rw [ha, List.length_map, List.length_take]; omega
      have e0 : rd_T55 l (i : Int) = at55 l i := rfl
      refine Ev.step (f := fun k => refs_names.l0 k (acc ++ [(at55 l i).f0]) l l.length ((i : Int) + 1)) (fun k => by rw [refs_names.l0, if_pos (by omega), if_pos (by omega), if_pos (by omega), e0, if_pos (show acc.length < 8796093022208 by omega), wrap_id (by omega) (by omega)]) ?_
      exact_mod_cast ih (i + 1) _ (by omega) (by rw [ha, List.take_succ_eq_append_getElem hlt, List.map_append, at55_get l i hlt]; rfl)
  have := key l.length 0 [] (by omega) rfl
  exact_mod_cast this
theorem ref_names_ev (l : List S55) (hn : l.length ≤ 1000000) : Ev (fun k => graftageref37_names.f k l) (l.map (·.f0)) := by
  have key : ∀ (d i : Nat) (acc : List ByteArray), i + d = l.length → acc = (l.take i).map (·.f0) → Ev (fun k => graftageref37_names.l0 k l acc l.length i) (l.map (·.f0)) := by
    intro d
    induction d with
    | zero =>
      intro i acc hi ha
      have : acc = l.map (·.f0) := by rw [ha, List.take_of_length_le (by omega)]
      exact Ev.step (f := fun _ => some acc) (fun k => by rw [graftageref37_names.l0, if_neg (by omega)]) (this ▸ Ev.now _)
    | succ d ih =>
      intro i acc hi ha
      have hlt : i < l.length := by omega
      have hal : acc.length = i := by rw [ha, List.length_map, List.length_take]; omega
      have e0 : rd_T55 l (i : Int) = at55 l i := rfl
      refine Ev.step (f := fun k => graftageref37_names.l0 k l (acc ++ [(at55 l i).f0]) l.length ((i : Int) + 1)) (fun k => by rw [graftageref37_names.l0, if_pos (by omega), if_pos (by omega), if_pos (by omega), e0, if_pos (show acc.length < 8796093022208 by omega), wrap_id (by omega) (by omega)]) ?_
      exact_mod_cast ih (i + 1) _ (by omega) (by rw [ha, List.take_succ_eq_append_getElem hlt, List.map_append, at55_get l i hlt]; rfl)
  have := key l.length 0 [] (by omega) rfl
  exact_mod_cast this
def ltN (l : List S55) (i : Nat) : Bool := Op.bytesLess (at55 l (i - 1)).f0.toList (at55 l i).f0.toList
def cRF (l : List S55) (fin : Int) : Nat → Nat → Int
  | 0, _ => fin
  | d + 1, i => if chkR (at55 l i) = 0 then (if (decide (0 < i) && !ltN l i) = true then 150 else cRF l fin d (i + 1)) else chkR (at55 l i)
theorem cRF_zero (l : List S55) (fin : Int) : ∀ (d i : Nat), cRF l fin d i = 0 → fin = 0 ∧ ∀ j, i ≤ j → j < i + d → chkR (at55 l j) = 0 ∧ (0 < j → ltN l j = true)
  | 0, i, h => ⟨h, fun j h1 h2 => by omega⟩
  | d + 1, i, h => by
    rw [cRF] at h
    split at h
    · rename_i hc
      split at h
      · cases h
      · rename_i hq
        obtain ⟨h1, h2⟩ := cRF_zero l fin d (i + 1) h
        refine ⟨h1, fun j hj hl => ?_⟩
        by_cases e : j = i
        · subst e
          refine ⟨hc, fun h0 => ?_⟩
          rw [decide_eq_true h0, Bool.true_and] at hq
          simpa using hq
        · exact h2 j (by omega) (by omega)
    · rename_i hc; exact absurd h hc
theorem Check_l0 (l : List S55) (hn : l.length ≤ 1000000) (fin : Int) (hfin : Ev (fun k => (refs_names.f k l).bind fun t115 => ((path_Meet.f k t115).bind fun bt118 => (if bt118.2.2 = true then (some (61 : Int)) else (some 0)))) fin) : ∀ (d i : Nat), i + d = l.length → Ev (fun k => refs_Check.l0 k l l l.length i) (cRF l fin d i) := by
  intro d
  induction d with
  | zero =>
    intro i hi
    exact Ev.step (f := fun k => (refs_names.f k l).bind fun t115 => ((path_Meet.f k t115).bind fun bt118 => (if bt118.2.2 = true then (some (61 : Int)) else (some 0)))) (fun k => by rw [refs_Check.l0, if_neg (by omega)]) hfin
  | succ d ih =>
    intro i hi
    have e0 : rd_T55 l (i : Int) = at55 l i := rfl
    rw [cRF]
    have hst : ∀ k, refs_Check.l0 (k + 1) l l l.length i = ((refs_check.f k (at55 l i).f0 (at55 l i).f1 (at55 l i).f2).bind fun t113 => (if t113 = 0 then (if (i : Int) > 0 then (if 0 ≤ (wrap64 ((i : Int) - 1)) then (if (wrap64 ((i : Int) - 1)) < (l.length : Int) then (if ((Op.bytesLess (((rd_T55 l (wrap64 ((i : Int) - 1))).f0).toList) (((at55 l i).f0).toList)) = true) then (refs_Check.l0 k l l l.length (wrap64 ((i : Int) + 1))) else (some 150)) else (none)) else (none)) else (refs_Check.l0 k l l l.length (wrap64 ((i : Int) + 1)))) else (some t113))) := fun k => by
      rw [refs_Check.l0, if_pos (by omega), if_pos (by omega), if_pos (by omega), e0]
    refine Ev.step hst (Ev.bind (check_ev (at55 l i)) ?_)
    rw [wrap_id (x := (i : Int) + 1) (by omega) (by omega), wrap_id (x := (i : Int) - 1) (by omega) (by omega)]
    refine ev_iff (fun h => ?_) (fun h => ?_)
    rotate_left
    · rw [if_neg h]; exact Ev.now _
    rw [if_pos h]
    have hnext : Ev (fun k => refs_Check.l0 k l l l.length ((i : Int) + 1)) (cRF l fin d (i + 1)) := by exact_mod_cast ih (i + 1) (by omega)
    by_cases h0 : 0 < i
    · rw [decide_eq_true h0, Bool.true_and]
      have e1 : rd_T55 l ((i : Int) - 1) = at55 l (i - 1) := by rw [show (i : Int) - 1 = ((i - 1 : Nat) : Int) by omega]; rfl
      refine Ev.congr (f := fun k => if ltN l i = true then refs_Check.l0 k l l l.length ((i : Int) + 1) else some 150) (fun k => by rw [if_pos (by omega), if_pos (by omega), if_pos (by omega), e1]; rfl) ?_
      refine ev_iff (fun h2 => ?_) (fun h2 => ?_)
      · rw [h2]; exact hnext
      · have : ltN l i = false := by simpa using h2
        rw [this]; exact Ev.now _
    · rw [decide_eq_false h0, Bool.false_and, if_neg (by decide)]
      exact Ev.congr (f := fun k => refs_Check.l0 k l l l.length ((i : Int) + 1)) (fun k => by rw [if_neg (by omega)]) hnext
theorem refCheck_l0 (l : List S55) (hs : ∀ x ∈ l, x.f0.size ≤ 4294967280 ∧ x.f2.size ≤ 4294967280) (hn : l.length ≤ 1000000) (fin : Int) (hfin : Ev (fun k => (graftageref37_names.f k l).bind fun t107 => ((graftageref06_Meet.f k t107).bind fun bt110 => (if bt110.2.2 = true then (some (61 : Int)) else (some 0)))) fin) : ∀ (d i : Nat), i + d = l.length → Ev (fun k => graftageref37_Check.l0 k l l.length i) (cRF l fin d i) := by
  intro d
  induction d with
  | zero =>
    intro i hi
    exact Ev.step (f := fun k => (graftageref37_names.f k l).bind fun t107 => ((graftageref06_Meet.f k t107).bind fun bt110 => (if bt110.2.2 = true then (some (61 : Int)) else (some 0)))) (fun k => by rw [graftageref37_Check.l0, if_neg (by omega)]) hfin
  | succ d ih =>
    intro i hi
    have hlt : i < l.length := by omega
    have hmem : at55 l i ∈ l := by rw [at55_get _ _ hlt]; exact List.getElem_mem hlt
    have e0 : rd_T55 l (i : Int) = at55 l i := rfl
    rw [cRF]
    have hst : ∀ k, graftageref37_Check.l0 (k + 1) l l.length i = ((graftageref37_Name.f k ((at55 l i).f0)).bind fun t102 => (if t102 = true then ((graftageref37_whole.f k ((at55 l i).f0) ((at55 l i).f1) ((at55 l i).f2)).bind fun t104 => (if t104 = true then (if (i : Int) > 0 then (if 0 ≤ (wrap64 ((i : Int) - 1)) then (if (wrap64 ((i : Int) - 1)) < (l.length : Int) then (if (Op.bytesLess (((at55 l i).f0).toList) (((rd_T55 l (wrap64 ((i : Int) - 1))).f0).toList) || (((at55 l i).f0).toList == ((rd_T55 l (wrap64 ((i : Int) - 1))).f0).toList)) = true then (some 150) else (graftageref37_Check.l0 k l l.length (wrap64 ((i : Int) + 1)))) else (none)) else (none)) else (graftageref37_Check.l0 k l l.length (wrap64 ((i : Int) + 1)))) else (some 1))) else (some 370))) := fun k => by
      rw [graftageref37_Check.l0, if_pos (by omega), if_pos (by omega), if_pos (by omega), e0]
    refine Ev.step hst (Ev.bind (refName_ev _ (hs _ hmem).1) ?_)
    rw [wrap_id (x := (i : Int) + 1) (by omega) (by omega), wrap_id (x := (i : Int) - 1) (by omega) (by omega)]
    unfold chkR
    refine ev_iff (fun h => ?_) (fun h => ?_)
    rotate_left
    · rw [if_neg h, if_neg (by decide)]; exact Ev.now _
    rw [if_pos h]
    refine Ev.bind (whole_ev _ (hs _ hmem).2) ?_
    refine ev_iff (fun h1 => ?_) (fun h1 => ?_)
    rotate_left
    · rw [if_neg h1, if_neg (by decide)]; exact Ev.now _
    rw [if_pos h1, if_pos rfl]
    have hnext : Ev (fun k => graftageref37_Check.l0 k l l.length ((i : Int) + 1)) (cRF l fin d (i + 1)) := by exact_mod_cast ih (i + 1) (by omega)
    by_cases h0 : 0 < i
    · rw [decide_eq_true h0, Bool.true_and]
      have e1 : rd_T55 l ((i : Int) - 1) = at55 l (i - 1) := by rw [show (i : Int) - 1 = ((i - 1 : Nat) : Int) by omega]; rfl
      refine Ev.congr (f := fun k => if (!ltN l i) = true then some 150 else graftageref37_Check.l0 k l l.length ((i : Int) + 1)) (fun k => by rw [if_pos (by omega), if_pos (by omega), if_pos (by omega), e1, less_or_eq]; rfl) ?_
      exact ev_iff (fun h2 => by rw [if_pos h2]; exact Ev.now _) (fun h2 => by rw [if_neg h2]; exact hnext)
    · rw [decide_eq_false h0, Bool.false_and, if_neg (by decide)]
      exact Ev.congr (f := fun k => graftageref37_Check.l0 k l l.length ((i : Int) + 1)) (fun k => by rw [if_neg (by omega)]) hnext
theorem Check_both (l : List S55) (hs : l.length ≤ 1024 → ∀ x ∈ l, x.f0.size ≤ 4294967280 ∧ x.f2.size ≤ 4294967280) : ∃ c, Ev (fun k => refs_Check.f k l) c ∧ Ev (fun k => graftageref37_Check.f k l) c ∧ (c = 0 → l.length ≤ 1024 ∧ ∀ r ∈ l, chkR r = 0) := by
  by_cases hl : (l.length : Int) > 1024
  · exact ⟨4, Ev.congr (f := fun _ => some 4) (fun k => by unfold refs_Check.f; rw [if_pos hl]) (Ev.now _), Ev.congr (f := fun _ => some 4) (fun k => by unfold graftageref37_Check.f; rw [if_pos hl]) (Ev.now _), fun h => by cases h⟩
  have hsz := hs (by omega)
  obtain ⟨m, h1, h2⟩ := meet_ev (l.map (·.f0)) (fun x hx => by obtain ⟨r, hr, rfl⟩ := List.mem_map.1 hx; have := (hsz r hr).1; omega) (by rw [List.length_map]; omega)
  have hf1 : Ev (fun k => (refs_names.f k l).bind fun t115 => ((path_Meet.f k t115).bind fun bt118 => (if bt118.2.2 = true then (some (61 : Int)) else (some 0)))) (if m.2.2 = true then 61 else 0) := Ev.bind (names_ev l (by omega)) (Ev.bind h1 (ev_iff (fun h => by rw [if_pos h]; exact Ev.now _) (fun h => by rw [if_neg h]; exact Ev.now _)))
  have hf2 : Ev (fun k => (graftageref37_names.f k l).bind fun t115 => ((graftageref06_Meet.f k t115).bind fun bt118 => (if bt118.2.2 = true then (some (61 : Int)) else (some 0)))) (if m.2.2 = true then 61 else 0) := Ev.bind (ref_names_ev l (by omega)) (Ev.bind h2 (ev_iff (fun h => by rw [if_pos h]; exact Ev.now _) (fun h => by rw [if_neg h]; exact Ev.now _)))
  have e1 := Check_l0 l (by omega) _ hf1 l.length 0 (by omega)
  have e2 := refCheck_l0 l hsz (by omega) _ hf2 l.length 0 (by omega)
  refine ⟨_, Ev.congr (fun k => by unfold refs_Check.f; rw [if_neg hl]) (by exact_mod_cast e1), Ev.congr (fun k => by unfold graftageref37_Check.f; rw [if_neg hl]) (by exact_mod_cast e2), fun h => ⟨by omega, fun r hr => ?_⟩⟩
  obtain ⟨j, hj, rfl⟩ := List.mem_iff_getElem.1 hr
  have := ((cRF_zero l _ _ _ h).2 j (by omega) (by omega)).1
  rwa [at55_get l j hj] at this
/-! ### Few and Same -/
def fewR (l : List S55) : Nat → Nat → Bool
  | 0, _ => decide (l.length ≤ 40)
  | d + 1, i => if ((at55 l i).f0.size + (at55 l i).f1.size + (at55 l i).f2.size : Nat) > 1000 then false else fewR l d (i + 1)
theorem Few_ev (l : List S55) (hs : ∀ x ∈ l, x.f0.size ≤ 140737488351232 ∧ x.f1.size ≤ 140737488351232 ∧ x.f2.size ≤ 140737488351232) (hn : l.length ≤ 140737488351232) : Ev (fun k => graftageref37_Few.f k l) (fewR l l.length 0) := by
  have key : ∀ (d i : Nat), i + d = l.length → Ev (fun k => graftageref37_Few.l0 k l l.length i) (fewR l d i) := by
    intro d
    induction d with
    | zero =>
      intro i hi
      refine Ev.step (f := fun _ => some (decide ((l.length : Int) ≤ 40))) (fun k => by rw [graftageref37_Few.l0, if_neg (by omega)]) ?_
      have : decide ((l.length : Int) ≤ 40) = decide (l.length ≤ 40) := by rw [Bool.eq_iff_iff, decide_eq_true_eq, decide_eq_true_eq]; omega
      rw [this]; exact Ev.now _
    | succ d ih =>
      intro i hi
      have hlt : i < l.length := by omega
      have e0 : rd_T55 l (i : Int) = at55 l i := rfl
      obtain ⟨a1, a2, a3⟩ := hs (at55 l i) (by rw [at55_get _ _ hlt]; exact List.getElem_mem hlt)
      rw [fewR]
      refine Ev.step (f := fun k => if ((at55 l i).f0.size : Int) + ((at55 l i).f1.size : Int) + ((at55 l i).f2.size : Int) > 1000 then some false else graftageref37_Few.l0 k l l.length ((i : Int) + 1)) (fun k => by rw [graftageref37_Few.l0, if_pos (by omega), if_pos (by omega), if_pos (by omega), e0, wrap_id (x := ((at55 l i).f0.size : Int) + _) (by omega) (by omega), wrap_id (by omega) (by omega), wrap_id (by omega) (by omega)]) ?_
      refine ev_iff (fun h => ?_) (fun h => ?_)
      · rw [if_pos (by omega)]; exact Ev.now _
      · rw [if_neg (by omega)]; exact_mod_cast ih (i + 1) (by omega)
  have := key l.length 0 (by omega)
  exact_mod_cast this
end Go.Proofs.YtccbpbdfihnlgaaDoor.Q


/- RefsNames. -/
namespace Go.Proofs.YtccbpbdfihnlgaaDoor.Q
open Go.RowKit Go.Proofs.YtccbpbdfihnlgaaDoorW.PrintWords Go.Proofs.YtccbpbdfihnlgaaDoorW.PrintLast Go.Proofs.YtccbpbdfihnlgaaDoorW.PrintMore
theorem lives37 : Ev (fun k => graftagelaw37_lives.f k) true := Ev.of (fun k => graftagelaw37_lives.mono k) (k := 400) (by decide +kernel)
theorem liveOr37 : Ev (fun k => (graftagelaw37_lives.f k).bind fun t => some t) true := Ev.bind lives37 (Ev.now _)
theorem RefsNames_ev (s : ByteArray) (l : List S55) (hs : s.size ≤ 4294967280) (hl : ∀ x ∈ l, x.f0.size ≤ 4294967280 ∧ x.f1.size ≤ 4294967280 ∧ x.f2.size ≤ 4294967280) (hn : l.length ≤ 4294967280) : Ev (fun k => graftagelaw37_RefsNames.f k s l) true := by
  have hT : Ev (fun k => graftagelaw37_RefsNames.j0 k s l true) true :=
    Ev.step (f := fun k => (graftagelaw37_lives.f k).bind fun t => some t) (fun k => by rw [graftagelaw37_RefsNames.j0, if_pos rfl]) liveOr37
  have hF : Ev (fun k => graftagelaw37_RefsNames.j0 k s l false) true := by
    refine Ev.step (f := ?_) (fun k => by rw [graftagelaw37_RefsNames.j0, if_neg (by decide)]) ?_
    refine Ev.bind (Name_ev s) (Ev.bind (refName_ev s hs) ?_)
    simp only [beq_self_eq_true, if_true]
    obtain ⟨c, h1, h2, _⟩ := Check_both l (fun _ x hx => ⟨(hl x hx).1, (hl x hx).2.2⟩)
    refine Ev.bind h1 (Ev.bind h2 ?_)
    simp only [if_true]
    exact liveOr37
  refine ev_iff (fun h => hT) (fun h => ?_)
  refine Ev.bind (Few_ev l (fun x hx => by have := hl x hx; omega) (by omega)) (ev_iff (fun h1 => hF) (fun h1 => ?_))
  refine ev_iff (fun h2 => hT) (fun h2 => ?_)
  by_cases h3 : (l.length : Int) > 1030
  · rw [decide_eq_true h3]; exact hT
  · rw [decide_eq_false h3]; exact hF
end Go.Proofs.YtccbpbdfihnlgaaDoor.Q


/- RefsNames, over plain lists and numbers. -/
namespace Go.Proofs.YtccbpbdfihnlgaaDoor.Pure
open Go.Proofs.YtccbpbdfihnlgaaDoor.Q Go.Proofs.YtccbpbdfihnlgaaDoorW.PrintWords
theorem sum_has (l : List S55) : ∀ x ∈ l, x.f0.size + x.f1.size + x.f2.size ≤ (l.map (fun y_y1 => (((y_y1.f0.size + 1) + ((y_y1.f1.size + 1) + (y_y1.f2.size + 1))) + 1))).sum ∧ l.length ≤ (l.map (fun y_y1 => (((y_y1.f0.size + 1) + ((y_y1.f1.size + 1) + (y_y1.f2.size + 1))) + 1))).sum := by
  induction l with
  | nil => intro x hx; cases hx
  | cons a r ih =>
    have hlen : ∀ r : List S55, r.length ≤ (r.map (fun y_y1 => (((y_y1.f0.size + 1) + ((y_y1.f1.size + 1) + (y_y1.f2.size + 1))) + 1))).sum := by
      intro r
      induction r with
      | nil => simp
      | cons b r ih => simp only [List.map_cons, List.sum_cons, List.length_cons]; omega
    have hr := hlen r
    intro x hx
    simp only [List.map_cons, List.sum_cons, List.length_cons]
    rcases List.mem_cons.1 hx with h | h
    · subst h; omega
    · have := (ih x h).1; omega
theorem RefsNames : ∀ (y0 : ByteArray), ∀ (y1 : List (S55)), True → (∀ y_y1 ∈ y1, (True ∧ True ∧ True)) → (y0.size + 1) + ((y1.map (fun y_y1 => (((y_y1.f0.size + 1) + ((y_y1.f1.size + 1) + (y_y1.f2.size + 1))) + 1))).sum + 1) ≤ 1048576 → ∃ k, graftagelaw37_RefsNames.f k y0 y1 = some true :=
  fun y0 y1 _ _ h => (RefsNames_ev y0 y1 (by omega) (fun x hx => by have := (sum_has y1 x hx).1; omega) (by
    cases y1 with
    | nil => simp
    | cons a r => have := (sum_has (a :: r) a List.mem_cons_self).2; omega)).rounds

end Go.Proofs.YtccbpbdfihnlgaaDoor.Pure


/- What a law's argument reads as (numbers, bools, strings, structs, slices, nested) opens into the printed kinds, with the reach's bounds; for the rows of this seat. -/
namespace Go.Proofs.YtccbpbdfihnlgaaDoor.Ro
open Go.RowKit Go.Deep Go.Proofs.YtccbpbdfihnlgaaDoorW.PrintWords

/-- What a reading of type t by the form tells in the words of kind d; S: the bounds. -/
def Opens (P : Program) (t : TypeId) {α : Type} (d : Kd α) (S : α → Prop) : Prop :=
  ∀ {H : Type} (enc : TypeId × Value → H) (w : World) (fuel : Nat) (cs : List Value) (x : DataW H × List MemPlace),
    DataW.trod enc P w 0 (fun _ => true) true fuel t cs = some x → (∀ n ∈ DataW.weights P t x.1, n ≤ reachBytes) → ∃ y : α, d.K w y cs ∧ S y

section
variable {P : Program} {t e : TypeId}

theorem Opens.int {k : IntKind} (ht : P.underlying t = some (.int k)) : Opens P t (Kd.int k) (fun y => (Lit.int k y).wf = true) := by
  intro H enc w fuel cs x h _
  obtain ⟨n, rfl, rfl, hw⟩ := DataW.trod_int ht h
  exact ⟨n, rfl, hw⟩

theorem Opens.bool (ht : P.underlying t = some .bool) : Opens P t Kd.bool (fun _ => True) := by
  intro H enc w fuel cs x h _
  obtain ⟨b, rfl, rfl⟩ := DataW.trod_bool ht h
  exact ⟨b, rfl, trivial⟩

theorem Opens.string (ht : P.underlying t = some .string) : Opens P t Kd.string (fun y => y.size ≤ 140737488351232) := by
  intro H enc w fuel cs x h hn
  obtain ⟨s, rfl, rfl, _⟩ := DataW.trod_string ht h
  refine ⟨s, rfl, ?_⟩
  have := hn s.data.toList.length (by simp [DataW.weights])
  simpa [reachBytes] using this

theorem choose_list {α : Type} {n : Nat} {p : Nat → α → Prop} (h : ∀ i, i < n → ∃ y, p i y) : ∃ l : List α, l.length = n ∧ ∀ i y, l[i]? = some y → p i y := by
  induction n with
  | zero => exact ⟨[], rfl, fun i y hy => by simp at hy⟩
  | succ n ih =>
    obtain ⟨l, hl, hp⟩ := ih (fun i hi => h i (by omega))
    obtain ⟨y, hy⟩ := h n (by omega)
    refine ⟨l ++ [y], by simp [hl], fun i z hz => ?_⟩
    rcases Nat.lt_or_ge i l.length with hi | hi
    · rw [List.getElem?_append_left hi] at hz
      exact hp i z hz
    · rw [List.getElem?_append_right hi] at hz
      have : i - l.length = 0 := by
        have := (List.getElem?_eq_some_iff.1 hz).1
        simpa using this
      rw [this] at hz
      have h1 : i = n := by omega
      subst h1
      have : y = z := by simpa using hz
      subst this
      exact hy

theorem weightsAll_mem {H : Type} {e : TypeId} : ∀ {l : List (DataW H)} {d : DataW H}, d ∈ l → ∀ n ∈ d.weights P e, n ∈ DataW.weightsAll P e l
  | a :: l, d, hd, n, hn => by
    simp only [DataW.weightsAll, List.mem_append]
    rcases List.mem_cons.1 hd with rfl | hd
    · exact .inl hn
    · exact .inr (weightsAll_mem hd n hn)

theorem Opens.slice {α : Type} {d : Kd α} {S : α → Prop} {b : Nat} (ht : P.underlying t = some (.slice e)) (hc : P.cellsOf e = d.sz) (hb : P.bytesOf e = b) (h : Opens P e d S) :
    Opens P t (Kd.slice e d) (fun l => l.length * b ≤ 140737488351232 ∧ ∀ y ∈ l, S y) := by
  intro H enc w fuel cs x hx hn
  rcases open_slice ht hx with ⟨rfl, rfl⟩ | ⟨a, len, cap, m, n, D, Pl, rfl, _, hl, hm, hmm, rfl, hall⟩
  · exact ⟨[], ⟨none, 0, rfl, Nat.le_refl _, rfl, by simp, fun h => absurd h (by simp)⟩, by simp, by simp⟩
  · simp only [if_true] at hmm
    obtain rfl : m = cap := hmm
    have hel : ∀ i, i < len → ∃ y : α, (∃ cs', w.cells? 0 (a.add (i * P.cellsOf e)) (P.cellsOf e) = some cs' ∧ d.K w y cs') ∧ S y := by
      intro i hi
      obtain ⟨cs', h1, h2⟩ := hall i (by omega)
      obtain ⟨y, hy, hs⟩ := h enc w n cs' _ h2 (fun k hk => hn k (by
        simp only [DataW.weights, ht, List.mem_cons, List.mem_append]
        exact .inr (.inl (weightsAll_mem (List.mem_map.2 ⟨i, List.mem_range.2 hi, rfl⟩) k hk))))
      exact ⟨y, ⟨cs', h1, hy⟩, hs⟩
    obtain ⟨l, hll, hp⟩ := choose_list hel
    subst hll
    have hw : (l.length + (m - l.length)) * b ≤ reachBytes := by
      have := hn _ (by simp only [DataW.weights, ht, List.mem_cons]; exact .inl rfl)
      simpa [hb] using this
    refine ⟨l, ⟨some a, m, rfl, hl, rfl, by unfold maxLen at hm; omega, fun _ => ⟨a, rfl, fun j p hj => ?_⟩⟩, ?_, fun y hy => ?_⟩
    · obtain ⟨⟨cs', h1, hk⟩, _⟩ := hp j p hj
      obtain ⟨_, hlen, hcell⟩ := World.cells?_some h1
      refine ⟨cs', by rw [hlen, hc], hk, fun i u hu => ?_⟩
      have hi : i < P.cellsOf e := by
        have := (List.getElem?_eq_some_iff.1 hu).1
        omega
      have := hcell i hi
      rw [Go.Deep.add_add, hu, hc] at this
      exact this
    · have : l.length * b ≤ (l.length + (m - l.length)) * b := Nat.mul_le_mul_right _ (by omega)
      simp only [reachBytes] at hw
      omega
    · obtain ⟨j, hj⟩ := List.mem_iff_getElem?.1 hy
      exact (hp j y hj).2

/-- The fields from one on, in line. -/
def OpensF (P : Program) (fs : List Field) (o : Nat) {α : Type} (d : Kd α) (S : α → Prop) : Prop :=
  ∀ {H : Type} (enc : TypeId × Value → H) (w : World) (n : Nat) (cs : List Value) (ys : List (DataW H × List MemPlace)),
    (∀ (i : Nat) (f : Field), fs[i]? = some f → DataW.trod enc P w 0 (fun _ => true) true n f.type ((cs.drop f.offset).take (P.cellsOf f.type)) = ys[i]?) → ys.length = fs.length →
    (∀ k ∈ DataW.weightsEach P (fs.map (·.type)) (ys.map (·.1)), k ≤ reachBytes) → cs.length = o + d.sz → ∃ y : α, d.K w y (cs.drop o) ∧ S y

theorem OpensF.one {α : Type} {f : Field} {o : Nat} {d : Kd α} {S : α → Prop} (ho : f.offset = o) (hc : P.cellsOf f.type = d.sz) (h : Opens P f.type d S) : OpensF P [f] o d S := by
  intro H enc w n cs ys hf hl hw hlen
  match ys, hl with
  | [y], _ =>
    have h1 := hf 0 f rfl
    rw [ho, hc, List.take_of_length_le (by rw [List.length_drop]; omega)] at h1
    exact h enc w n _ y h1 (fun k hk => hw k (by simp [DataW.weightsEach, hk]))

theorem OpensF.cons {α β : Type} {f : Field} {fs : List Field} {o o' : Nat} {d : Kd α} {d' : Kd β} {S : α → Prop} {S' : β → Prop} (ho : f.offset = o) (hc : P.cellsOf f.type = d.sz) (ho' : o + d.sz = o')
    (h : Opens P f.type d S) (h' : OpensF P fs o' d' S') : OpensF P (f :: fs) o (Kd.pair d d') (fun z => S z.1 ∧ S' z.2) := by
  intro H enc w n cs ys hf hl hw hlen
  match ys, hl with
  | y :: ys, hl =>
    have h1 := hf 0 f rfl
    rw [ho, hc] at h1
    have hlen' : cs.length = o + (d.sz + d'.sz) := hlen
    obtain ⟨a, ha, hs⟩ := h enc w n _ y h1 (fun k hk => hw k (by simp only [List.map_cons, DataW.weightsEach, List.mem_append]; exact .inl hk))
    obtain ⟨b, hb, hs'⟩ := h' enc w n cs ys (fun i g hg => hf (i + 1) g (by simpa using hg)) (by simpa using hl) (fun k hk => hw k (by simp only [List.map_cons, DataW.weightsEach, List.mem_append]; exact .inr hk)) (by omega)
    refine ⟨(a, b), ⟨_, _, ?_, ha, hb⟩, hs, hs'⟩
    rw [← ho', ← List.drop_drop, List.take_append_drop]

theorem Opens.struct {α β : Type} {fs : Array Field} {d : Kd α} {S : α → Prop} {f : β → α} {g : α → β} (ht : P.underlying t = some (.struct fs)) (hc : P.cellsOf t = d.sz) (hfg : ∀ a, f (g a) = a) (h : OpensF P fs.toList 0 d S) :
    Opens P t (Kd.iso d f) (fun y => S (f y)) := by
  intro H enc w fuel cs x hx hn
  obtain ⟨xs, n, _, rfl, hl, hlen, hf⟩ := DataW.trod_struct ht hx
  obtain ⟨a, ha, hs⟩ := h enc w n cs xs (fun i q hq => hf i q (by simpa using hq)) (by simpa using hlen) (fun k hk => hn k (by simpa [DataW.weights, ht] using hk)) (by rw [hl, hc]; omega)
  refine ⟨g a, ?_, by show S (f (g a)); rw [hfg]; exact hs⟩
  show d.K w (f (g a)) cs
  rw [hfg]
  simpa using ha

theorem Opens.imp {α : Type} {d : Kd α} {S S' : α → Prop} (h : Opens P t d S) (hS : ∀ y, S y → S' y) : Opens P t d S' := by
  intro H enc w fuel cs x hx hn
  obtain ⟨y, hy, hs⟩ := h enc w fuel cs x hx hn
  exact ⟨y, hy, hS y hs⟩

/-- An argument: its cells, told. -/
theorem Opens.arg {H : Type} {enc : TypeId × Value → H} {α : Type} {d : Kd α} {S : α → Prop} {w : World} {ts : List TypeId} {ds : List (DataW H)} {j : Nat} {v : Value} {dd : DataW H} {ps : List MemPlace} (h : Opens P t d S)
    (hz : (DataW.weightsEach P ts ds).all (· ≤ reachBytes) = true) (ht : ts[j]? = some t) (hd : ds[j]? = some dd) (hv : DataW.Trod enc P w 0 (fun _ => true) true t v dd ps) : ∃ y : α, d.K w y v.cells.toList ∧ S y := by
  obtain ⟨fuel, hf⟩ := hv
  exact h enc w fuel _ (dd, ps) hf (fun n hn => by simpa using List.all_eq_true.1 hz n (DataW.weights_mem_each ht hd n hn))

theorem arg_lt {H : Type} {enc : TypeId × Value → H} {w : World} {v : Value} {dd : DataW H} {ps : List MemPlace} (hv : DataW.Trod enc P w 0 (fun _ => true) true t v dd ps) : ∀ x ∈ ps, x.block < w.heap.size := by
  obtain ⟨m, hm⟩ := hv
  exact DataW.trod_lt m _ _ _ hm
end
end Go.Proofs.YtccbpbdfihnlgaaDoor.Ro


/- What a law's argument reads as opens into the printed kinds, its bulk bounding what it holds: for the rows of the second form. -/
namespace Go.Proofs.YtccbpbdfihnlgaaDoor.Ro
open Go.RowKit Go.Deep Go.Proofs.YtccbpbdfihnlgaaDoorW.PrintWords

/-- What a reading of type t tells in the words of kind d; S: what holds of it; m: its bulk at the least. -/
def OpensU (P : Program) (t : TypeId) {α : Type} (d : Kd α) (S : α → Prop) (m : α → Nat) : Prop :=
  ∀ {H : Type} (enc : TypeId × Value → H) (w : World) (fuel : Nat) (cs : List Value) (x : DataW H × List MemPlace),
    DataW.trod enc P w 0 (fun _ => true) true fuel t cs = some x → ∃ y : α, d.K w y cs ∧ S y ∧ m y ≤ Rows.uptoBulk x.1
theorem bulk_one {H : Type} (d : DataW H) : 1 ≤ Rows.uptoBulk d := by
  cases d with
  | lit l => cases l <;> simp [Rows.uptoBulk]
  | nil => simp [Rows.uptoBulk]
  | ptr d => simp [Rows.uptoBulk]
  | slice elems spare => simp [Rows.uptoBulk]
  | agg parts => simp [Rows.uptoBulk]
  | iface t d => simp [Rows.uptoBulk]
  | map entries => simp [Rows.uptoBulk]
  | held h => simp [Rows.uptoBulk]
theorem bulk_append {H : Type} (l r : List (DataW H)) : Rows.uptoBulkAll (l ++ r) = Rows.uptoBulkAll l + Rows.uptoBulkAll r := by
  induction l with
  | nil => simp [Rows.uptoBulkAll]
  | cons x l ih => simp only [List.cons_append, Rows.uptoBulkAll, ih]; omega
theorem bulk_range {H : Type} {α : Type} (m : α → Nat) (D : Nat → DataW H) : ∀ (n : Nat) (l : List α), l.length = n → (∀ i y, l[i]? = some y → m y ≤ Rows.uptoBulk (D i)) → (l.map m).sum ≤ Rows.uptoBulkAll ((List.range n).map D) := by
  intro n
  induction n with
  | zero =>
    intro l hl _
    have : l = [] := List.eq_nil_of_length_eq_zero hl
    subst this
    simp
  | succ n ih =>
    intro l hl h
    have hne : l ≠ [] := by intro e; rw [e] at hl; simp at hl
    obtain ⟨r, y, rfl⟩ : ∃ r y, l = r ++ [y] := ⟨l.dropLast, l.getLast hne, (List.dropLast_concat_getLast hne).symm⟩
    have hr : r.length = n := by simpa using hl
    have h1 := ih r hr (fun i z hz => h i z (by rw [List.getElem?_append_left (List.getElem?_eq_some_iff.1 hz).1]; exact hz))
    have h2 := h n y (by rw [List.getElem?_append_right (by omega), hr]; simp)
    rw [List.range_succ]
    simp only [List.map_append, bulk_append, List.sum_append, List.map_cons, List.map_nil, Rows.uptoBulkAll, List.sum_cons, List.sum_nil]
    omega
section
variable {P : Program} {t e : TypeId}
theorem OpensU.int {k : IntKind} (ht : P.underlying t = some (.int k)) : OpensU P t (Kd.int k) (fun y => (Lit.int k y).wf = true) (fun _ => 1) := by
  intro H enc w fuel cs x h
  obtain ⟨n, rfl, rfl, hw⟩ := DataW.trod_int ht h
  exact ⟨n, rfl, hw, bulk_one _⟩
theorem OpensU.bool (ht : P.underlying t = some .bool) : OpensU P t Kd.bool (fun _ => True) (fun _ => 1) := by
  intro H enc w fuel cs x h
  obtain ⟨b, rfl, rfl⟩ := DataW.trod_bool ht h
  exact ⟨b, rfl, trivial, bulk_one _⟩
theorem OpensU.string (ht : P.underlying t = some .string) : OpensU P t Kd.string (fun _ => True) (fun y => y.size + 1) := by
  intro H enc w fuel cs x h
  obtain ⟨s, rfl, rfl, _⟩ := DataW.trod_string ht h
  exact ⟨s, rfl, trivial, by simp [Rows.uptoBulk]⟩
theorem OpensU.slice {α : Type} {d : Kd α} {S : α → Prop} {m : α → Nat} (ht : P.underlying t = some (.slice e)) (hc : P.cellsOf e = d.sz) (h : OpensU P e d S m) :
    OpensU P t (Kd.slice e d) (fun l => ∀ y ∈ l, S y) (fun l => (l.map m).sum + 1) := by
  intro H enc w fuel cs x hx
  rcases open_slice ht hx with ⟨rfl, rfl⟩ | ⟨a, len, cap, mm, n, D, Pl, rfl, _, hl, hm, hmm, rfl, hall⟩
  · exact ⟨[], ⟨none, 0, rfl, Nat.le_refl _, rfl, by simp, fun h => absurd h (by simp)⟩, by simp, bulk_one _⟩
  · simp only [if_true] at hmm
    obtain rfl : mm = cap := hmm
    have hel : ∀ i, i < len → ∃ y : α, (∃ cs', w.cells? 0 (a.add (i * P.cellsOf e)) (P.cellsOf e) = some cs' ∧ d.K w y cs') ∧ S y ∧ m y ≤ Rows.uptoBulk (D i) := by
      intro i hi
      obtain ⟨cs', h1, h2⟩ := hall i (by omega)
      obtain ⟨y, hy, hs, hb⟩ := h enc w n cs' _ h2
      exact ⟨y, ⟨cs', h1, hy⟩, hs, hb⟩
    obtain ⟨l, hll, hp⟩ := choose_list hel
    subst hll
    refine ⟨l, ⟨some a, mm, rfl, hl, rfl, by unfold maxLen at hm; omega, fun _ => ⟨a, rfl, fun j p hj => ?_⟩⟩, fun y hy => ?_, ?_⟩
    · obtain ⟨⟨cs', h1, hk⟩, _⟩ := hp j p hj
      obtain ⟨_, hlen, hcell⟩ := World.cells?_some h1
      refine ⟨cs', by rw [hlen, hc], hk, fun i u hu => ?_⟩
      have hi : i < P.cellsOf e := by
        have := (List.getElem?_eq_some_iff.1 hu).1
        omega
      have := hcell i hi
      rw [Go.Deep.add_add, hu, hc] at this
      exact this
    · obtain ⟨j, hj⟩ := List.mem_iff_getElem?.1 hy
      exact (hp j y hj).2.1
    · have := bulk_range m D l.length l rfl (fun i y hy => (hp i y hy).2.2)
      simp only [Rows.uptoBulk]
      omega
/-- The fields from one on, in line. -/
def OpensUF (P : Program) (fs : List Field) (o : Nat) {α : Type} (d : Kd α) (S : α → Prop) (m : α → Nat) : Prop :=
  ∀ {H : Type} (enc : TypeId × Value → H) (w : World) (n : Nat) (cs : List Value) (ys : List (DataW H × List MemPlace)),
    (∀ (i : Nat) (f : Field), fs[i]? = some f → DataW.trod enc P w 0 (fun _ => true) true n f.type ((cs.drop f.offset).take (P.cellsOf f.type)) = ys[i]?) → ys.length = fs.length →
    cs.length = o + d.sz → ∃ y : α, d.K w y (cs.drop o) ∧ S y ∧ m y ≤ Rows.uptoBulkAll (ys.map (·.1))
theorem OpensUF.one {α : Type} {f : Field} {o : Nat} {d : Kd α} {S : α → Prop} {m : α → Nat} (ho : f.offset = o) (hc : P.cellsOf f.type = d.sz) (h : OpensU P f.type d S m) : OpensUF P [f] o d S m := by
  intro H enc w n cs ys hf hl hlen
  match ys, hl with
  | [y], _ =>
    have h1 := hf 0 f rfl
    rw [ho, hc, List.take_of_length_le (by rw [List.length_drop]; omega)] at h1
    obtain ⟨z, hz, hs, hb⟩ := h enc w n _ y h1
    exact ⟨z, hz, hs, by simp only [List.map_cons, List.map_nil, Rows.uptoBulkAll]; omega⟩
theorem OpensUF.cons {α β : Type} {f : Field} {fs : List Field} {o o' : Nat} {d : Kd α} {d' : Kd β} {S : α → Prop} {S' : β → Prop} {m : α → Nat} {m' : β → Nat} (ho : f.offset = o) (hc : P.cellsOf f.type = d.sz) (ho' : o + d.sz = o')
    (h : OpensU P f.type d S m) (h' : OpensUF P fs o' d' S' m') : OpensUF P (f :: fs) o (Kd.pair d d') (fun z => S z.1 ∧ S' z.2) (fun z => m z.1 + m' z.2) := by
  intro H enc w n cs ys hf hl hlen
  match ys, hl with
  | y :: ys, hl =>
    have h1 := hf 0 f rfl
    rw [ho, hc] at h1
    have hlen' : cs.length = o + (d.sz + d'.sz) := hlen
    obtain ⟨a, ha, hs, hb⟩ := h enc w n _ y h1
    obtain ⟨b, hb', hs', hbb⟩ := h' enc w n cs ys (fun i g hg => hf (i + 1) g (by simpa using hg)) (by simpa using hl) (by omega)
    refine ⟨(a, b), ⟨_, _, ?_, ha, hb'⟩, ⟨hs, hs'⟩, by simp only [List.map_cons, Rows.uptoBulkAll]; omega⟩
    rw [← ho', ← List.drop_drop, List.take_append_drop]
theorem OpensU.struct {α β : Type} {fs : Array Field} {d : Kd α} {S : α → Prop} {m : α → Nat} {f : β → α} {g : α → β} (ht : P.underlying t = some (.struct fs)) (hc : P.cellsOf t = d.sz) (hfg : ∀ a, f (g a) = a) (h : OpensUF P fs.toList 0 d S m) :
    OpensU P t (Kd.iso d f) (fun y => S (f y)) (fun y => m (f y) + 1) := by
  intro H enc w fuel cs x hx
  obtain ⟨xs, n, _, rfl, hl, hlen, hf⟩ := DataW.trod_struct ht hx
  obtain ⟨a, ha, hs, hb⟩ := h enc w n cs xs (fun i q hq => hf i q (by simpa using hq)) (by simpa using hlen) (by rw [hl, hc]; omega)
  refine ⟨g a, ?_, by show S (f (g a)); rw [hfg]; exact hs, ?_⟩
  · show d.K w (f (g a)) cs
    rw [hfg]
    simpa using ha
  · show m (f (g a)) + 1 ≤ _
    rw [hfg]
    simp only [Rows.uptoBulk]
    omega
/-- An argument: its cells, told. -/
theorem OpensU.arg {H : Type} {enc : TypeId × Value → H} {α : Type} {d : Kd α} {S : α → Prop} {m : α → Nat} {w : World} {v : Value} {dd : DataW H} {ps : List MemPlace} (h : OpensU P t d S m)
    (hv : DataW.Trod enc P w 0 (fun _ => true) true t v dd ps) : ∃ y : α, d.K w y v.cells.toList ∧ S y ∧ m y ≤ Rows.uptoBulk dd := by
  obtain ⟨fuel, hf⟩ := hv
  exact h enc w fuel _ (dd, ps) hf
end
end Go.Proofs.YtccbpbdfihnlgaaDoor.Ro


/- The law RefsNames holds: for every input it returns true, and each argument reads afterwards as it read before. -/
namespace Go.Proofs.YtccbpbdfihnlgaaDoor.refsNames
open Go.ChangeShapes Go.WideShapes Go.ChangeAt Go.RowKit Go.Proofs.YtccbpbdfihnlgaaDoor.Ro Go.Proofs.YtccbpbdfihnlgaaDoor.Q Go.Proofs.YtccbpbdfihnlgaaDoorW.PrintWords
open Go.ChangeMaps (open_string shut_string)
theorem own : ownKnob Tryd.prog.godebug = none := by kernel_rfl
theorem laidOut : laidOutB Tryd.prog = true := by kernel_rfl
theorem opens9 : OpensU Tryd.prog 9 Kd.string (fun y => True) (fun y => (y.size + 1)) := (OpensU.string Tryd.underlying9)
theorem opens43 : OpensU Tryd.prog 43 (Kd.slice 55 k55) (fun y => (∀ y_y ∈ y, (True ∧ True ∧ True))) (fun y => ((y.map (fun y_y => (((y_y.f0.size + 1) + ((y_y.f1.size + 1) + (y_y.f2.size + 1))) + 1))).sum + 1)) := (OpensU.slice Tryd.underlying43 (by kernel_rfl) (OpensU.struct (f := (fun x : S55 => (x.f0, x.f1, x.f2))) (g := (fun a => (⟨a.1, a.2.1, a.2.2⟩ : S55))) Tryd.underlying55 (by kernel_rfl) (fun _ => rfl) (OpensUF.cons rfl (by kernel_rfl) rfl (OpensU.string Tryd.underlying9) (OpensUF.cons rfl (by kernel_rfl) rfl (OpensU.string Tryd.underlying9) (OpensUF.one rfl (by kernel_rfl) (OpensU.string Tryd.underlying9))))))
theorem reads (os : Os) {H : Type} (enc : TypeId × Value → H) : ∃ places, DataW.whole enc Tryd.prog ((World.laidAll Tryd.prog os Rows.refsNamesUptoRow.laid).forCall (fun _ _ => 0) ⟨#[], #[.string ByteArray.empty, .slice none 0 0], []⟩).memory Tryd.f9.params.toList Rows.refsNamesSpec.vars false (#[.string ByteArray.empty, .slice none 0 0] : Array Value).toList 8 = some ([.lit (.string []), .nil], [], places) := ⟨[], by kernel_rfl⟩
set_option maxRecDepth 100000 in
theorem lifted (os : Os) (started : os.Started) (H : Type) (enc : TypeId × Value → H) (F : Stop.Interp) :
    ReturnsInHanded {} Tryd.checked os 9 .any ((Rows.OpenSpec.upto Rows.refsNamesSpec).preRow enc Tryd.prog Tryd.f9 Rows.refsNamesUptoRow.domain false Rows.refsNamesUptoRow.laid) (((Rows.OpenSpec.upto Rows.refsNamesSpec).at F).post enc Tryd.prog Tryd.f9 false true false false) := by
  obtain ⟨places, hx⟩ := reads os enc
  refine returnsInHanded_of_row (C := Tryd.checked) (s := (Rows.OpenSpec.upto Rows.refsNamesSpec)) own started (by kernel_rfl) Tryd.func9
    (witness_row_at (enc := enc) (C := Tryd.checked) false (World.laidAll Tryd.prog os Rows.refsNamesUptoRow.laid) #[.string ByteArray.empty, .slice none 0 0] (World.laidAll_os _ _ _) (by kernel_rfl) (by kernel_rfl) (by kernel_rfl)
      (OpenSpec.preRow_of_cond 8 hx (by kernel_rfl) (fun k hk => by cases hk; kernel_rfl) (by kernel_rfl) (by rw [MakeChecks.laidMetH_plain _ _ _ (by kernel_rfl)]; exact laidMet_laidAll _ (by kernel_rfl) (by kernel_rfl)))) ?_
  intro W base args ds gs before hval0 hW _ hcond _ hL hsh0 _
  have hbulk : Rows.uptoBulkAll (ds ++ gs) ≤ 1048576 := of_decide_eq_true (hcond _ rfl)
  have hval : ∀ (j : Nat) t v, Tryd.f9.params[j]? = some t → args[j]? = some v → Value.okWide Tryd.prog W .any base t v := hval0
  have hW' := hW
  obtain ⟨p, q, hA0, hV, rfl, hfz, hnd⟩ := hW
  have hA : DataW.TrodAll enc Tryd.prog W 0 (fun _ => true) true Tryd.f9.params.toList args.toList ds p := hA0
  rw [Tryd.params9] at hA hval
  obtain ⟨v0, vs0, d0, ds0, p0, q0, hargs, rfl, rfl, h0, r0⟩ := trodAll_cons hA
  obtain ⟨v1, vs1, d1, ds1, p1, q1, rfl, rfl, rfl, h1, r1⟩ := trodAll_cons r0
  obtain ⟨rfl, rfl, rfl⟩ := trodAll_nil r1
  obtain rfl : args = #[v0, v1] := by cases args; simp_all
  obtain ⟨rfl, rfl⟩ := trodVars_none hV
  have lt0 := arg_lt h0
  obtain ⟨y0, hk0, w0, b0⟩ := opens9.arg h0
  obtain ⟨x0, rfl⟩ := okWide_string Tryd.underlying9 (hval 0 9 v0 rfl rfl)
  obtain rfl : x0 = y0 := by simpa [Kd.string, Kd.scalar, Value.cells] using hk0
  have lt1 := arg_lt h1
  obtain ⟨y1, hk1, w1, b1⟩ := opens43.arg h1
  obtain ⟨a1, len1, cap1, rfl⟩ := okWide_slice Tryd.underlying43 (hval 1 43 v1 rfl rfl)
  obtain ⟨A1, c1, e1, hl1, hr1⟩ := hk1
  obtain ⟨rfl, rfl, rfl⟩ : a1 = A1 ∧ len1 = y1.length ∧ cap1 = c1 := by simpa [Value.cells] using e1
  simp only [Rows.uptoBulkAll, List.append_nil, List.nil_append, List.cons_append] at hbulk
  have hsum : (x0.size + 1) + ((y1.map (fun y_y1 => (((y_y1.f0.size + 1) + ((y_y1.f1.size + 1) + (y_y1.f2.size + 1))) + 1))).sum + 1) ≤ 1048576 := by first | omega | (dsimp only at *; omega)
  obtain ⟨k, hp⟩ := Pure.RefsNames _ _ w0 w1 hsum
  clear hA0 hval0
  refine (Q.graftagelaw37_RefsNames.calls k _ _ _ y1 true W hr1 hl1 (GV.shaped hsh0) hp).mono ?_
  rintro e W' ⟨rfl, bel0⟩
  have bel : Below W.heap.size W W' := bel0
  exact ⟨_, rfl, _, _, _, [], _, [], hW', trodAll_mk1 (shut_bool Tryd.underlying4 _), (trodAll_cons_mk (Below.trod laidOut (by kernel_rfl) (of_decide_eq_true (by kernel_rfl)) h0 bel lt0) (trodAll_cons_mk (Below.trod laidOut (by kernel_rfl) (of_decide_eq_true (by kernel_rfl)) h1 bel lt1) trodAll_mk0)), rfl, bel.frame _, fun h => by cases h⟩
theorem over : Rows.refsNamesUptoRow.holds Tryd.pinned (Rows.OpenSpec.upto Rows.refsNamesSpec) :=
  OpenClaim.holds_of_cond 9 Tryd.f9 rfl rfl rfl rfl rfl rfl rfl ⟨rfl, rfl, rfl, rfl, rfl⟩ rfl rfl rfl rfl rfl (by kernel_rfl) Tryd.func9 (by kernel_rfl)
    (of_decide_eq_true (by kernel_rfl)) (by unfold Func.isWrapper; first | (rw [if_pos (by decide +kernel)]; kernel_rfl) | (rw [if_neg (by decide +kernel)]; exact ⟨rfl, rfl⟩))
    (fun os started H enc _ F => by rw [OpenClaim.pre_eq_preRow]; exact lifted os started H enc F)
theorem proved : Rows.RefsNamesUptoSaid := over
theorem card_holds : Rows.RefsNamesUptoCardSaid :=
  Claim7.holds_tied_plain_at .later [] [.data, .pinned] true (true, "f211dbb39e0f8aee4bdc9ae8c5517fa944c5333aa6a5e92b425f441664a6fa8b") false over (fun _ h => by cases h) (by kernel_rfl) (fun _ h => by cases h) refsNamesUpto_row_tie rfl ⟨rfl, rfl⟩ (by kernel_rfl) rfl
    (fun f fn hf hfn => by
      obtain rfl : f = 9 := Option.some.inj ((show Tryd.prog.funcNamed "graftage/graftagelaw37.RefsNames" = some 9 by kernel_rfl).symm.trans hf) |>.symm
      obtain rfl : fn = Tryd.f9 := (Option.some.inj (Tryd.func9.symm.trans hfn)).symm
      exact ⟨by kernel_rfl, fun j t ht => by
        rw [Tryd.params9] at ht
        have hm : t ∈ [9, 43] := by simpa using Array.mem_of_getElem? ht
        have hall : ([9, 43].all fun u => !Tryd.prog.wantsStandIn u) = true := by kernel_rfl
        exact (show Tryd.prog.wantsStandIn t = false by simpa using List.all_eq_true.1 hall t hm)⟩)
    (by kernel_rfl)
#print axioms card_holds
end Go.Proofs.YtccbpbdfihnlgaaDoor.refsNames
namespace Go.Proofs.YtccbpbdfihnlgaaDoor
/-- The statement, under a short name, for the claim. -/
theorem refsNames_holds : Rows.RefsNamesUptoCardSaid := refsNames.card_holds
end Go.Proofs.YtccbpbdfihnlgaaDoor


