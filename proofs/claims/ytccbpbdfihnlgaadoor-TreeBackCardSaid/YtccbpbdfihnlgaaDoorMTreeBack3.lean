/- The law TreeBack holds: for every input it returns true, and each argument reads afterwards as it read before. -/
import Derived.Test.YtccbpbdfihnlgaaDoorMYTreeBack1
import Derived.Test.YtccbpbdfihnlgaaDoorMTreeBack1
import Derived.Test.YtccbpbdfihnlgaaDoorMTreeBack2
import Derived.Laws.Cover1
import Derived.Sort.Walk0
import Derived.Lib.IndexLaws
import Derived.Deep.Slices
import Derived.Lib.SmallJoins
import Derived.ChangeArms
import Derived.SizedLaws
import Derived.WalkKit
import Derived.ProofKit
import Derived.Test.YtccbpbdfihnlgaaDoorRows
import Derived.Test.YtccbpbdfihnlgaaDoorTie
import Derived.Test.YtccbpbdfihnlgaaDoorCards
import Derived.OpenShut
import Derived.ShutString
import Derived.ChangeOld
import Derived.Below
import Derived.Lay
import Derived.LaidOnce
import Derived.SevenTiedAt
import Derived.LaidLaws
import Derived.Handed
import Derived.ChangeVars
import Derived.JoinedOf
set_option linter.unusedVariables false
set_option linter.unusedSimpArgs false
/- Paths: the parts between slashes, and what is a path; the program's and the reference's. -/
namespace Go.Proofs.YtccbpbdfihnlgaaDoor.Q
open Go.RowKit Go.Proofs.YtccbpbdfihnlgaaDoorW.PrintWords Go.Proofs.YtccbpbdfihnlgaaDoorW.PrintLast Go.Proofs.YtccbpbdfihnlgaaDoorW.PrintMore

theorem wrap_id {x : Int} (h0 : -9223372036854775808 ≤ x) (h1 : x ≤ 9223372036854775807) : wrap64 x = x := by unfold wrap64; omega
theorem rd_ext (l : List ByteArray) (i : Nat) (h : i < l.length) : rdOf ByteArray.empty l i = l[i] := by
  simp [rdOf, List.getD, List.getElem?_eq_getElem h]
theorem ba_ext {a b : ByteArray} (h : a.data.toList = b.data.toList) : a = b := by
  cases a; cases b; simp at h; simp [h]
theorem append_data (a b : ByteArray) : (a ++ b).data.toList = a.data.toList ++ b.data.toList := by simp
/-! ### Parts -/
def consH (b : UInt8) : List (List UInt8) → List (List UInt8)
  | [] => [[b]]
  | h :: t => (b :: h) :: t
def partsL : List UInt8 → List (List UInt8)
  | [] => [[]]
  | b :: r => if b = 47 then [] :: partsL r else consH b (partsL r)
theorem partsL_ne (l : List UInt8) : partsL l ≠ [] := by
  cases l with
  | nil => simp [partsL]
  | cons b r =>
    unfold partsL
    split
    · simp
    · cases partsL r <;> simp [consH]
theorem index_cons_ne (b c : UInt8) (l : List UInt8) (h : b ≠ c) : Lib.index (b :: l) [c] = if Lib.index l [c] == -1 then -1 else Lib.index l [c] + 1 := by
  have hp : ([c] : List UInt8).isPrefixOf (b :: l) = false := by simp [List.isPrefixOf, Ne.symm h]
  rw [Lib.index, hp]; simp
theorem splitK_cons (b : UInt8) (hb : b ≠ 47) : ∀ (n : Nat) (r : List UInt8), Lib.splitK [47] 0 n (b :: r) = consH b (Lib.splitK [47] 0 n r) := by
  intro n r
  cases n with
  | zero => rfl
  | succ n =>
    have hix := index_cons_ne b 47 r hb
    by_cases hm : Lib.index r [47] = -1
    · rw [if_pos (beq_iff_eq.2 hm)] at hix
      rw [Lib.splitK, if_pos (beq_iff_eq.2 hix), Lib.splitK, if_pos (beq_iff_eq.2 hm)]
      rfl
    · have hge := Lib.index_ge r [47]
      obtain ⟨j, hj⟩ : ∃ j : Nat, Lib.index r [47] = j := ⟨(Lib.index r [47]).toNat, by omega⟩
      rw [if_neg (fun e => hm (beq_iff_eq.1 e)), hj] at hix
      rw [Lib.splitK, if_neg (fun e => by have := beq_iff_eq.1 e; omega), Lib.splitK, if_neg (fun e => hm (beq_iff_eq.1 e)), hix, hj]
      rw [show ((j : Int) + 1).toNat = j + 1 by omega, show ((j : Int)).toNat = j by omega]
      simp [consH]
theorem splitK_parts : ∀ l : List UInt8, Lib.splitK [47] 0 (Lib.count l [47]) l = partsL l
  | [] => by rw [Lib.count_miss (by simp [Lib.index])]; rfl
  | b :: r => by
    by_cases h : b = 47
    · subst h
      have hix : Lib.index (47 :: r) [47] = ((0 : Nat) : Int) := by rw [Lib.index]; simp [List.isPrefixOf]
      rw [Lib.count_cons_eq, Nat.add_comm, Lib.splitK, if_neg (by rw [hix]; decide), hix]
      simp [partsL, splitK_parts r]
    · rw [Lib.count_cons_ne b 47 r h, splitK_cons b h, splitK_parts r, partsL, if_neg h]
theorem partsL_length_le : ∀ l : List UInt8, (partsL l).length ≤ l.length + 1
  | [] => by simp [partsL]
  | b :: r => by
    have := partsL_length_le r
    unfold partsL
    split
    · simp; omega
    · cases hq : partsL r with
      | nil => simp [consH]
      | cons h t => rw [hq] at this; simp [consH] at this ⊢; omega

def partsB (s : ByteArray) : List ByteArray := (partsL s.data.toList).map (fun x => ⟨x.toArray⟩)
theorem map_data_inj {l l' : List ByteArray} (h : l.map (·.data.toList) = l'.map (·.data.toList)) : l = l' := by
  induction l generalizing l' with
  | nil => cases l' with
           | nil => rfl
           | cons _ _ => simp at h
  | cons x r ih =>
    cases l' with
    | nil => simp at h
    | cons y r' =>
      simp only [List.map_cons, List.cons.injEq] at h
      rw [ba_ext h.1, ih h.2]
theorem partsB_data (s : ByteArray) : (partsB s).map (·.data.toList) = partsL s.data.toList := by
  simp [partsB, Function.comp_def]
theorem split_parts (s : ByteArray) : Lib.splitB ⟨#[47]⟩ 0 (Lib.countB s ⟨#[47]⟩) s = partsB s := by
  apply map_data_inj
  rw [Lib.splitB_data, partsB_data]
  exact splitK_parts s.data.toList

theorem bt_get (s : ByteArray) (i : Nat) (h : i < s.size) : bt s i = ((s.data.toList[i]'(by rw [← Lib.size_eq]; exact h)).toNat : Int) := by
  unfold bt
  simp only [Int.toNat_natCast]
  rw [dif_pos h]
  rfl
theorem split_eq (s : ByteArray) (hs : s.size ≤ 4294967280) : strings_Split.f s ⟨#[47]⟩ = some (partsB s) := by
  unfold strings_Split.f
  rw [if_pos ⟨rfl, by omega⟩, split_parts]
/-! ### part, Is, Same -/
/-- A path's part, as far as both texts ask alike. -/
def partOK (s : ByteArray) : Bool := decide (1 ≤ s.size) && decide (s.size ≤ 64) && (s.toList != [46]) && (s.toList != [46, 46]) && (s.toList != [46, 103, 114, 97, 102, 116]) && s.data.toList.all (fun b => decide (32 ≤ b.toNat))
theorem all_drop (p : UInt8 → Bool) (l : List UInt8) (i : Nat) (h : i < l.length) : (l.drop i).all p = (p l[i] && (l.drop (i + 1)).all p) := by
  rw [List.drop_eq_getElem_cons h, List.all_cons]
theorem path_part_l0 (s : ByteArray) (hs : s.size ≤ 140737488351232) : ∀ (d k i : Nat), i + d = s.size → d < k → path_part.l0 k s s.size i = some ((s.data.toList.drop i).all (fun b => decide (32 ≤ b.toNat))) := by
  intro d
  induction d with
  | zero =>
    intro k i hi hk
    obtain ⟨k, rfl⟩ : ∃ m, k = m + 1 := ⟨k - 1, by omega⟩
    have hsz := Lib.size_eq s
    simp only [path_part.l0]
    rw [if_neg (by omega), List.drop_of_length_le (by omega)]
    rfl
  | succ d ih =>
    intro k i hi hk
    obtain ⟨k, rfl⟩ : ∃ m, k = m + 1 := ⟨k - 1, by omega⟩
    have hsz := Lib.size_eq s
    have := ih k (i + 1) (by omega) (by omega)
    simp only [path_part.l0]
    rw [if_pos (by omega), if_pos (by omega), if_pos (by omega), wrap_id (by omega) (by omega), all_drop _ _ i (by omega), bt_get s i (by omega)]
    by_cases h : (s.data.toList[i]'(by omega)).toNat < 32
    · rw [if_pos (by omega), decide_eq_false (show ¬ 32 ≤ (s.data.toList[i]'(by omega)).toNat by omega)]
      rfl
    · rw [if_neg (by omega), decide_eq_true (show 32 ≤ (s.data.toList[i]'(by omega)).toNat by omega), Bool.true_and]
      exact_mod_cast this
theorem path_part_eq (s : ByteArray) (hs : s.size ≤ 140737488351232) (k : Nat) (hk : s.size + 1 < k) : path_part.f k s = some (partOK s) := by
  obtain ⟨k, rfl⟩ : ∃ m, k = m + 1 := ⟨k - 1, by omega⟩
  have hl := path_part_l0 s hs s.size k 0 (by omega) (by omega)
  unfold path_part.f partOK
  by_cases h1 : s.size < 1
  · rw [if_pos (by omega), path_part.j0, if_pos rfl]; simp [show ¬ (1 ≤ s.size) by omega]
  rw [if_neg (by omega)]
  by_cases h2 : s.size > 64
  · rw [if_pos (by omega), path_part.j0, if_pos rfl]; simp [show ¬ (s.size ≤ 64) by omega]
  rw [if_neg (by omega)]
  by_cases h3 : s.toList = [46]
  · rw [if_pos h3, path_part.j0, if_pos rfl]; simp [h3]
  rw [if_neg h3]
  by_cases h4 : s.toList = [46, 46]
  · rw [if_pos h4, path_part.j0, if_pos rfl]; simp [h4]
  rw [if_neg h4, path_part.j0]
  by_cases h5 : s.toList = [46, 103, 114, 97, 102, 116]
  · rw [if_pos (by simp [h5])]; simp [h5]
  · rw [if_neg (by simp [h5]), show (0 : Int) = ((0 : Nat) : Int) from rfl, hl]
    simp [h3, h4, h5, show 1 ≤ s.size by omega, show s.size ≤ 64 by omega]
/-- A loop that asks each element, with rounds for each. -/
theorem all_ext (p : ByteArray → Bool) (l : List ByteArray) (i : Nat) (h : i < l.length) : (l.drop i).all p = (p l[i] && (l.drop (i + 1)).all p) := by
  rw [List.drop_eq_getElem_cons h, List.all_cons]
theorem path_Is_l0 (l : List ByteArray) (B : Nat) (hB : B ≤ 140737488351232) (hl : ∀ x ∈ l, x.size ≤ B) (hn : l.length ≤ 140737488351232) : ∀ (d k i : Nat), i + d = l.length → d + B + 2 ≤ k →
    path_Is.l0 k l l l.length i = some ((l.drop i).all partOK && decide (l.length ≤ 16)) := by
  intro d
  induction d with
  | zero =>
    intro k i hi hk
    obtain ⟨k, rfl⟩ : ∃ m, k = m + 1 := ⟨k - 1, by omega⟩
    simp only [path_Is.l0]
    rw [if_neg (by omega), List.drop_of_length_le (by omega), List.all_nil, Bool.true_and, decide_eq_decide.2 (show ((l.length : Int) ≤ 16) ↔ l.length ≤ 16 by omega)]
  | succ d ih =>
    intro k i hi hk
    obtain ⟨k, rfl⟩ : ∃ m, k = m + 1 := ⟨k - 1, by omega⟩
    have hi' : i < l.length := by omega
    have := ih k (i + 1) (by omega) (by omega)
    have hsz := hl _ (List.getElem_mem hi')
    simp only [path_Is.l0]
    rw [if_pos (by omega), if_pos (by omega), if_pos (by omega), rd_ext l i hi', path_part_eq _ (by omega) k (by omega), wrap_id (by omega) (by omega), all_ext _ _ i hi']
    simp only [Option.bind_some]
    by_cases h : partOK l[i] = true
    · rw [if_pos h, h]
      simpa using this
    · rw [if_neg h]
      simp [h]
theorem partsB_size (s : ByteArray) : ∀ x ∈ partsB s, x.size ≤ s.size := by
  have key : ∀ (l : List UInt8), ∀ p ∈ partsL l, p.length ≤ l.length := by
    intro l
    induction l with
    | nil => intro p hp; simp [partsL] at hp; simp [hp]
    | cons b r ih =>
      intro p hp
      unfold partsL at hp
      split at hp
      · rcases List.mem_cons.1 hp with rfl | hp
        · simp
        · have := ih p hp; simp; omega
      · cases hq : partsL r with
        | nil => exact absurd hq (partsL_ne r)
        | cons h t =>
          rw [hq] at hp ih
          rcases List.mem_cons.1 hp with rfl | hp
          · have := ih h List.mem_cons_self; simp; omega
          · have := ih p (List.mem_cons_of_mem _ hp); simp; omega
  intro x hx
  obtain ⟨p, hp, rfl⟩ := List.mem_map.1 hx
  have := key _ p hp
  rw [Lib.size_eq s]
  show p.toArray.size ≤ _
  rw [List.size_toArray]
  exact this
theorem partsB_length_le (s : ByteArray) : (partsB s).length ≤ s.size + 1 := by
  have := partsL_length_le s.data.toList
  rw [Lib.size_eq s]
  simpa [partsB] using this
def isPath (s : ByteArray) : Bool := (s.toList != []) && decide (s.size ≤ 255) && ((partsB s).all partOK && decide ((partsB s).length ≤ 16))
theorem path_Is_ev (s : ByteArray) : Ev (fun k => path_Is.f k s) (isPath s) := by
  refine Ev.of (fun k => path_Is.mono s k) (k := 1000) ?_
  show path_Is.f (999 + 1) s = _
  unfold path_Is.f isPath
  by_cases h : s.toList = []
  · rw [if_pos h, path_Is.j0, if_pos rfl]; simp [h]
  · rw [if_neg h, path_Is.j0]
    by_cases h2 : s.size ≤ 255
    · rw [if_neg (by simp; omega), split_eq s (by omega)]
      simp only [Option.bind_some]
      have hn := partsB_length_le s
      rw [show (0 : Int) = ((0 : Nat) : Int) from rfl, path_Is_l0 (partsB s) 255 (by omega) (fun x hx => Nat.le_trans (partsB_size s x hx) h2) (by omega) (partsB s).length 999 0 (by omega) (by omega)]
      simp [h, h2]
    · rw [if_pos (by simp; omega)]
      simp [h2]
end Go.Proofs.YtccbpbdfihnlgaaDoor.Q


/- Contracts of Go functions as calls of plain Lean functions, written by a program of this session over the kit's print. -/
namespace Go.Proofs.YtccbpbdfihnlgaaDoor.Q
open Go.RowKit Go.Proofs.YtccbpbdfihnlgaaDoorW.PrintWords Go.Proofs.YtccbpbdfihnlgaaDoorW.PrintLast Go.Proofs.YtccbpbdfihnlgaaDoorW.PrintMore
attribute [local go_sem] max2_int min2_int max_two min_two max_three min_three max_four min_four   -- for this text's walks alone

/-! ### graftageref02_Digit: function 106 -/
def graftageref02_Digit.j0 : Nat → Int → Bool → Option (Int)
  | 0, _, _ => none
  | k + 1, x0, x8 => if x8 = true then (some ((x0 - 48) % 256)) else (if x0 ≥ 97 then (if x0 ≤ 102 then (some (((x0 - 97) % 256) + 10)) else (some (-1))) else (some (-1)))
def graftageref02_Digit.f (k : Nat) (a0 : Int) : Option (Int) := if a0 ≥ 48 then (graftageref02_Digit.j0 k a0 (decide (a0 ≤ 57))) else (graftageref02_Digit.j0 k a0 false)
end Go.Proofs.YtccbpbdfihnlgaaDoor.Q


/- Contracts of Go functions as calls of plain Lean functions, written by a program of this session over the kit's print. -/
namespace Go.Proofs.YtccbpbdfihnlgaaDoor.Q
open Go.RowKit Go.Proofs.YtccbpbdfihnlgaaDoorW.PrintWords Go.Proofs.YtccbpbdfihnlgaaDoorW.PrintLast Go.Proofs.YtccbpbdfihnlgaaDoorW.PrintMore
attribute [local go_sem] max2_int min2_int max_two min_two max_three min_three max_four min_four   -- for this text's walks alone

/-! ### graftageref02_digits: function 112 -/
def graftageref02_digits.l0 : Nat → ByteArray → Int → Option (Bool)
  | 0, _, _ => none
  | k + 1, x0, x3 => if x3 < (x0.size : Int) then (if 0 ≤ x3 then ((graftageref02_Digit.f k (bt x0 x3)).bind fun t120 => (if t120 < 0 then (some false) else (graftageref02_digits.l0 k x0 (wrap64 (x3 + 1))))) else (none)) else (some true)
def graftageref02_digits.f (k : Nat) (a0 : ByteArray) : Option (Bool) := graftageref02_digits.l0 k a0 0
end Go.Proofs.YtccbpbdfihnlgaaDoor.Q


/- Contracts of Go functions as calls of plain Lean functions, written by a program of this session over the kit's print. -/
namespace Go.Proofs.YtccbpbdfihnlgaaDoor.Q
open Go.RowKit Go.Proofs.YtccbpbdfihnlgaaDoorW.PrintWords Go.Proofs.YtccbpbdfihnlgaaDoorW.PrintLast Go.Proofs.YtccbpbdfihnlgaaDoorW.PrintMore
attribute [local go_sem] max2_int min2_int max_two min_two max_three min_three max_four min_four   -- for this text's walks alone

/-! ### graftageref02_Is: function 62 -/
def graftageref02_Is.f (k : Nat) (a0 : ByteArray) : Option (Bool) := if (a0.size : Int) = 40 then ((graftageref02_digits.f k a0).bind fun t121 => (some t121)) else (some false)
end Go.Proofs.YtccbpbdfihnlgaaDoor.Q


/- Contracts of Go functions as calls of plain Lean functions, written by a program of this session over the kit's print. -/
namespace Go.Proofs.YtccbpbdfihnlgaaDoor.Q
open Go.RowKit Go.Proofs.YtccbpbdfihnlgaaDoorW.PrintWords Go.Proofs.YtccbpbdfihnlgaaDoorW.PrintLast Go.Proofs.YtccbpbdfihnlgaaDoorW.PrintMore
attribute [local go_sem] max2_int min2_int max_two min_two max_three min_three max_four min_four   -- for this text's walks alone

def graftageref02_Raw.T7 : Bool × List (List Nat × List Nat) := (true, [([], []), ([], []), ([], []), ([1, 2], [1, 2]), ([3], [3]), ([4], [4]), ([], []), ([], []), ([7], [7]), ([6, 8], [6, 8]), ([9, 4], [9]), ([5, 10], [5, 10]), ([11], [11]), ([12], [12]), ([0, 13, 10], [0, 13]), ([14, 14, 0, 1, 2, 3, 4, 5, 6, 7, 8, 9, 10, 11, 12, 13, 14], [0, 14])])
def graftageref02_Raw.B7 : List Nat := [0, 0, 0, 6, 14, 30, 0, 0, 128, 448, 990, 2046, 4094, 8190, 16383, 32767]
theorem graftageref02_Raw.tab7 : rtab .any (opsOf Tryd.f53 7) = graftageref02_Raw.T7 := by kernel_rfl
theorem graftageref02_Raw.bits7 : waitsOk graftageref02_Raw.T7.2 graftageref02_Raw.B7 = true := by kernel_rfl
end Go.Proofs.YtccbpbdfihnlgaaDoor.Q


/- Contracts of Go functions as calls of plain Lean functions, written by a program of this session over the kit's print. -/
namespace Go.Proofs.YtccbpbdfihnlgaaDoor.Q
open Go.RowKit Go.Proofs.YtccbpbdfihnlgaaDoorW.PrintWords Go.Proofs.YtccbpbdfihnlgaaDoorW.PrintLast Go.Proofs.YtccbpbdfihnlgaaDoorW.PrintMore
attribute [local go_sem] max2_int min2_int max_two min_two max_three min_three max_four min_four   -- for this text's walks alone

end Go.Proofs.YtccbpbdfihnlgaaDoor.Q


/- Ids: digits, bytes and their digits; the program's and the reference's. -/
namespace Go.Proofs.YtccbpbdfihnlgaaDoor.Q
open Go.RowKit Go.Proofs.YtccbpbdfihnlgaaDoorW.PrintWords Go.Proofs.YtccbpbdfihnlgaaDoorW.PrintLast Go.Proofs.YtccbpbdfihnlgaaDoorW.PrintMore

def hexD : List UInt8 := [48, 49, 50, 51, 52, 53, 54, 55, 56, 57, 97, 98, 99, 100, 101, 102]
/-- A digit's value; -1. -/
def dv (b : Int) : Int := Lib.indexByte hexD b.toNat.toUInt8
theorem dv_table : ∀ n : Fin 256, graftageref02_Digit.f 2 (n.val : Int) = some (dv (n.val : Int)) ∧ -1 ≤ dv (n.val : Int) ∧ dv (n.val : Int) ≤ 15 := by decide +kernel
theorem bt_fin (s : ByteArray) (i : Int) : ∃ n : Fin 256, bt s i = (n.val : Int) := by
  obtain ⟨h0, h1⟩ := bt_range s i
  exact ⟨⟨(bt s i).toNat, by omega⟩, by simp; omega⟩
theorem dv_bt (s : ByteArray) (i : Int) : -1 ≤ dv (bt s i) ∧ dv (bt s i) ≤ 15 := by
  obtain ⟨n, hn⟩ := bt_fin s i
  rw [hn]; exact (dv_table n).2
theorem value_eq (b : Int) : ident_value.f b = some (dv b) := rfl
/-- Are all digits, from a place on? -/
def hexF (s : ByteArray) : Nat → Nat → Bool
  | 0, _ => true
  | d + 1, i => decide (0 ≤ dv (bt s i)) && hexF s d (i + 1)
theorem all_l0 (s : ByteArray) (hs : s.size ≤ 140737488351232) : ∀ (d k i : Nat), i + d = s.size → d < k → ident_all.l0 k s s.size i = some (hexF s d i) := by
  intro d
  induction d with
  | zero =>
    intro k i hi hk
    obtain ⟨k, rfl⟩ : ∃ m, k = m + 1 := ⟨k - 1, by omega⟩
    simp only [ident_all.l0]
    rw [if_neg (by omega)]; rfl
  | succ d ih =>
    intro k i hi hk
    obtain ⟨k, rfl⟩ : ∃ m, k = m + 1 := ⟨k - 1, by omega⟩
    have := ih k (i + 1) (by omega) (by omega)
    simp only [ident_all.l0]
    rw [if_pos (by omega), if_pos (by omega), if_pos (by omega), value_eq, wrap_id (by omega) (by omega)]
    simp only [Option.bind_some]
    rw [hexF]
    by_cases h : dv (bt s i) < 0
    · rw [if_pos h, decide_eq_false (by omega)]; rfl
    · rw [if_neg h, decide_eq_true (by omega), Bool.true_and]; exact_mod_cast this
def idOk (s : ByteArray) : Bool := decide (s.size = 40) && hexF s s.size 0
theorem ident_Is_ev (s : ByteArray) : Ev (fun k => ident_Is.f k s) (idOk s) := by
  unfold idOk
  by_cases h : s.size = 40
  · refine Ev.congr (f := fun k => (ident_all.f k s).bind fun t => some t) (fun k => by unfold ident_Is.f; rw [if_pos (by omega)]) ?_
    refine Ev.bind (Ev.of (fun k => ident_all.mono s k) (k := 60) (r := hexF s s.size 0) ?_) ?_
    · unfold ident_all.f
      exact_mod_cast all_l0 s (by omega) s.size 60 0 (by omega) (by omega)
    · rw [decide_eq_true h, Bool.true_and]; exact Ev.now _
  · refine Ev.congr (f := fun _ => some false) (fun k => by unfold ident_Is.f; rw [if_neg (by omega)]) ?_
    rw [decide_eq_false h, Bool.false_and]; exact Ev.now _
theorem hexF_at (s : ByteArray) : ∀ (d i : Nat), hexF s d i = true → ∀ j, i ≤ j → j < i + d → 0 ≤ dv (bt s j)
  | 0, _, _, j, h1, h2 => by omega
  | d + 1, i, h, j, h1, h2 => by
    rw [hexF, Bool.and_eq_true, decide_eq_true_eq] at h
    by_cases e : j = i
    · rw [e]; exact h.1
    · exact hexF_at s d (i + 1) h.2 j (by omega) (by omega)
theorem hexF_of (s : ByteArray) : ∀ (d i : Nat), (∀ j, i ≤ j → j < i + d → 0 ≤ dv (bt s j)) → hexF s d i = true
  | 0, _, _ => rfl
  | d + 1, i, h => by
    rw [hexF, Bool.and_eq_true, decide_eq_true_eq]
    exact ⟨h i (by omega) (by omega), hexF_of s d (i + 1) (fun j h1 h2 => h j (by omega) (by omega))⟩
/-! ### Raw -/
def rawAt (s : ByteArray) (i : Nat) : Int := 16 * dv (bt s (2 * i : Nat)) + dv (bt s (2 * i + 1 : Nat))
def rawL (s : ByteArray) (n : Nat) : List Int := (List.range n).map (rawAt s)
def rawB (s : ByteArray) : ByteArray := strOfNums (rawL s 20)
theorem or_table : ∀ a b : Fin 16, Go.bits .or .i64 (wrap64 ((a.val : Int) * 16)) (b.val : Int) % 256 = 16 * (a.val : Int) + b.val := by decide +kernel
theorem or_eq {a b : Int} (h0 : 0 ≤ a) (h1 : a ≤ 15) (h2 : 0 ≤ b) (h3 : b ≤ 15) : Go.bits .or .i64 (wrap64 (a * 16)) b % 256 = 16 * a + b := by
  have := or_table ⟨a.toNat, by omega⟩ ⟨b.toNat, by omega⟩
  simpa [Int.toNat_of_nonneg h0, Int.toNat_of_nonneg h2] using this
theorem rawL_succ (s : ByteArray) (n : Nat) : rawL s (n + 1) = rawL s n ++ [rawAt s n] := by simp [rawL, List.range_succ]
theorem rawL_len (s : ByteArray) (n : Nat) : (rawL s n).length = n := by simp [rawL]
theorem Raw_l0 (s : ByteArray) (h40 : s.size = 40) (hd : ∀ j, j < 40 → 0 ≤ dv (bt s (j : Nat))) : ∀ (d k i : Nat), i + d = 20 → d < k →
    ident_Raw.l0 k s (rawL s i ++ List.replicate d 0) 20 i = some (rawB s, true) := by
  intro d
  induction d with
  | zero =>
    intro k i hi hk
    obtain ⟨k, rfl⟩ : ∃ m, k = m + 1 := ⟨k - 1, by omega⟩
    obtain rfl : i = 20 := by omega
    simp only [ident_Raw.l0]
    rw [if_neg (by omega)]
    simp [rawB]
  | succ d ih =>
    intro k i hi hk
    obtain ⟨k, rfl⟩ : ∃ m, k = m + 1 := ⟨k - 1, by omega⟩
    have := ih k (i + 1) (by omega) (by omega)
    have a1 := dv_bt s (2 * i : Nat)
    have a2 := dv_bt s (2 * i + 1 : Nat)
    have b1 := hd (2 * i) (by omega)
    have b2 := hd (2 * i + 1) (by omega)
    have w1 : wrap64 (2 * (i : Int)) = ((2 * i : Nat) : Int) := by rw [wrap_id (by omega) (by omega)]; omega
    have w2 : wrap64 (((2 * i : Nat) : Int) + 1) = ((2 * i + 1 : Nat) : Int) := by rw [wrap_id (by omega) (by omega)]; omega
    have hlen : (rawL s i ++ List.replicate (d + 1) 0 : List Int).length = 20 := by rw [List.length_append, rawL_len, List.length_replicate]; omega
    simp only [ident_Raw.l0]
    rw [if_pos (by omega), w1, if_pos (by omega), if_pos (by omega), value_eq, w2]
    simp only [Option.bind_some]
    rw [if_pos (by omega), if_pos (by omega), value_eq]
    simp only [Option.bind_some]
    rw [if_pos (by omega), if_pos (by rw [hlen]; omega), or_eq b1 a1.2 b2 a2.2, wrap_id (by omega) (by omega)]
    have e : (rawL s i ++ List.replicate (d + 1) 0 : List Int).set (i : Int).toNat (16 * dv (bt s ((2 * i : Nat) : Int)) + dv (bt s ((2 * i + 1 : Nat) : Int))) = rawL s (i + 1) ++ List.replicate d 0 := by
      rw [Int.toNat_natCast, List.set_append_right _ _ (by rw [rawL_len]; omega), rawL_len, Nat.sub_self, List.replicate_succ, List.set_cons_zero, rawL_succ]
      simp [rawAt]
    rw [e]
    exact_mod_cast this
theorem idOk_size {s : ByteArray} (h : idOk s = true) : s.size = 40 := by
  unfold idOk at h
  rw [Bool.and_eq_true, decide_eq_true_eq] at h
  exact h.1
theorem idOk_dv {s : ByteArray} (h : idOk s = true) : ∀ j, j < 40 → 0 ≤ dv (bt s (j : Nat)) := by
  have h40 := idOk_size h
  unfold idOk at h
  rw [Bool.and_eq_true, decide_eq_true_eq, h40] at h
  intro j hj
  exact hexF_at s 40 0 h.2 j (by omega) (by omega)
def rawOf (s : ByteArray) : ByteArray × Bool := if idOk s = true then (rawB s, true) else (⟨#[]⟩, false)
theorem ident_Raw_ev (s : ByteArray) : Ev (fun k => ident_Raw.f k s) (rawOf s) := by
  refine Ev.bind (ident_Is_ev s) ?_
  unfold rawOf
  by_cases h : idOk s = true
  · simp only [if_pos h]
    refine Ev.congr (f := fun k => ident_Raw.l0 k s (List.replicate 20 0) 20 0) (fun k => by rw [if_pos (by omega)]; rfl) ?_
    refine Ev.of (fun k => (ident_Raw.mono_l k) _ _ _ _) (k := 21) ?_
    · have := Raw_l0 s (idOk_size h) (idOk_dv h) 20 21 0 (by omega) (by omega)
      simpa [rawL] using this
  · simp only [if_neg h]; exact Ev.now _
/-! ### Hex -/
def hx (n : Int) : Int := bt (⟨#[48, 49, 50, 51, 52, 53, 54, 55, 56, 57, 97, 98, 99, 100, 101, 102]⟩ : ByteArray) n
def hexL (s : ByteArray) : Nat → List Int
  | 0 => []
  | n + 1 => hexL s n ++ [hx (bt s n / 16), hx (bt s n % 16)]
theorem hexL_len (s : ByteArray) : ∀ n, (hexL s n).length = 2 * n
  | 0 => rfl
  | n + 1 => by rw [hexL, List.length_append, hexL_len s n]; simp; omega
def hexB (s : ByteArray) : ByteArray := strOfNums (hexL s s.size)
theorem and_table : ∀ n : Fin 256, Go.bits .and .u8 (n.val : Int) 15 = (n.val : Int) % 16 := by decide +kernel
theorem and_bt (s : ByteArray) (i : Int) : Go.bits .and .u8 (bt s i) 15 = bt s i % 16 := by
  obtain ⟨n, hn⟩ := bt_fin s i
  rw [hn]; exact and_table n
theorem Hex_l0 (s : ByteArray) (hs : s.size ≤ 4294967296) : ∀ (d k i : Nat), i + d = s.size → d < k → ident_Hex.l0 k s (hexL s i) s.size i = some (hexB s) := by
  intro d
  induction d with
  | zero =>
    intro k i hi hk
    obtain ⟨k, rfl⟩ : ∃ m, k = m + 1 := ⟨k - 1, by omega⟩
    obtain rfl : i = s.size := by omega
    simp only [ident_Hex.l0]
    rw [if_neg (by omega)]; rfl
  | succ d ih =>
    intro k i hi hk
    obtain ⟨k, rfl⟩ : ∃ m, k = m + 1 := ⟨k - 1, by omega⟩
    have := ih k (i + 1) (by omega) (by omega)
    have hr := bt_range s i
    simp only [ident_Hex.l0]
    rw [if_pos (by omega), if_pos (by omega), if_pos (by omega), if_pos (by omega), if_pos (by omega), and_bt, if_pos (by omega), if_pos (by omega)]
    simp only [Option.bind_some]
    rw [if_pos (by rw [hexL_len]; simp; omega), wrap_id (by omega) (by omega)]
    exact_mod_cast this
theorem ident_Hex_ev (s : ByteArray) (hs : s.size ≤ 4294967296) : Ev (fun k => ident_Hex.f k s) (hexB s) := by
  refine Ev.of (fun k => ident_Hex.mono s k) (k := s.size + 1) ?_
  unfold ident_Hex.f
  rw [wrap_id (by omega) (by omega), if_pos (by omega), if_pos (by omega)]
  exact_mod_cast Hex_l0 s hs s.size _ 0 (by omega) (by omega)
/-! ### one behind the other -/
theorem strOfNums_size (l : List Int) : (strOfNums l).size = l.length := by
  show (l.map fun n => UInt8.ofNat n.toNat).toArray.size = _
  simp
theorem bt_strOfNums (l : List Int) (i : Nat) (h : i < l.length) (h0 : 0 ≤ l[i]) (h1 : l[i] < 256) : bt (strOfNums l) i = l[i] := by
  have hs : i < (strOfNums l).size := by rw [strOfNums_size]; exact h
  rw [bt_get _ i hs]
  have : (strOfNums l).data.toList[i]'(by rw [← Lib.size_eq]; exact hs) = UInt8.ofNat (l[i]).toNat := by simp [strOfNums]
  rw [this]
  simp
  omega
theorem bt_ext {a b : ByteArray} (hs : a.size = b.size) (h : ∀ i, i < a.size → bt a (i : Nat) = bt b (i : Nat)) : a = b := by
  apply ba_ext
  apply List.ext_getElem
  · rw [← Lib.size_eq, ← Lib.size_eq, hs]
  · intro i h1 h2
    have h1' : i < a.size := by rw [Lib.size_eq]; exact h1
    have := h i h1'
    rw [bt_get a i h1', bt_get b i (by omega)] at this
    exact UInt8.toNat_inj.1 (by exact_mod_cast this)
theorem hexL_get (s : ByteArray) : ∀ (n i : Nat) (h : i < n), (hexL s n)[2 * i]? = some (hx (bt s i / 16)) ∧ (hexL s n)[2 * i + 1]? = some (hx (bt s i % 16))
  | n + 1, i, h => by
    have hl := hexL_len s n
    by_cases e : i < n
    · have := hexL_get s n i e
      rw [hexL, List.getElem?_append_left (by omega), List.getElem?_append_left (by omega)]
      exact this
    · obtain rfl : i = n := by omega
      rw [hexL, List.getElem?_append_right (by omega), List.getElem?_append_right (by omega), hl]
      simp
theorem hx_table : ∀ n : Fin 16, dv (hx (n.val : Int)) = (n.val : Int) ∧ 0 ≤ hx (n.val : Int) ∧ hx (n.val : Int) < 256 := by decide +kernel
theorem hx_dv {a : Int} (h0 : 0 ≤ a) (h1 : a ≤ 15) : dv (hx a) = a ∧ 0 ≤ hx a ∧ hx a < 256 := by
  have := hx_table ⟨a.toNat, by omega⟩
  simpa [Int.toNat_of_nonneg h0] using this
theorem dv_hx_table : ∀ n : Fin 256, 0 ≤ dv (n.val : Int) → hx (dv (n.val : Int)) = (n.val : Int) := by decide +kernel
theorem hexB_size (s : ByteArray) : (hexB s).size = 2 * s.size := by unfold hexB; rw [strOfNums_size, hexL_len]
theorem hexB_bt (s : ByteArray) (i : Nat) (h : i < s.size) : bt (hexB s) (2 * i : Nat) = hx (bt s i / 16) ∧ bt (hexB s) (2 * i + 1 : Nat) = hx (bt s i % 16) := by
  have hr := bt_range s i
  have hl := hexL_len s s.size
  have hg := hexL_get s s.size i h
  have a1 := hx_dv (a := bt s i / 16) (by omega) (by omega)
  have a2 := hx_dv (a := bt s i % 16) (by omega) (by omega)
  have g1 : (hexL s s.size)[2 * i]'(by omega) = hx (bt s i / 16) := Option.some.inj ((List.getElem?_eq_getElem _).symm.trans hg.1)
  have g2 : (hexL s s.size)[2 * i + 1]'(by omega) = hx (bt s i % 16) := Option.some.inj ((List.getElem?_eq_getElem _).symm.trans hg.2)
  refine ⟨?_, ?_⟩
  · unfold hexB; rw [bt_strOfNums _ _ (by omega) (by rw [g1]; exact a1.2.1) (by rw [g1]; exact a1.2.2), g1]
  · unfold hexB; rw [bt_strOfNums _ _ (by omega) (by rw [g2]; exact a2.2.1) (by rw [g2]; exact a2.2.2), g2]
theorem rawB_bt (s : ByteArray) (hd : ∀ j, j < 40 → 0 ≤ dv (bt s (j : Nat))) (i : Nat) (h : i < 20) : bt (rawB s) (i : Nat) = rawAt s i := by
  have a1 := dv_bt s (2 * i : Nat)
  have a2 := dv_bt s (2 * i + 1 : Nat)
  have b1 := hd (2 * i) (by omega)
  have b2 := hd (2 * i + 1) (by omega)
  have g : (rawL s 20)[i]'(by rw [rawL_len]; omega) = rawAt s i := by simp [rawL]
  unfold rawB
  rw [bt_strOfNums _ _ (by rw [rawL_len]; omega) (by rw [g]; unfold rawAt; omega) (by rw [g]; unfold rawAt; omega), g]
theorem rawB_size (s : ByteArray) : (rawB s).size = 20 := by unfold rawB; rw [strOfNums_size, rawL_len]
theorem idOk_hexB (s : ByteArray) (h : s.size = 20) : idOk (hexB s) = true := by
  unfold idOk
  rw [Bool.and_eq_true, decide_eq_true_eq, hexB_size, h]
  refine ⟨rfl, hexF_of _ _ _ (fun j _ hj => ?_)⟩
  obtain ⟨i, rfl | rfl⟩ : ∃ i, j = 2 * i ∨ j = 2 * i + 1 := ⟨j / 2, by omega⟩
  · have hr := bt_range s i
    rw [(hexB_bt s i (by omega)).1, (hx_dv (by omega) (by omega)).1]; omega
  · have hr := bt_range s i
    rw [(hexB_bt s i (by omega)).2, (hx_dv (by omega) (by omega)).1]; omega
theorem rawB_hexB (s : ByteArray) (h : s.size = 20) : rawB (hexB s) = s := by
  have hk := idOk_dv (idOk_hexB s h)
  refine bt_ext (by rw [rawB_size, h]) (fun i hi => ?_)
  rw [rawB_size] at hi
  have hr := bt_range s i
  have hb := hexB_bt s i (by omega)
  rw [rawB_bt _ hk i hi]
  unfold rawAt
  rw [hb.1, hb.2, (hx_dv (by omega) (by omega)).1, (hx_dv (by omega) (by omega)).1]
  omega
theorem hexB_rawB (s : ByteArray) (h : idOk s = true) : hexB (rawB s) = s := by
  have hk := idOk_dv h
  have h40 := idOk_size h
  refine bt_ext (by rw [hexB_size, rawB_size, h40]) (fun j hj => ?_)
  rw [hexB_size, rawB_size] at hj
  have key : ∀ m : Nat, m < 40 → hx (dv (bt s (m : Nat))) = bt s (m : Nat) := by
    intro m hm
    obtain ⟨n, hn⟩ := bt_fin s (m : Nat)
    have := hk m hm
    rw [hn] at this ⊢
    exact dv_hx_table n this
  obtain ⟨i, rfl | rfl⟩ : ∃ i, j = 2 * i ∨ j = 2 * i + 1 := ⟨j / 2, by omega⟩
  · have b := (hexB_bt (rawB s) i (by rw [rawB_size]; omega)).1
    have a1 := dv_bt s (2 * i : Nat)
    have a2 := dv_bt s (2 * i + 1 : Nat)
    have b1 := hk (2 * i) (by omega)
    have b2 := hk (2 * i + 1) (by omega)
    rw [b, rawB_bt s hk i (by omega), ← key (2 * i) (by omega)]
    exact congrArg hx (by unfold rawAt; omega)
  · have b := (hexB_bt (rawB s) i (by rw [rawB_size]; omega)).2
    have a1 := dv_bt s (2 * i : Nat)
    have a2 := dv_bt s (2 * i + 1 : Nat)
    have b1 := hk (2 * i) (by omega)
    have b2 := hk (2 * i + 1) (by omega)
    rw [b, rawB_bt s hk i (by omega), ← key (2 * i + 1) (by omega)]
    exact congrArg hx (by unfold rawAt; omega)
end Go.Proofs.YtccbpbdfihnlgaaDoor.Q


/- Contracts of Go functions as calls of plain Lean functions, written by a program of this session over the kit's print. -/
namespace Go.Proofs.YtccbpbdfihnlgaaDoor.Q
open Go.RowKit Go.Proofs.YtccbpbdfihnlgaaDoorW.PrintWords Go.Proofs.YtccbpbdfihnlgaaDoorW.PrintLast Go.Proofs.YtccbpbdfihnlgaaDoorW.PrintMore
attribute [local go_sem] max2_int min2_int max_two min_two max_three min_three max_four min_four   -- for this text's walks alone

/-! ### graftageref14_Find: function 61 -/
def graftageref14_Find.l0 : Nat → ByteArray → Int → Int → Option (Int)
  | 0, _, _, _ => none
  | k + 1, x0, x1, x7 => if x7 < (x0.size : Int) then (if 0 ≤ x7 then (if (bt x0 x7) = x1 then (some x7) else (graftageref14_Find.l0 k x0 x1 (wrap64 (x7 + 1)))) else (none)) else (some (-1))
def graftageref14_Find.f (k : Nat) (a0 : ByteArray) (a1 : Int) (a2 : Int) : Option (Int) := graftageref14_Find.l0 k a0 a1 a2
end Go.Proofs.YtccbpbdfihnlgaaDoor.Q


/- Contracts of Go functions as calls of plain Lean functions, written by a program of this session over the kit's print. -/
namespace Go.Proofs.YtccbpbdfihnlgaaDoor.Q
open Go.RowKit Go.Proofs.YtccbpbdfihnlgaaDoorW.PrintWords Go.Proofs.YtccbpbdfihnlgaaDoorW.PrintLast Go.Proofs.YtccbpbdfihnlgaaDoorW.PrintMore
attribute [local go_sem] max2_int min2_int max_two min_two max_three min_three max_four min_four   -- for this text's walks alone

/-! ### graftageref15_May: function 23 -/
def graftageref15_May.f (k : Nat) (a0_0 : Int) (a0_1 : ByteArray) (a0_2 : ByteArray) : Option (Bool) := if a0_0 ≥ 1 then (if a0_0 ≤ 4 then ((graftageref06_Is.f k a0_1).bind fun t199 => (if t199 = true then ((graftageref14_Find.f k a0_1 47 0).bind fun t200 => (if t200 < 0 then ((graftageref02_Is.f k a0_2).bind fun t201 => (some t201)) else (some false))) else (some false))) else (some false)) else (some false)
end Go.Proofs.YtccbpbdfihnlgaaDoor.Q


/- Contracts of Go functions as calls of plain Lean functions, written by a program of this session over the kit's print. -/
namespace Go.Proofs.YtccbpbdfihnlgaaDoor.Q
open Go.RowKit Go.Proofs.YtccbpbdfihnlgaaDoorW.PrintWords Go.Proofs.YtccbpbdfihnlgaaDoorW.PrintLast Go.Proofs.YtccbpbdfihnlgaaDoorW.PrintMore
attribute [local go_sem] max2_int min2_int max_two min_two max_three min_three max_four min_four   -- for this text's walks alone

/-! ### graftageref15_key: function 66 -/
def graftageref15_key.f (a0_0 : Int) (a0_1 : ByteArray) (a0_2 : ByteArray) : Option (ByteArray) := if a0_0 = 4 then (if a0_1.size + 1 ≤ 9223372036854775807 then (some (a0_1 ++ (⟨#[47]⟩ : ByteArray))) else (none)) else (some a0_1)
end Go.Proofs.YtccbpbdfihnlgaaDoor.Q


/- Contracts of Go functions as calls of plain Lean functions, written by a program of this session over the kit's print. -/
namespace Go.Proofs.YtccbpbdfihnlgaaDoor.Q
open Go.RowKit Go.Proofs.YtccbpbdfihnlgaaDoorW.PrintWords Go.Proofs.YtccbpbdfihnlgaaDoorW.PrintLast Go.Proofs.YtccbpbdfihnlgaaDoorW.PrintMore
attribute [local go_sem] max2_int min2_int max_two min_two max_three min_three max_four min_four   -- for this text's walks alone

/-! ### graftageref15_Less: function 27 -/
def graftageref15_Less.f (a0_0 : Int) (a0_1 : ByteArray) (a0_2 : ByteArray) (a1_0 : Int) (a1_1 : ByteArray) (a1_2 : ByteArray) : Option (Bool) := (graftageref15_key.f a0_0 a0_1 a0_2).bind fun t125 => ((graftageref15_key.f a1_0 a1_1 a1_2).bind fun t126 => (some (Op.bytesLess t125.toList t126.toList)))
end Go.Proofs.YtccbpbdfihnlgaaDoor.Q


/- Contracts of Go functions as calls of plain Lean functions, written by a program of this session over the kit's print. -/
namespace Go.Proofs.YtccbpbdfihnlgaaDoor.Q
open Go.RowKit Go.Proofs.YtccbpbdfihnlgaaDoorW.PrintWords Go.Proofs.YtccbpbdfihnlgaaDoorW.PrintLast Go.Proofs.YtccbpbdfihnlgaaDoorW.PrintMore
attribute [local go_sem] max2_int min2_int max_two min_two max_three min_three max_four min_four   -- for this text's walks alone

/-! ### graftageref15_Check: function 19 -/
mutual
def graftageref15_Check.l0 : Nat → List (S35) → Int → Int → Option (Int)
  | 0, _, _, _ => none
  | k + 1, x0, x9, x10 => if x10 < x9 then (if 0 ≤ x10 then (if x10 < (x0.length : Int) then ((graftageref15_May.f k ((rd_T35 x0 x10).f0) ((rd_T35 x0 x10).f1) ((rd_T35 x0 x10).f2)).bind fun t228 => (if t228 = true then (if x10 > 0 then (if 0 ≤ (wrap64 (x10 - 1)) then (if (wrap64 (x10 - 1)) < (x0.length : Int) then ((graftageref15_Less.f ((rd_T35 x0 (wrap64 (x10 - 1))).f0) ((rd_T35 x0 (wrap64 (x10 - 1))).f1) ((rd_T35 x0 (wrap64 (x10 - 1))).f2) ((rd_T35 x0 x10).f0) ((rd_T35 x0 x10).f1) ((rd_T35 x0 x10).f2)).bind fun t231 => (graftageref15_Check.j1 k x0 x10 x9 x10 (!t231))) else (none)) else (none)) else (graftageref15_Check.j1 k x0 x10 x9 x10 false)) else (some 1))) else (none)) else (none)) else (some 0)
def graftageref15_Check.j1 : Nat → List (S35) → Int → Int → Int → Bool → Option (Int)
  | 0, _, _, _, _, _ => none
  | k + 1, x0, x3, x9, x10, x33 => if x33 = true then (some 150) else (graftageref15_Check.l1 k x0 x3 x9 x10 x3 0)
def graftageref15_Check.l1 : Nat → List (S35) → Int → Int → Int → Int → Int → Option (Int)
  | 0, _, _, _, _, _, _ => none
  | k + 1, x0, x3, x9, x10, x34, x35 => if x35 < x34 then (if 0 ≤ x35 then (if x35 < (x0.length : Int) then (if 0 ≤ x3 then (if x3 < (x0.length : Int) then (if ((rd_T35 x0 x35).f1).toList = ((rd_T35 x0 x3).f1).toList then (some 6) else (graftageref15_Check.l1 k x0 x3 x9 x10 x34 (wrap64 (x35 + 1)))) else (none)) else (none)) else (none)) else (none)) else (graftageref15_Check.l0 k x0 x9 (wrap64 (x10 + 1)))
end
end Go.Proofs.YtccbpbdfihnlgaaDoor.Q


/- Trees: entries, their order, the test of a list; the program's and the reference's. (35: the type of an entry in this seat's translation.) -/
namespace Go.Proofs.YtccbpbdfihnlgaaDoor.Q
open Go.RowKit Go.Proofs.YtccbpbdfihnlgaaDoorW.PrintWords Go.Proofs.YtccbpbdfihnlgaaDoorW.PrintLast Go.Proofs.YtccbpbdfihnlgaaDoorW.PrintMore

theorem ev_ite {α : Type} {c : Prop} [Decidable c] {f g : Nat → Option α} {r : α} (h1 : c → Ev f r) (h2 : ¬ c → Ev g r) : Ev (fun k => if c then f k else g k) r := by
  by_cases h : c
  · simp only [if_pos h]; exact h1 h
  · simp only [if_neg h]; exact h2 h
theorem rd35_get (l : List S35) (i : Nat) (h : i < l.length) : rd_T35 l i = l[i] := by
  simp [rd_T35, List.getD, List.getElem?_eq_getElem h]
/-! ### what may be -/
def no47 (s : ByteArray) : Bool := decide (Lib.indexByte s.data.toList 47 < 0)
def mayB (e : S35) : Bool := decide (1 ≤ e.f0) && (decide (e.f0 ≤ 4) && (isPath e.f1 && (no47 e.f1 && idOk e.f2)))
theorem may_ev (e : S35) : Ev (fun k => tree_may.f k e.f0 e.f1 e.f2) (mayB e) := by
  unfold mayB
  refine ev_ite (fun h1 => ev_ite (fun h2 => ?_) (fun h2 => ?_)) (fun h1 => ?_)
  · rw [decide_eq_true (show 1 ≤ e.f0 from h1), decide_eq_true h2, Bool.true_and, Bool.true_and]
    refine Ev.bind (path_Is_ev e.f1) (ev_ite (fun h3 => ?_) (fun h3 => ?_))
    · rw [h3, Bool.true_and]
      have hc : strings_Contains.f e.f1 ⟨#[47]⟩ = some (!no47 e.f1) := by
        show some (decide (0 ≤ Lib.indexByte e.f1.data.toList 47)) = _
        unfold no47
        congr 1
        rw [← decide_not]
        apply decide_eq_decide.2
        omega
      rw [hc]
      simp only [Option.bind_some]
      by_cases h4 : no47 e.f1 = true
      · simp only [h4, Bool.not_true, Bool.false_eq_true, if_false, Bool.true_and]
        exact Ev.bind (ident_Is_ev e.f2) (Ev.now _)
      · rw [Bool.not_eq_true] at h4
        simp only [h4, Bool.not_false, if_true, Bool.false_and]
        exact Ev.now _
    · rw [Bool.not_eq_true] at h3
      rw [h3, Bool.false_and]; exact Ev.now _
  · rw [decide_eq_false (show ¬ e.f0 ≤ 4 from h2), Bool.false_and, Bool.and_false]; exact Ev.now _
  · rw [decide_eq_false (show ¬ 1 ≤ e.f0 from h1), Bool.false_and]; exact Ev.now _
/-! ### the order -/
def keyB (m : Int) (s : ByteArray) : ByteArray := if m = 4 then s ++ ⟨#[47]⟩ else s
def lessB (a b : S35) : Bool := Op.bytesLess (keyB a.f0 a.f1).toList (keyB b.f0 b.f1).toList
theorem key_eq (m : Int) (s i : ByteArray) (hs : s.size ≤ 140737488351232) : tree_key.f m s i = some (keyB m s) := by
  unfold tree_key.f keyB
  by_cases h : m = 4
  · rw [if_pos h, if_pos h, if_pos (by omega)]
  · rw [if_neg h, if_neg h]
theorem Less_eq (a b : S35) (ha : a.f1.size ≤ 140737488351232) (hb : b.f1.size ≤ 140737488351232) : tree_Less.f a.f0 a.f1 a.f2 b.f0 b.f1 b.f2 = some (lessB a b) := by
  unfold tree_Less.f lessB
  rw [key_eq _ _ _ ha]
  simp only [Option.bind_some]
  rw [key_eq _ _ _ hb]
  rfl
/-! ### the test of a list -/
def z35' : S35 := ⟨0, ⟨#[]⟩, ⟨#[]⟩⟩
def at35 (l : List S35) (i : Nat) : S35 := rd_T35 l i
/-- How often a name stands among the first n. -/
def cnt (l : List S35) (x : List UInt8) : Nat → Int
  | 0 => 0
  | n + 1 => cnt l x n + (if (at35 l n).f1.data.toList = x then 1 else 0)
theorem cnt_ge (l : List S35) (x : List UInt8) : ∀ n, 0 ≤ cnt l x n ∧ cnt l x n ≤ n
  | 0 => by simp [cnt]
  | n + 1 => by
    have := cnt_ge l x n
    unfold cnt
    split <;> omega
def dupF (l : List S35) (x : List UInt8) : Nat → Bool
  | 0 => false
  | n + 1 => dupF l x n || decide ((at35 l n).f1.data.toList = x)
theorem cnt_dup (l : List S35) (x : List UInt8) : ∀ n, decide (0 < cnt l x n) = dupF l x n
  | 0 => by simp [cnt, dupF]
  | n + 1 => by
    have ih := cnt_dup l x n
    have := cnt_ge l x n
    rw [cnt, dupF, ← ih]
    by_cases h : (at35 l n).f1.data.toList = x
    · rw [if_pos h, decide_eq_true h, Bool.or_true, decide_eq_true (by omega)]
    · rw [if_neg h, decide_eq_false h, Bool.or_false, Int.add_zero]
def cF (l : List S35) : Nat → Nat → Int
  | 0, _ => 0
  | d + 1, i => if mayB (at35 l i) = false then 1 else if (decide (0 < i) && !lessB (at35 l (i - 1)) (at35 l i)) = true then 150 else if dupF l (at35 l i).f1.data.toList i = true then 6 else cF l d (i + 1)
def checkB (l : List S35) : Int := if l.length > 1024 then 4 else cF l l.length 0
structure MetI (l : List S35) (N : Nat) (m : MSI) : Prop where
  hn : m.n = N
  hf : ∀ x, (m.f x).getD 0 = cnt l x N
theorem MetI.put {l : List S35} {n : Nat} {m : MSI} (h : MetI l n m) (hn : n ≤ 1024) : MetI l (n + 1) (MSI.put m (at35 l n).f1 (wrap64 (MSI.get m (at35 l n).f1 + 1))) := by
  refine ⟨by simp [MSI.put, h.hn], fun x => ?_⟩
  have hc := cnt_ge l x n
  have hg : MSI.get m (at35 l n).f1 = cnt l (at35 l n).f1.data.toList n := h.hf _
  have hc2 := cnt_ge l (at35 l n).f1.data.toList n
  rw [hg, wrap_id (by omega) (by omega)]
  simp only [MSI.put]
  by_cases e : x = (at35 l n).f1.data.toList
  · rw [if_pos e, cnt, if_pos e.symm, e]; rfl
  · rw [if_neg e, cnt, if_neg (fun h => e h.symm), Int.add_zero]; exact h.hf x
theorem at_size (l : List S35) (hs : ∀ x ∈ l, x.f1.size ≤ 4294967280) (hn : l.length ≤ 1024) (i : Nat) (h : i < l.length) : (at35 l i).f1.size ≤ 4294967280 := by
  unfold at35; rw [rd35_get l i h]; exact hs _ (List.getElem_mem h)
section
variable (l : List S35) (hs : ∀ x ∈ l, x.f1.size ≤ 4294967280) (hn : l.length ≤ 1024)
include hs hn
theorem Check_l0 : ∀ (d i : Nat) (m : MSI), i + d = l.length → MetI l i m → Ev (fun k => tree_Check.l0 k l l l.length i m) (cF l d i) := by
  intro d
  induction d with
  | zero =>
    intro i m hi hm
    exact Ev.step (f := fun _ => some 0) (fun k => by rw [tree_Check.l0, if_neg (by omega)]) (Ev.now _)
  | succ d ih =>
    intro i m hi hm
    have hsz := at_size l hs hn i (by omega)
    have e0 : rd_T35 l (i : Int) = at35 l i := rfl
    refine Ev.step (f := fun k => (tree_may.f k (at35 l i).f0 (at35 l i).f1 (at35 l i).f2).bind fun t104 => (if t104 = true then (if (i : Int) > 0 then (if 0 ≤ (wrap64 ((i : Int) - 1)) then (if (wrap64 ((i : Int) - 1)) < (l.length : Int) then ((tree_Less.f ((rd_T35 l (wrap64 ((i : Int) - 1))).f0) ((rd_T35 l (wrap64 ((i : Int) - 1))).f1) ((rd_T35 l (wrap64 ((i : Int) - 1))).f2) (at35 l i).f0 (at35 l i).f1 (at35 l i).f2).bind fun t106 => (tree_Check.j1 k l l l.length i (!t106) (MSI.put m (at35 l i).f1 (wrap64 (MSI.get m (at35 l i).f1 + 1))) (at35 l i).f0 (at35 l i).f1 (at35 l i).f2)) else none) else none) else (tree_Check.j1 k l l l.length i false (MSI.put m (at35 l i).f1 (wrap64 (MSI.get m (at35 l i).f1 + 1))) (at35 l i).f0 (at35 l i).f1 (at35 l i).f2)) else (some 1))) (fun k => ?_) ?_
    · rw [tree_Check.l0, if_pos (by omega), if_pos (by omega), if_pos (by omega), e0, if_pos (by omega), if_pos (by rw [hm.hn]; omega)]
    · refine Ev.bind (may_ev (at35 l i)) ?_
      rw [cF]
      by_cases hmay : mayB (at35 l i) = true
      · simp only [hmay, if_true, Bool.true_eq_false, if_false]
        have hput := hm.put (by omega)
        have hJ : ∀ b : Bool, Ev (fun k => tree_Check.j1 k l l l.length i b (MSI.put m (at35 l i).f1 (wrap64 (MSI.get m (at35 l i).f1 + 1))) (at35 l i).f0 (at35 l i).f1 (at35 l i).f2) (if b = true then 150 else if dupF l (at35 l i).f1.data.toList i = true then 6 else cF l d (i + 1)) := by
          intro b
          refine Ev.step (f := fun k => if b = true then some 150 else (if MSI.get (MSI.put m (at35 l i).f1 (wrap64 (MSI.get m (at35 l i).f1 + 1))) (at35 l i).f1 > 1 then some 6 else tree_Check.l0 k l l l.length ((i : Int) + 1) (MSI.put m (at35 l i).f1 (wrap64 (MSI.get m (at35 l i).f1 + 1))))) (fun k => ?_) ?_
          · rw [tree_Check.j1, if_pos (show (at35 l i).f1.size ≤ 9223372036854775807 by omega), wrap_id (x := (i : Int) + 1) (by omega) (by omega)]
          · have hg : MSI.get (MSI.put m (at35 l i).f1 (wrap64 (MSI.get m (at35 l i).f1 + 1))) (at35 l i).f1 = cnt l (at35 l i).f1.data.toList (i + 1) := hput.hf _
            rw [hg, cnt, if_pos rfl, ← cnt_dup]
            refine ev_ite (fun hb => ?_) (fun hb => ?_)
            · rw [if_pos hb]; exact Ev.now _
            · rw [if_neg hb]
              refine ev_ite (fun hc => ?_) (fun hc => ?_)
              · rw [if_pos (decide_eq_true (by omega))]; exact Ev.now _
              · rw [if_neg (by rw [decide_eq_true_eq]; omega)]
                exact_mod_cast ih (i + 1) _ (by omega) hput
        refine ev_ite (fun h0 => ?_) (fun h0 => ?_)
        · have e1 : wrap64 ((i : Int) - 1) = ((i - 1 : Nat) : Int) := by rw [wrap_id (by omega) (by omega)]; omega
          have hsz1 := at_size l hs hn (i - 1) (by omega)
          rw [e1]
          refine Ev.congr (f := fun k => tree_Check.j1 k l l l.length i (!lessB (at35 l (i - 1)) (at35 l i)) (MSI.put m (at35 l i).f1 (wrap64 (MSI.get m (at35 l i).f1 + 1))) (at35 l i).f0 (at35 l i).f1 (at35 l i).f2) (fun k => ?_) ?_
          · rw [if_pos (by omega), if_pos (by omega)]
            have := Less_eq (at35 l (i - 1)) (at35 l i) (by omega) (by omega)
            unfold at35 at this ⊢
            rw [this]; rfl
          · have := hJ (!lessB (at35 l (i - 1)) (at35 l i))
            rw [decide_eq_true (show 0 < i by omega), Bool.true_and]
            exact this
        · have := hJ false
          rw [decide_eq_false (show ¬ 0 < i by omega), Bool.false_and]
          exact this
      · rw [Bool.not_eq_true] at hmay
        simp only [hmay, Bool.false_eq_true, if_false, if_true]
        exact Ev.now _
end
theorem metI0 (l : List S35) : MetI l 0 MSI.nil := ⟨rfl, fun x => rfl⟩
theorem Check_ev (l : List S35) (hs : ∀ x ∈ l, x.f1.size ≤ 4294967280) : Ev (fun k => tree_Check.f k l) (checkB l) := by
  unfold checkB
  refine ev_ite (fun h => ?_) (fun h => ?_)
  · rw [if_pos (by omega)]; exact Ev.now _
  · rw [if_neg (by omega)]
    exact_mod_cast Check_l0 l hs (by omega) l.length 0 MSI.nil (by omega) (metI0 l)
section
variable (l : List S35) (hs : ∀ x ∈ l, x.f1.size ≤ 4294967280) (hn : l.length ≤ 1024)
include hs hn
end
theorem Check_ev' (l : List S35) (hs : l.length ≤ 1024 → ∀ x ∈ l, x.f1.size ≤ 4294967280) : Ev (fun k => tree_Check.f k l) (checkB l) := by
  by_cases h : l.length ≤ 1024
  · exact Check_ev l (hs h)
  · unfold checkB
    refine ev_ite (fun h => ?_) (fun h => ?_)
    · rw [if_pos (by omega)]; exact Ev.now _
    · omega
/-! ### few, Same -/
def fewF (l : List S35) : Nat → Nat → Bool
  | 0, _ => decide (l.length ≤ 60)
  | d + 1, i => if ((at35 l i).f1.size + (at35 l i).f2.size : Nat) > 500 then false else fewF l d (i + 1)
theorem few_ev (l : List S35) (hs : ∀ x ∈ l, x.f1.size ≤ 140737488351232 ∧ x.f2.size ≤ 140737488351232) (hn : l.length ≤ 140737488351232) : Ev (fun k => graftagelaw15_few.f k l) (fewF l l.length 0) := by
  have key : ∀ (d i : Nat), i + d = l.length → Ev (fun k => graftagelaw15_few.l0 k l l.length i) (fewF l d i) := by
    intro d
    induction d with
    | zero =>
      intro i hi
      refine Ev.step (f := fun _ => some (decide (l.length ≤ 60))) (fun k => ?_) (Ev.now _)
      rw [graftagelaw15_few.l0, if_neg (by omega)]
      congr 1
      apply decide_eq_decide.2
      omega
    | succ d ih =>
      intro i hi
      have h0 : (at35 l i).f1.size ≤ 140737488351232 ∧ (at35 l i).f2.size ≤ 140737488351232 := by unfold at35; rw [rd35_get l i (by omega)]; exact hs _ (List.getElem_mem _)
      have e0 : rd_T35 l (i : Int) = at35 l i := rfl
      refine Ev.step (f := fun k => if (((at35 l i).f1.size : Int) + ((at35 l i).f2.size : Int)) > 500 then some false else graftagelaw15_few.l0 k l l.length ((i : Int) + 1)) (fun k => by rw [graftagelaw15_few.l0, if_pos (by omega), if_pos (by omega), if_pos (by omega), e0, wrap_id (by omega) (by omega), wrap_id (by omega) (by omega)]) ?_
      rw [fewF]
      refine ev_ite (fun h => ?_) (fun h => ?_)
      · rw [if_pos (by omega)]; exact Ev.now _
      · rw [if_neg (by omega)]; exact_mod_cast ih (i + 1) (by omega)
  exact_mod_cast key l.length 0 (by omega)
theorem few_all (l : List S35) : ∀ (d i : Nat), i + d = l.length → fewF l d i = true → l.length ≤ 60 ∧ ∀ j, i ≤ j → j < l.length → (at35 l j).f1.size + (at35 l j).f2.size ≤ 500
  | 0, i, hi, h => ⟨by simpa [fewF] using h, fun j h1 h2 => by omega⟩
  | d + 1, i, hi, h => by
    rw [fewF] at h
    split at h
    · cases h
    · obtain ⟨h1, h2⟩ := few_all l d (i + 1) (by omega) h
      refine ⟨h1, fun j hj hl => ?_⟩
      by_cases e : j = i
      · rw [e]; omega
      · exact h2 j (by omega) hl
theorem few_size {l : List S35} (h : fewF l l.length 0 = true) : ∀ x ∈ l, x.f1.size + x.f2.size ≤ 500 := by
  intro x hx
  obtain ⟨j, hj, rfl⟩ := List.mem_iff_getElem.1 hx
  have := (few_all l l.length 0 (by omega) h).2 j (by omega) hj
  unfold at35 at this
  rwa [rd35_get l j hj] at this
theorem Same35_ev (l : List S35) (hn : l.length ≤ 140737488351232) : Ev (fun k => graftageref15_Same.f k l l) true := by
  have key : ∀ (d i : Nat), i + d = l.length → Ev (fun k => graftageref15_Same.l0 k l l l.length i) true := by
    intro d
    induction d with
    | zero =>
      intro i hi
      exact Ev.step (f := fun _ => some true) (fun k => by rw [graftageref15_Same.l0, if_neg (by omega)]) (Ev.now _)
    | succ d ih =>
      intro i hi
      refine Ev.step (f := fun k => graftageref15_Same.l0 k l l l.length ((i : Int) + 1)) (fun k => by rw [graftageref15_Same.l0, if_pos (by omega), if_pos (by omega), if_pos (by omega), if_pos (by omega), if_neg (by simp), wrap_id (by omega) (by omega)]) ?_
      exact_mod_cast ih (i + 1) (by omega)
  refine Ev.congr (f := fun k => graftageref15_Same.l0 k l l l.length 0) (fun k => by unfold graftageref15_Same.f; rw [if_pos rfl]) ?_
  exact_mod_cast key l.length 0 (by omega)
end Go.Proofs.YtccbpbdfihnlgaaDoor.Q


/- Contracts of Go functions as calls of plain Lean functions, written by a program of this session over the kit's print. -/
namespace Go.Proofs.YtccbpbdfihnlgaaDoor.Q
open Go.RowKit Go.Proofs.YtccbpbdfihnlgaaDoorW.PrintWords Go.Proofs.YtccbpbdfihnlgaaDoorW.PrintLast Go.Proofs.YtccbpbdfihnlgaaDoorW.PrintMore
attribute [local go_sem] max2_int min2_int max_two min_two max_three min_three max_four min_four   -- for this text's walks alone

/-! ### graftageref15_digits: function 54 -/
def graftageref15_digits.f (a0 : Int) : Option (ByteArray) := if a0 = 1 then (some (⟨#[49, 48, 48, 54, 52, 52, 32]⟩ : ByteArray)) else (if a0 = 2 then (some (⟨#[49, 48, 48, 55, 53, 53, 32]⟩ : ByteArray)) else (if a0 = 3 then (some (⟨#[49, 50, 48, 48, 48, 48, 32]⟩ : ByteArray)) else (some (⟨#[52, 48, 48, 48, 48, 32]⟩ : ByteArray))))
end Go.Proofs.YtccbpbdfihnlgaaDoor.Q


/- Contracts of Go functions as calls of plain Lean functions, written by a program of this session over the kit's print. -/
namespace Go.Proofs.YtccbpbdfihnlgaaDoor.Q
open Go.RowKit Go.Proofs.YtccbpbdfihnlgaaDoorW.PrintWords Go.Proofs.YtccbpbdfihnlgaaDoorW.PrintLast Go.Proofs.YtccbpbdfihnlgaaDoorW.PrintMore
attribute [local go_sem] max2_int min2_int max_two min_two max_three min_three max_four min_four   -- for this text's walks alone

end Go.Proofs.YtccbpbdfihnlgaaDoor.Q


/- Contracts of Go functions as calls of plain Lean functions, written by a program of this session over the kit's print. -/
namespace Go.Proofs.YtccbpbdfihnlgaaDoor.Q
open Go.RowKit Go.Proofs.YtccbpbdfihnlgaaDoorW.PrintWords Go.Proofs.YtccbpbdfihnlgaaDoorW.PrintLast Go.Proofs.YtccbpbdfihnlgaaDoorW.PrintMore
attribute [local go_sem] max2_int min2_int max_two min_two max_three min_three max_four min_four   -- for this text's walks alone

/-! ### graftageref15_begins: function 136 -/
def graftageref15_begins.f (a0 : ByteArray) (a1 : ByteArray) : Option (Bool) := if (a0.size : Int) ≥ (a1.size : Int) then (if 0 ≤ (a1.size : Int) then (if (a1.size : Int) ≤ (a0.size : Int) then (some ((a0.extract 0 a1.size).toList == a1.toList)) else (none)) else (none)) else (some false)
end Go.Proofs.YtccbpbdfihnlgaaDoor.Q


/- Contracts of Go functions as calls of plain Lean functions, written by a program of this session over the kit's print. -/
namespace Go.Proofs.YtccbpbdfihnlgaaDoor.Q
open Go.RowKit Go.Proofs.YtccbpbdfihnlgaaDoorW.PrintWords Go.Proofs.YtccbpbdfihnlgaaDoorW.PrintLast Go.Proofs.YtccbpbdfihnlgaaDoorW.PrintMore
attribute [local go_sem] max2_int min2_int max_two min_two max_three min_three max_four min_four   -- for this text's walks alone

/-! ### graftageref15_mode: function 109 -/
mutual
def graftageref15_mode.l0 : Nat → ByteArray → Int → Option (Int)
  | 0, _, _ => none
  | k + 1, x0, x3 => if x3 ≤ 4 then ((graftageref15_digits.f x3).bind fun t137 => ((graftageref15_begins.f x0 t137).bind fun t138 => (if t138 = true then (some x3) else (graftageref15_mode.l0 k x0 (wrap64 (x3 + 1)))))) else (graftageref15_mode.l1 k x0 1)
def graftageref15_mode.l1 : Nat → ByteArray → Int → Option (Int)
  | 0, _, _ => none
  | k + 1, x0, x4 => if x4 ≤ 4 then ((graftageref15_digits.f x4).bind fun t139 => ((graftageref15_begins.f t139 x0).bind fun t140 => (if t140 = true then (some (-1)) else (graftageref15_mode.l1 k x0 (wrap64 (x4 + 1)))))) else (some 0)
end
end Go.Proofs.YtccbpbdfihnlgaaDoor.Q


/- Contracts of Go functions as calls of plain Lean functions, written by a program of this session over the kit's print. -/
namespace Go.Proofs.YtccbpbdfihnlgaaDoor.Q
open Go.RowKit Go.Proofs.YtccbpbdfihnlgaaDoorW.PrintWords Go.Proofs.YtccbpbdfihnlgaaDoorW.PrintLast Go.Proofs.YtccbpbdfihnlgaaDoorW.PrintMore
attribute [local go_sem] max2_int min2_int max_two min_two max_three min_three max_four min_four   -- for this text's walks alone

def graftageref15_one.T10 : Bool × List (List Nat × List Nat) := (true, [([], []), ([], []), ([], []), ([], []), ([1, 2, 3], [1, 2, 3]), ([], []), ([], []), ([6], [6]), ([], []), ([8], [8]), ([5, 7, 9], [5, 7, 9]), ([10], [10]), ([0, 4, 11], [0, 4, 11]), ([], []), ([13], [13]), ([12, 11, 0, 1, 2, 3, 4, 5, 6, 7, 8, 9, 10, 11, 12], [12]), ([14, 15, 0, 1, 2, 3, 4, 5, 6, 7, 8, 9, 10, 11, 12, 13, 14, 15], [14]), ([16, 0, 1, 2, 3, 4, 5, 6, 7, 8, 9, 10, 11, 12, 13, 14, 15, 16], [])])
def graftageref15_one.B10 : List Nat := [0, 0, 0, 0, 14, 0, 0, 64, 0, 256, 992, 2016, 4095, 0, 8192, 8191, 65535, 131071]
theorem graftageref15_one.tab10 : rtab .any (opsOf Tryd.f59 10) = graftageref15_one.T10 := by kernel_rfl
theorem graftageref15_one.bits10 : waitsOk graftageref15_one.T10.2 graftageref15_one.B10 = true := by kernel_rfl
end Go.Proofs.YtccbpbdfihnlgaaDoor.Q


/- Contracts of Go functions as calls of plain Lean functions, written by a program of this session over the kit's print. -/
namespace Go.Proofs.YtccbpbdfihnlgaaDoor.Q
open Go.RowKit Go.Proofs.YtccbpbdfihnlgaaDoorW.PrintWords Go.Proofs.YtccbpbdfihnlgaaDoorW.PrintLast Go.Proofs.YtccbpbdfihnlgaaDoorW.PrintMore
attribute [local go_sem] max2_int min2_int max_two min_two max_three min_three max_four min_four   -- for this text's walks alone

end Go.Proofs.YtccbpbdfihnlgaaDoor.Q


/- Contracts of Go functions as calls of plain Lean functions, written by a program of this session over the kit's print. -/
namespace Go.Proofs.YtccbpbdfihnlgaaDoor.Q
open Go.RowKit Go.Proofs.YtccbpbdfihnlgaaDoorW.PrintWords Go.Proofs.YtccbpbdfihnlgaaDoorW.PrintLast Go.Proofs.YtccbpbdfihnlgaaDoorW.PrintMore
attribute [local go_sem] max2_int min2_int max_two min_two max_three min_three max_four min_four   -- for this text's walks alone

end Go.Proofs.YtccbpbdfihnlgaaDoor.Q


/- Contracts of Go functions as calls of plain Lean functions, written by a program of this session over the kit's print. -/
namespace Go.Proofs.YtccbpbdfihnlgaaDoor.Q
open Go.RowKit Go.Proofs.YtccbpbdfihnlgaaDoorW.PrintWords Go.Proofs.YtccbpbdfihnlgaaDoorW.PrintLast Go.Proofs.YtccbpbdfihnlgaaDoorW.PrintMore
attribute [local go_sem] max2_int min2_int max_two min_two max_three min_three max_four min_four   -- for this text's walks alone

end Go.Proofs.YtccbpbdfihnlgaaDoor.Q


/- Trees: bodies and their entries; TreeChecks, TreeParses, TreeBack. -/
namespace Go.Proofs.YtccbpbdfihnlgaaDoor.Q
open Go.RowKit Go.Proofs.YtccbpbdfihnlgaaDoorW.PrintWords Go.Proofs.YtccbpbdfihnlgaaDoorW.PrintLast Go.Proofs.YtccbpbdfihnlgaaDoorW.PrintMore
/-! ### what a test that passes tells -/
theorem cF_zero (l : List S35) : ∀ (d i : Nat), cF l d i = 0 → ∀ j, i ≤ j → j < i + d → mayB (at35 l j) = true ∧ (0 < j → lessB (at35 l (j - 1)) (at35 l j) = true) ∧ dupF l (at35 l j).f1.data.toList j = false := by
  intro d
  induction d with
  | zero => intro i _ j h1 h2; omega
  | succ d ih =>
    intro i h j h1 h2
    rw [cF] at h
    split at h
    · omega
    · rename_i hm
      split at h
      · omega
      · rename_i hl
        split at h
        · omega
        · rename_i hd
          by_cases e : j = i
          · subst e
            refine ⟨by simpa using hm, fun h0 => ?_, by simpa using hd⟩
            rw [decide_eq_true h0] at hl
            simpa using hl
          · exact ih (i + 1) h j (by omega) (by omega)
theorem checkB_zero {l : List S35} (h : checkB l = 0) : l.length ≤ 1024 ∧ ∀ j, j < l.length → mayB (at35 l j) = true ∧ (0 < j → lessB (at35 l (j - 1)) (at35 l j) = true) ∧ dupF l (at35 l j).f1.data.toList j = false := by
  unfold checkB at h
  split at h
  · omega
  · exact ⟨by omega, fun j hj => cF_zero l l.length 0 h j (by omega) (by omega)⟩
theorem mayB_and {e : S35} (h : mayB e = true) : 1 ≤ e.f0 ∧ e.f0 ≤ 4 ∧ isPath e.f1 = true ∧ no47 e.f1 = true ∧ idOk e.f2 = true := by
  unfold mayB at h
  simp only [Bool.and_eq_true, decide_eq_true_eq] at h
  exact ⟨h.1, h.2.1, h.2.2.1, h.2.2.2.1, h.2.2.2.2⟩
theorem path_size {s : ByteArray} (h : isPath s = true) : s.size ≤ 255 := by
  unfold isPath at h
  simp only [Bool.and_eq_true, decide_eq_true_eq] at h
  exact h.1.2
theorem checkB_may {l : List S35} (h : checkB l = 0) : ∀ e ∈ l, mayB e = true := by
  intro e he
  obtain ⟨j, hj, rfl⟩ := List.mem_iff_getElem.1 he
  have := (checkB_zero h).2 j hj
  unfold at35 at this
  rw [rd35_get l j hj] at this
  exact this.1
/-! ### bodies -/
def dgB (m : Int) : ByteArray := if m = 1 then ⟨#[49, 48, 48, 54, 52, 52, 32]⟩ else if m = 2 then ⟨#[49, 48, 48, 55, 53, 53, 32]⟩ else if m = 3 then ⟨#[49, 50, 48, 48, 48, 48, 32]⟩ else if m = 4 then ⟨#[52, 48, 48, 48, 48, 32]⟩ else ⟨#[]⟩
theorem digits_eq (m : Int) : tree_digits.f m = some (dgB m) := by
  unfold tree_digits.f dgB
  by_cases h1 : m = 1
  · rw [if_pos h1, if_pos h1]
  rw [if_neg h1, if_neg h1]
  by_cases h2 : m = 2
  · rw [if_pos h2, if_pos h2]
  rw [if_neg h2, if_neg h2]
  by_cases h3 : m = 3
  · rw [if_pos h3, if_pos h3]
  rw [if_neg h3, if_neg h3]
  by_cases h4 : m = 4
  · rw [if_pos h4, if_pos h4]
  rw [if_neg h4, if_neg h4]
theorem dgB_size (m : Int) : (dgB m).size ≤ 7 := by
  unfold dgB
  split
  · decide
  · split
    · decide
    · split
      · decide
      · split <;> decide
def encB (e : S35) : ByteArray := ((dgB e.f0 ++ e.f1) ++ ⟨#[0]⟩) ++ rawB e.f2
def bodyF (l : List S35) : Nat → Nat → ByteArray → ByteArray
  | 0, _, acc => acc
  | d + 1, i, acc => bodyF l d (i + 1) (acc ++ encB (at35 l i))
def bodyOf (l : List S35) : ByteArray × Int := if checkB l = 0 then (bodyF l l.length 0 ⟨#[]⟩, 0) else (⟨#[]⟩, checkB l)
theorem z1 : (⟨#[0]⟩ : ByteArray).size = 1 := rfl
theorem encB_size {e : S35} (h : mayB e = true) : (encB e).size ≤ 290 := by
  have h1 := dgB_size e.f0
  have h2 := path_size (mayB_and h).2.2.1
  unfold encB
  rw [ByteArray.size_append, ByteArray.size_append, ByteArray.size_append, rawB_size, z1]
  omega
section
variable (l : List S35) (hn : l.length ≤ 1024) (hm : ∀ j, j < l.length → mayB (at35 l j) = true)
include hn hm
theorem Body_l0 : ∀ (d i : Nat) (acc : ByteArray), i + d = l.length → acc.size ≤ i * 290 → Ev (fun k => tree_Body.l0 k l l.length i acc) (bodyF l d i acc, 0) := by
  intro d
  induction d with
  | zero =>
    intro i acc hi ha
    exact Ev.step (f := fun _ => some (acc, 0)) (fun k => by rw [tree_Body.l0, if_neg (by omega)]; rfl) (Ev.now _)
  | succ d ih =>
    intro i acc hi ha
    have hmay := hm i (by omega)
    obtain ⟨m1, m4, mp, _, mi⟩ := mayB_and hmay
    have h1 := dgB_size (at35 l i).f0
    have h2 := path_size mp
    have h3 := encB_size hmay
    have e0 : rd_T35 l (i : Int) = at35 l i := rfl
    refine Ev.step (f := fun k => (ident_Raw.f k (at35 l i).f2).bind fun bt105 => ((tree_digits.f (at35 l i).f0).bind fun t107 => (if t107.size + (at35 l i).f1.size ≤ 9223372036854775807 then (if (t107 ++ (at35 l i).f1).size + 1 ≤ 9223372036854775807 then (if ((t107 ++ (at35 l i).f1) ++ (⟨#[0]⟩ : ByteArray)).size + bt105.1.size ≤ 9223372036854775807 then ((Builder_WriteString.f acc (((t107 ++ (at35 l i).f1) ++ (⟨#[0]⟩ : ByteArray)) ++ bt105.1)).bind fun bt108 => (tree_Body.l0 k l l.length ((i : Int) + 1) bt108.2.2)) else none) else none) else none))) (fun k => by rw [tree_Body.l0, if_pos (by omega), if_pos (by omega), if_pos (by omega), e0, wrap_id (by omega) (by omega)]) ?_
    refine Ev.bind (ident_Raw_ev (at35 l i).f2) ?_
    have hr : rawOf (at35 l i).f2 = (rawB (at35 l i).f2, true) := by unfold rawOf; rw [if_pos mi]
    rw [hr, digits_eq]
    simp only [Option.bind_some]
    have s1 : (dgB (at35 l i).f0 ++ (at35 l i).f1).size ≤ 262 := by rw [ByteArray.size_append]; omega
    have s2 : ((dgB (at35 l i).f0 ++ (at35 l i).f1) ++ (⟨#[0]⟩ : ByteArray)).size ≤ 263 := by rw [ByteArray.size_append, z1]; omega
    refine Ev.congr (f := fun k => tree_Body.l0 k l l.length ((i : Int) + 1) (acc ++ encB (at35 l i))) (fun k => ?_) ?_
    · rw [if_pos (by omega), if_pos (by omega), if_pos (by rw [rawB_size]; omega)]
      unfold Builder_WriteString.f
      rw [if_pos (by unfold encB at h3; omega)]
      rfl
    · rw [bodyF]
      exact_mod_cast ih (i + 1) _ (by omega) (by rw [ByteArray.size_append]; omega)
end
theorem Body_ev (l : List S35) (hs : l.length ≤ 1024 → ∀ x ∈ l, x.f1.size ≤ 4294967280) : Ev (fun k => tree_Body.f k l) (bodyOf l) := by
  refine Ev.bind (Check_ev' l hs) ?_
  unfold bodyOf
  refine ev_ite (fun h => ?_) (fun h => ?_)
  · rw [if_pos h]
    obtain ⟨h1, h2⟩ := checkB_zero h
    exact_mod_cast Body_l0 l h1 (fun j hj => (h2 j hj).1) l.length 0 ⟨#[]⟩ (by omega) (Nat.zero_le _)
  · rw [if_neg h]; exact Ev.now _
/-! ### one entry's bytes -/
def pre (a b : ByteArray) : Bool := decide (b.size ≤ a.size) && ((a.extract 0 b.size).toList == b.toList)
theorem HasPrefix_eq (a b : ByteArray) : strings_HasPrefix.f a b = some (pre a b) := by
  unfold strings_HasPrefix.f stringslite_HasPrefix.f pre
  by_cases h : b.size ≤ a.size
  · rw [if_pos (by omega), if_pos (by omega), if_pos (by omega), decide_eq_true h, Bool.true_and]; rfl
  · rw [if_neg (by omega), decide_eq_false h, Bool.false_and]; rfl
theorem pre_size {a b : ByteArray} (h : pre a b = true) : b.size ≤ a.size := by
  unfold pre at h
  rw [Bool.and_eq_true, decide_eq_true_eq] at h
  exact h.1
theorem CutPrefix_eq (a b : ByteArray) : strings_CutPrefix.f a b = some (if pre a b = true then (a.extract b.size a.size, true) else (a, false)) := by
  unfold strings_CutPrefix.f stringslite_CutPrefix.f
  have := HasPrefix_eq a b
  unfold strings_HasPrefix.f at this
  have h2 : stringslite_HasPrefix.f a b = some (pre a b) := by simpa using this
  rw [h2]
  simp only [Option.bind_some]
  by_cases h : pre a b = true
  · have := pre_size h
    rw [if_pos h, if_pos h, if_pos (by omega), if_pos (by omega)]; rfl
  · rw [if_neg h, if_neg h]; rfl
theorem pre_iff (a b : ByteArray) : pre a b = true ↔ b.data.toList <+: a.data.toList := by
  unfold pre
  rw [Bool.and_eq_true, decide_eq_true_eq, beq_iff_eq, Lib.toList_data, Lib.toList_data, Lib.extract_data, List.drop_zero, Nat.sub_zero, Lib.size_eq, Lib.size_eq]
  constructor
  · rintro ⟨h1, h2⟩
    exact ⟨a.data.toList.drop b.data.toList.length, by have := List.take_append_drop b.data.toList.length a.data.toList; rwa [h2] at this⟩
  · rintro ⟨t, h⟩
    rw [← h]
    simp
/-- The mode at a text's beginning, how many bytes it takes, and the error. -/
def modeB (s : ByteArray) : Int × Int :=
  if pre s (dgB 1) = true then (1, 0) else if pre s (dgB 2) = true then (2, 0) else if pre s (dgB 3) = true then (3, 0) else if pre s (dgB 4) = true then (4, 0)
  else if (pre (dgB 1) s || pre (dgB 2) s || pre (dgB 3) s || pre (dgB 4) s) = true then (0, 3) else (0, 2)
def modeR (s : ByteArray) : Int × ByteArray × Int := if (modeB s).2 = 0 then ((modeB s).1, s.extract (dgB (modeB s).1).size s.size, 0) else (0, ⟨#[]⟩, (modeB s).2)
theorem mode_ev (s : ByteArray) : Ev (fun k => tree_mode.f k s) (modeR s) := by
  refine Ev.of (fun k => tree_mode.mono s k) (k := 6) ?_
  have w1 : wrap64 (1 + 1) = 2 := wrap_id (by omega) (by omega)
  have w2 : wrap64 (2 + 1) = 3 := wrap_id (by omega) (by omega)
  have w3 : wrap64 (3 + 1) = 4 := wrap_id (by omega) (by omega)
  have w4 : wrap64 (4 + 1) = 5 := wrap_id (by omega) (by omega)
  have step : ∀ (k : Nat) (b : Bool) (m : Int), m ≤ 4 → tree_mode.l0 (k + 1) s b m = if pre s (dgB m) = true then some (m, s.extract (dgB m).size s.size, 0) else tree_mode.l0 k s (b || pre (dgB m) s) (wrap64 (m + 1)) := by
    intro k b m hm
    rw [tree_mode.l0, if_pos hm, digits_eq]
    simp only [Option.bind_some, CutPrefix_eq]
    by_cases h : pre s (dgB m) = true
    · simp only [if_pos h, if_true]
    · simp only [if_neg h, Bool.false_eq_true, if_false, HasPrefix_eq, Option.bind_some]
      cases b with
      | true => rw [if_pos rfl, Bool.true_or]
      | false => rw [if_neg (by decide), Bool.false_or]
  unfold tree_mode.f
  rw [step 5 _ 1 (by omega), w1, step 4 _ 2 (by omega), w2, step 3 _ 3 (by omega), w3, step 2 _ 4 (by omega), w4, tree_mode.l0, if_neg (show ¬ (5 : Int) ≤ 4 by omega)]
  unfold modeR modeB
  simp only [Bool.false_or]
  by_cases h1 : pre s (dgB 1) = true
  · simp only [if_pos h1, if_true]
  by_cases h2 : pre s (dgB 2) = true
  · simp only [if_neg h1, if_pos h2, if_true]
  by_cases h3 : pre s (dgB 3) = true
  · simp only [if_neg h1, if_neg h2, if_pos h3, if_true]
  by_cases h4 : pre s (dgB 4) = true
  · simp only [if_neg h1, if_neg h2, if_neg h3, if_pos h4, if_true]
  simp only [if_neg h1, if_neg h2, if_neg h3, if_neg h4]
  by_cases h5 : (pre (dgB 1) s || pre (dgB 2) s || pre (dgB 3) s || pre (dgB 4) s) = true
  · simp only [if_pos h5]; rfl
  · simp only [if_neg h5]; rfl
theorem modeB_ok {s : ByteArray} (h : (modeB s).2 = 0) : 1 ≤ (modeB s).1 ∧ (modeB s).1 ≤ 4 ∧ pre s (dgB (modeB s).1) = true := by
  unfold modeB at h ⊢
  by_cases h1 : pre s (dgB 1) = true
  · simp [h1]
  by_cases h2 : pre s (dgB 2) = true
  · simp [h1, h2]
  by_cases h3 : pre s (dgB 3) = true
  · simp [h1, h2, h3]
  by_cases h4 : pre s (dgB 4) = true
  · simp [h1, h2, h3, h4]
  simp only [if_neg h1, if_neg h2, if_neg h3, if_neg h4] at h
  split at h <;> simp at h
theorem dgB_ge {m : Int} (h1 : 1 ≤ m) (h4 : m ≤ 4) : 6 ≤ (dgB m).size := by
  have : m = 1 ∨ m = 2 ∨ m = 3 ∨ m = 4 := by omega
  rcases this with rfl | rfl | rfl | rfl <;> decide
theorem ext_ext (s : ByteArray) (a b i j : Nat) (hj : j ≤ b - a) : (s.extract a b).extract i j = s.extract (a + i) (a + j) := by
  apply ba_ext
  rw [Lib.extract_data, Lib.extract_data, Lib.extract_data, List.drop_take, List.take_take, List.drop_drop]
  congr 1
  omega
theorem ext_at (s : ByteArray) (a b i j c d : Nat) (hj : j ≤ b - a) (hc : a + i = c) (hd : a + j = d) : (s.extract a b).extract i j = s.extract c d := by
  subst hc hd
  exact ext_ext s a b i j hj
theorem extract_size (s : ByteArray) (a b : Nat) (h : b ≤ s.size) : (s.extract a b).size = b - a := by
  rw [Lib.size_eq, Lib.extract_data, List.length_take, List.length_drop, ← Lib.size_eq]; omega
theorem extract_all (s : ByteArray) (a : Nat) : (s.extract a s.size).data.toList = s.data.toList.drop a := by
  rw [Lib.extract_data, List.take_of_length_le (by rw [List.length_drop, ← Lib.size_eq]; exact Nat.le_refl _)]
/-- The first entry of a text: the error, the entry, what stands behind. -/
def cutAt (s : ByteArray) : Int := Lib.indexByte (s.data.toList.drop (dgB (modeB s).1).size) 0
def stepB (s : ByteArray) : Int × S35 × ByteArray :=
  if (modeB s).2 = 0 then
    (if cutAt s = -1 ∨ s.size < (dgB (modeB s).1).size + (cutAt s).toNat + 21 then (3, z35', ⟨#[]⟩)
     else (0, ⟨(modeB s).1, s.extract (dgB (modeB s).1).size ((dgB (modeB s).1).size + (cutAt s).toNat), hexB (s.extract ((dgB (modeB s).1).size + (cutAt s).toNat + 1) ((dgB (modeB s).1).size + (cutAt s).toNat + 21))⟩, s.extract ((dgB (modeB s).1).size + (cutAt s).toNat + 21) s.size))
  else ((modeB s).2, z35', ⟨#[]⟩)
theorem indexByte_lt : ∀ (l : List UInt8) (c : UInt8), Lib.indexByte l c < l.length ∨ l = []
  | [], _ => .inr rfl
  | b :: r, c => by
    left
    rw [Lib.indexByte]
    rcases indexByte_lt r c with h | h
    · split
      · simp
      · split
        · simp; omega
        · simp; omega
    · subst h
      split
      · simp
      · simp [Lib.indexByte]
theorem cutAt_lt (s : ByteArray) (h : (modeB s).2 = 0) : -1 ≤ cutAt s ∧ cutAt s + (dgB (modeB s).1).size < s.size + 1 := by
  have h1 := pre_size (modeB_ok h).2.2
  have hge := Lib.indexByte_ge (s.data.toList.drop (dgB (modeB s).1).size) 0
  refine ⟨hge, ?_⟩
  unfold cutAt
  rcases indexByte_lt (s.data.toList.drop (dgB (modeB s).1).size) 0 with h2 | h2
  · rw [List.length_drop, ← Lib.size_eq] at h2; omega
  · rw [h2]; simp [Lib.indexByte]; omega
theorem Cut_eq (s : ByteArray) (hs : s.size ≤ 140737488351232) : strings_Cut.f s ⟨#[0]⟩ = some (if Lib.indexByte s.data.toList 0 = -1 then (s, ⟨#[]⟩, false) else (s.extract 0 (Lib.indexByte s.data.toList 0).toNat, s.extract ((Lib.indexByte s.data.toList 0).toNat + 1) s.size, true)) := by
  unfold strings_Cut.f stringslite_Cut.f
  have hI : stringslite_Index.f s ⟨#[0]⟩ = some (Lib.indexByte s.data.toList 0) := rfl
  rw [hI]
  simp only [Option.bind_some]
  have hge := Lib.indexByte_ge s.data.toList 0
  by_cases h : Lib.indexByte s.data.toList 0 = -1
  · rw [if_neg (by omega), if_pos h]; rfl
  · have hlt : Lib.indexByte s.data.toList 0 < s.size := by
      rcases indexByte_lt s.data.toList 0 with h2 | h2
      · rw [Lib.size_eq]; exact h2
      · rw [h2] at h; simp [Lib.indexByte] at h
    rw [if_pos (by omega), if_pos (by omega), if_pos (by omega), z1, wrap_id (by omega) (by omega), if_pos (by omega), if_pos (by omega), if_neg h]
    have : (Lib.indexByte s.data.toList 0 + ((1 : Nat) : Int)).toNat = (Lib.indexByte s.data.toList 0).toNat + 1 := by omega
    rw [this]; rfl
/-! ### all entries -/
def endB (acc : List S35) : List S35 × Int := if checkB acc = 0 then (acc, 0) else ([], checkB acc)
def parseF : Nat → ByteArray → List S35 → List S35 × Int
  | 0, _, acc => endB acc
  | d + 1, s, acc => if s.toList = [] then endB acc else if (stepB s).1 = 0 then parseF d (stepB s).2.2 (acc ++ [(stepB s).2.1]) else ([], (stepB s).1)
theorem step_ok {s : ByteArray} (h : (stepB s).1 = 0) : (modeB s).2 = 0 ∧ ¬ (cutAt s = -1 ∨ s.size < (dgB (modeB s).1).size + (cutAt s).toNat + 21) := by
  unfold stepB at h
  by_cases h0 : (modeB s).2 = 0
  · refine ⟨h0, fun hc => ?_⟩
    simp only [if_pos h0, if_pos hc] at h
    simp at h
  · simp only [if_neg h0] at h
    exact absurd h h0
theorem step_rest {s : ByteArray} (h : (stepB s).1 = 0) : (stepB s).2.2.size + 27 ≤ s.size ∧ (stepB s).2.1.f1.size ≤ s.size := by
  obtain ⟨h0, hc⟩ := step_ok h
  obtain ⟨m1, m4, mp⟩ := modeB_ok h0
  have hd := dgB_ge m1 m4
  have hq := cutAt_lt s h0
  unfold stepB
  simp only [if_pos h0, if_neg hc]
  rw [extract_size _ _ _ (Nat.le_refl _), extract_size _ _ _ (by omega)]
  omega
theorem nil_size {s : ByteArray} (h : s.toList = []) : s.size = 0 := by
  rw [Lib.toList_data] at h; rw [Lib.size_eq, h]; rfl
theorem size_nil {s : ByteArray} (h : s.size = 0) : s.toList = [] := by
  rw [Lib.toList_data]; rw [Lib.size_eq] at h; exact List.eq_nil_of_length_eq_zero h
theorem end_ev (acc : List S35) (ha : ∀ x ∈ acc, x.f1.size ≤ 100000) : Ev (fun k => (tree_Check.f k acc).bind fun t113 => (if t113 = 0 then (some (acc, (0 : Int))) else (some (([] : List (S35)), t113)))) (endB acc) := by
  refine Ev.bind (Check_ev acc (fun x hx => by have := ha x hx; omega)) ?_
  unfold endB
  refine ev_ite (fun h => ?_) (fun h => ?_)
  · rw [if_pos h]; exact Ev.now _
  · rw [if_neg h]; exact Ev.now _
theorem Parse_l0 : ∀ (d : Nat) (s : ByteArray) (acc : List S35), s.size ≤ d → d + acc.length ≤ 100000 → s.size ≤ 100000 → (∀ x ∈ acc, x.f1.size ≤ 100000) → Ev (fun k => tree_Parse.l0 k s acc) (parseF d s acc) := by
  intro d
  induction d with
  | zero =>
    intro s acc hd hl hs ha
    refine Ev.step (f := fun k => (tree_Check.f k acc).bind fun t113 => (if t113 = 0 then (some (acc, 0)) else (some (([] : List (S35)), t113)))) (fun k => by rw [tree_Parse.l0, if_pos (size_nil (by omega))]) (end_ev acc ha)
  | succ d ih =>
    intro s acc hd hl hs ha
    rw [parseF]
    by_cases hn : s.toList = []
    · rw [if_pos hn]
      refine Ev.step (f := fun k => (tree_Check.f k acc).bind fun t113 => (if t113 = 0 then (some (acc, 0)) else (some (([] : List (S35)), t113)))) (fun k => by rw [tree_Parse.l0, if_pos hn]) (end_ev acc ha)
    · rw [if_neg hn]
      refine Ev.step (f := fun k => (tree_mode.f k s).bind fun bt114 => (if bt114.2.2 = 0 then ((strings_Cut.f bt114.2.1 (⟨#[0]⟩ : ByteArray)).bind fun bt117 => (if bt117.2.2 = true then (if (bt117.2.1.size : Int) < 20 then (some (([] : List (S35)), 3)) else (if 0 ≤ 20 then (if 20 ≤ (bt117.2.1.size : Int) then ((ident_Hex.f k (bt117.2.1.extract 0 20)).bind fun t120 => (if acc.length < 3518437208883 then (tree_Parse.l0 k (bt117.2.1.extract 20 bt117.2.1.size) (acc ++ [(⟨bt114.1, bt117.1, t120⟩ : S35)])) else (none))) else (none)) else (none))) else (some (([] : List (S35)), 3)))) else (some (([] : List (S35)), bt114.2.2)))) (fun k => by rw [tree_Parse.l0, if_neg hn]) ?_
      refine Ev.bind (mode_ev s) ?_
      unfold modeR
      by_cases h0 : (modeB s).2 = 0
      · obtain ⟨m1, m4, mp⟩ := modeB_ok h0
        have hp := pre_size mp
        obtain ⟨hc0, hc1⟩ := cutAt_lt s h0
        have hrs : (s.extract (dgB (modeB s).1).size s.size).size = s.size - (dgB (modeB s).1).size := extract_size _ _ _ (Nat.le_refl _)
        simp only [if_pos h0, if_true]
        rw [Cut_eq _ (by omega), extract_all]
        have hcut : Lib.indexByte (s.data.toList.drop (dgB (modeB s).1).size) 0 = cutAt s := rfl
        rw [hcut]
        simp only [Option.bind_some]
        by_cases hc : cutAt s = -1
        · simp only [if_pos hc, Bool.false_eq_true, if_false]
          have : (stepB s).1 = 3 := by unfold stepB; simp only [if_pos h0, hc, true_or, if_true]
          rw [if_neg (by omega), this]
          exact Ev.now _
        · simp only [if_neg hc, if_true]
          have hes : ((s.extract (dgB (modeB s).1).size s.size).extract ((cutAt s).toNat + 1) (s.extract (dgB (modeB s).1).size s.size).size) = s.extract ((dgB (modeB s).1).size + (cutAt s).toNat + 1) s.size := by
            rw [hrs, ext_ext _ _ _ _ _ (Nat.le_refl _)]
            congr 1; omega
          rw [hes, extract_size _ _ _ (Nat.le_refl _)]
          by_cases hl2 : s.size < (dgB (modeB s).1).size + (cutAt s).toNat + 21
          · have : (stepB s).1 = 3 := by unfold stepB; simp only [if_pos h0, hc, false_or, if_pos hl2]
            rw [if_neg (show ¬ (stepB s).1 = 0 by omega), this]
            refine Ev.congr (f := fun _ => some (([] : List S35), 3)) (fun k => by rw [if_pos (by omega)]) (Ev.now _)
          · have hst : stepB s = (0, ⟨(modeB s).1, s.extract (dgB (modeB s).1).size ((dgB (modeB s).1).size + (cutAt s).toNat), hexB (s.extract ((dgB (modeB s).1).size + (cutAt s).toNat + 1) ((dgB (modeB s).1).size + (cutAt s).toNat + 21))⟩, s.extract ((dgB (modeB s).1).size + (cutAt s).toNat + 21) s.size) := by
              unfold stepB; simp only [if_pos h0, hc, false_or, if_neg hl2]
            have hr := step_rest (s := s) (by rw [hst])
            have e20 : (s.extract ((dgB (modeB s).1).size + (cutAt s).toNat + 1) s.size).extract 0 20 = s.extract ((dgB (modeB s).1).size + (cutAt s).toNat + 1) ((dgB (modeB s).1).size + (cutAt s).toNat + 21) := ext_at _ _ _ _ _ _ _ (by omega) (by omega) (by omega)
            have eR : (s.extract ((dgB (modeB s).1).size + (cutAt s).toNat + 1) s.size).extract 20 (s.size - ((dgB (modeB s).1).size + (cutAt s).toNat + 1)) = s.extract ((dgB (modeB s).1).size + (cutAt s).toNat + 21) s.size := ext_at _ _ _ _ _ _ _ (Nat.le_refl _) (by omega) (by omega)
            have eN : (s.extract (dgB (modeB s).1).size s.size).extract 0 (cutAt s).toNat = s.extract (dgB (modeB s).1).size ((dgB (modeB s).1).size + (cutAt s).toNat) := ext_at _ _ _ _ _ _ _ (by omega) (by omega) (by omega)
            refine Ev.congr (f := fun k => (ident_Hex.f k (s.extract ((dgB (modeB s).1).size + (cutAt s).toNat + 1) ((dgB (modeB s).1).size + (cutAt s).toNat + 21))).bind fun t120 => (tree_Parse.l0 k (s.extract ((dgB (modeB s).1).size + (cutAt s).toNat + 21) s.size) (acc ++ [(⟨(modeB s).1, s.extract (dgB (modeB s).1).size ((dgB (modeB s).1).size + (cutAt s).toNat), t120⟩ : S35)]))) (fun k => ?_) ?_
            · rw [if_neg (by omega), if_pos (by omega), if_pos (by omega), e20, eR, eN]
              congr 1
              funext t
              rw [if_pos (by omega)]
            · refine Ev.bind (ident_Hex_ev _ (by rw [extract_size _ _ _ (by omega)]; omega)) ?_
              rw [hst] at hr ⊢
              simp only at hr
              simp only [if_true]
              refine ih _ _ (by omega) (by rw [List.length_append, List.length_singleton]; omega) (by omega) (fun x hx => ?_)
              rcases List.mem_append.1 hx with hx | hx
              · exact ha x hx
              · rw [List.mem_singleton.1 hx]; exact Nat.le_trans hr.2 hs
      · have hst : (stepB s).1 = (modeB s).2 := by unfold stepB; simp only [if_neg h0]
        simp only [if_neg h0]
        rw [if_neg (by rw [hst]; exact h0), hst]
        exact Ev.now _
theorem Parse_ev (s : ByteArray) (hs : s.size ≤ 100000) : Ev (fun k => tree_Parse.f k s) (parseF s.size s []) :=
  Parse_l0 s.size s [] (Nat.le_refl _) (by simpa using hs) hs (by simp)
end Go.Proofs.YtccbpbdfihnlgaaDoor.Q


/- Contracts of Go functions as calls of plain Lean functions, written by a program of this session over the kit's print. -/
namespace Go.Proofs.YtccbpbdfihnlgaaDoor.Q
open Go.RowKit Go.Proofs.YtccbpbdfihnlgaaDoorW.PrintWords Go.Proofs.YtccbpbdfihnlgaaDoorW.PrintLast Go.Proofs.YtccbpbdfihnlgaaDoorW.PrintMore
attribute [local go_sem] max2_int min2_int max_two min_two max_three min_three max_four min_four   -- for this text's walks alone

end Go.Proofs.YtccbpbdfihnlgaaDoor.Q


/- Trees: TreeOrder. -/
namespace Go.Proofs.YtccbpbdfihnlgaaDoor.Q
open Go.RowKit Go.Proofs.YtccbpbdfihnlgaaDoorW.PrintWords Go.Proofs.YtccbpbdfihnlgaaDoorW.PrintLast Go.Proofs.YtccbpbdfihnlgaaDoorW.PrintMore
theorem indexByte_neg : ∀ (l : List UInt8) (c : UInt8), Lib.indexByte l c < 0 → c ∉ l
  | [], _, _ => by simp
  | b :: r, c, h => by
    have hge := Lib.indexByte_ge r c
    rw [Lib.indexByte] at h
    by_cases e : b = c
    · rw [if_pos (by simp [e])] at h; omega
    · rw [if_neg (by simp [e])] at h
      by_cases e2 : Lib.indexByte r c = -1
      · have := indexByte_neg r c (by omega)
        simp only [List.mem_cons, not_or]
        exact ⟨fun x => e x.symm, this⟩
      · rw [if_neg (by simpa using e2)] at h; omega
theorem no47_mem {s : ByteArray} (h : no47 s = true) : (47 : UInt8) ∉ s.data.toList := by
  unfold no47 at h
  exact indexByte_neg _ _ (by simpa using h)
end Go.Proofs.YtccbpbdfihnlgaaDoor.Q


/- Trees: a body is told by its entries, and tells them; TreeBack. -/
namespace Go.Proofs.YtccbpbdfihnlgaaDoor.Q
open Go.RowKit Go.Proofs.YtccbpbdfihnlgaaDoorW.PrintWords Go.Proofs.YtccbpbdfihnlgaaDoorW.PrintLast Go.Proofs.YtccbpbdfihnlgaaDoorW.PrintMore
def encL (e : S35) : List UInt8 := (dgB e.f0).data.toList ++ (e.f1.data.toList ++ (0 :: (rawB e.f2).data.toList))
theorem encB_data (e : S35) : (encB e).data.toList = encL e := by
  unfold encB encL
  simp only [append_data, List.append_assoc]
  rfl
theorem bodyF_data (l : List S35) : ∀ (d i : Nat) (acc : ByteArray), i + d = l.length → (bodyF l d i acc).data.toList = acc.data.toList ++ (l.drop i).flatMap encL
  | 0, i, acc, h => by rw [bodyF, List.drop_of_length_le (by omega)]; simp
  | d + 1, i, acc, h => by
    have hi : i < l.length := by omega
    have e0 : at35 l i = l[i] := by unfold at35; exact rd35_get l i hi
    rw [bodyF, bodyF_data l d (i + 1) _ (by omega), append_data, encB_data, List.drop_eq_getElem_cons hi, List.flatMap_cons, e0, List.append_assoc]
theorem modeB_enc (m : Int) (h1 : 1 ≤ m) (h4 : m ≤ 4) (s : ByteArray) (X : List UInt8) (hs : s.data.toList = (dgB m).data.toList ++ X) : modeB s = (m, 0) := by
  have hp : ∀ j : Int, pre s (dgB j) = true ↔ (dgB j).data.toList <+: (dgB m).data.toList ++ X := fun j => by rw [pre_iff, hs]
  have : m = 1 ∨ m = 2 ∨ m = 3 ∨ m = 4 := by omega
  unfold modeB
  simp only [hp]
  rcases this with rfl | rfl | rfl | rfl <;> simp [dgB, List.cons_prefix_cons]
theorem indexByte_mid : ∀ (l r : List UInt8) (c : UInt8), c ∉ l → Lib.indexByte (l ++ c :: r) c = l.length
  | [], r, c, _ => by simp [Lib.indexByte]
  | b :: l, r, c, h => by
    simp only [List.mem_cons, not_or] at h
    rw [List.cons_append, Lib.indexByte, if_neg (by simpa using fun e => h.1 e.symm), indexByte_mid l r c h.2, if_neg (by rw [beq_iff_eq]; omega), List.length_cons]
    omega
theorem partsL_one : ∀ l : List UInt8, (47 : UInt8) ∉ l → partsL l = [l]
  | [], _ => rfl
  | b :: r, h => by
    simp only [List.mem_cons, not_or] at h
    rw [partsL, if_neg (fun e => h.1 e.symm), partsL_one r h.2]
    rfl
theorem name_no0 {e : S35} (h : mayB e = true) : (0 : UInt8) ∉ e.f1.data.toList := by
  obtain ⟨_, _, hp, h47, _⟩ := mayB_and h
  have hm := no47_mem h47
  unfold isPath at hp
  simp only [Bool.and_eq_true] at hp
  have h2 : (partsB e.f1).all partOK = true := hp.2.1
  have e1 : partsB e.f1 = [e.f1] := by
    unfold partsB
    rw [partsL_one _ hm]
    simp
  rw [e1] at h2
  simp only [List.all_cons, List.all_nil, Bool.and_true] at h2
  unfold partOK at h2
  rw [Bool.and_eq_true, List.all_eq_true] at h2
  intro h0
  have := h2.2 0 h0
  simp at this
theorem step_enc (e : S35) (he : mayB e = true) (s : ByteArray) (R : List UInt8) (hs : s.data.toList = encL e ++ R) : stepB s = (0, e, ⟨R.toArray⟩) := by
  obtain ⟨m1, m4, _, _, mi⟩ := mayB_and he
  have hs2 : s.data.toList = (dgB e.f0).data.toList ++ (e.f1.data.toList ++ 0 :: ((rawB e.f2).data.toList ++ R)) := by rw [hs]; unfold encL; simp
  have hm := modeB_enc e.f0 m1 m4 s _ hs2
  have hdrop : s.data.toList.drop (dgB e.f0).size = e.f1.data.toList ++ 0 :: ((rawB e.f2).data.toList ++ R) := by
    rw [hs2]; exact List.drop_left' (by rw [← Lib.size_eq])
  have hcut : cutAt s = e.f1.size := by
    unfold cutAt
    rw [hm]
    show Lib.indexByte (s.data.toList.drop (dgB e.f0).size) 0 = _
    rw [hdrop, indexByte_mid _ _ _ (name_no0 he), ← Lib.size_eq]
  have hraw : (rawB e.f2).data.toList.length = 20 := by rw [← Lib.size_eq, rawB_size]
  have hsz : s.size = (dgB e.f0).size + e.f1.size + 21 + R.length := by
    rw [Lib.size_eq, hs2]
    simp only [List.length_append, List.length_cons, hraw]
    rw [← Lib.size_eq, ← Lib.size_eq]; omega
  have ht : (cutAt s).toNat = e.f1.size := by rw [hcut]; omega
  unfold stepB
  rw [if_pos (by rw [hm])]
  have hm1 : (modeB s).1 = e.f0 := by rw [hm]
  rw [hm1, ht]
  rw [if_neg (by rw [hcut, hsz]; omega)]
  have e1 : s.extract (dgB e.f0).size ((dgB e.f0).size + e.f1.size) = e.f1 := by
    apply ba_ext
    rw [Lib.extract_data, hdrop, show (dgB e.f0).size + e.f1.size - (dgB e.f0).size = e.f1.size by omega]
    exact List.take_left' (by rw [← Lib.size_eq])
  have hd2 : s.data.toList.drop ((dgB e.f0).size + e.f1.size + 1) = (rawB e.f2).data.toList ++ R := by
    rw [show (dgB e.f0).size + e.f1.size + 1 = (dgB e.f0).size + (e.f1.size + 1) by omega, ← List.drop_drop, hdrop, ← List.drop_drop, List.drop_left' (by rw [← Lib.size_eq])]
    rfl
  have e2 : s.extract ((dgB e.f0).size + e.f1.size + 1) ((dgB e.f0).size + e.f1.size + 21) = rawB e.f2 := by
    apply ba_ext
    rw [Lib.extract_data, hd2, show (dgB e.f0).size + e.f1.size + 21 - ((dgB e.f0).size + e.f1.size + 1) = 20 by omega]
    exact List.take_left' hraw
  have e3 : s.extract ((dgB e.f0).size + e.f1.size + 21) s.size = ⟨R.toArray⟩ := by
    apply ba_ext
    rw [extract_all, show (dgB e.f0).size + e.f1.size + 21 = (dgB e.f0).size + e.f1.size + 1 + 20 by omega, ← List.drop_drop, hd2, List.drop_left' hraw]
  rw [e1, e2, e3, hexB_rawB _ mi]
theorem parse_enc : ∀ (rest acc : List S35) (d : Nat) (s : ByteArray), s.data.toList = rest.flatMap encL → s.size ≤ d → (∀ e ∈ rest, mayB e = true) → parseF d s acc = endB (acc ++ rest)
  | [], acc, d, s, hs, hd, hm => by
    have hn : s.toList = [] := by rw [Lib.toList_data, hs]; rfl
    cases d with
    | zero => rw [parseF, List.append_nil]
    | succ d => rw [parseF, if_pos hn, List.append_nil]
  | e :: r, acc, d, s, hs, hd, hm => by
    have he := hm e List.mem_cons_self
    have hst := step_enc e he s (r.flatMap encL) (by rw [hs, List.flatMap_cons])
    have hpos : 0 < s.size := by
      rw [Lib.size_eq, hs, List.flatMap_cons]; unfold encL; simp only [List.length_append, List.length_cons]; omega
    obtain ⟨d, rfl⟩ : ∃ x, d = x + 1 := ⟨d - 1, by omega⟩
    have hr := step_rest (s := s) (by rw [hst])
    have hn : s.toList ≠ [] := fun h => by have := nil_size h; omega
    rw [parseF, if_neg hn, hst, if_pos rfl]
    rw [hst] at hr
    simp only at hr
    have := parse_enc r (acc ++ [e]) d ⟨(r.flatMap encL).toArray⟩ (by simp) (by omega) (fun x hx => hm x (List.mem_cons_of_mem _ hx))
    rw [this]
    simp
theorem step_dec {s : ByteArray} (h : (stepB s).1 = 0) : s.data.toList = encL (stepB s).2.1 ++ (stepB s).2.2.data.toList := by
  obtain ⟨h0, hc⟩ := step_ok h
  obtain ⟨m1, m4, mp⟩ := modeB_ok h0
  have hp := pre_size mp
  obtain ⟨hc0, hc1⟩ := cutAt_lt s h0
  have hst : (stepB s).2.1 = ⟨(modeB s).1, s.extract (dgB (modeB s).1).size ((dgB (modeB s).1).size + (cutAt s).toNat), hexB (s.extract ((dgB (modeB s).1).size + (cutAt s).toNat + 1) ((dgB (modeB s).1).size + (cutAt s).toNat + 21))⟩ := by
    unfold stepB; simp only [if_pos h0, if_neg hc]
  have hst2 : (stepB s).2.2 = s.extract ((dgB (modeB s).1).size + (cutAt s).toNat + 21) s.size := by
    unfold stepB; simp only [if_pos h0, if_neg hc]
  rw [hst, hst2]
  unfold encL
  simp only
  rw [rawB_hexB _ (by rw [extract_size _ _ _ (by omega)]; omega), extract_all]
  obtain ⟨a, ha⟩ : ∃ a, a = (dgB (modeB s).1).size := ⟨_, rfl⟩
  obtain ⟨r, hr⟩ : ∃ r, r = (cutAt s).toNat := ⟨_, rfl⟩
  have hcut : Lib.indexByte (s.data.toList.drop a) 0 = (r : Int) := by
    have : cutAt s = (r : Int) := by rw [hr]; omega
    unfold cutAt at this
    rw [ha]; exact this
  have hz := (Lib.indexByte_some hcut).1
  rw [List.getElem?_drop] at hz
  rw [← ha, ← hr]
  have hdg : (dgB (modeB s).1).data.toList = s.data.toList.take a := by
    obtain ⟨t, ht⟩ := (pre_iff _ _).1 mp
    rw [← ht, ha]
    exact (List.take_left' (by rw [← Lib.size_eq])).symm
  rw [hdg, Lib.extract_data, Lib.extract_data]
  have hl : s.data.toList.length = s.size := by rw [← Lib.size_eq]
  have hlt : a + r < s.data.toList.length := (List.getElem?_eq_some_iff.1 hz).1
  have hz2 : s.data.toList[a + r] = 0 := (List.getElem?_eq_some_iff.1 hz).2
  rw [show a + r - a = r by omega, show a + r + 21 - (a + r + 1) = 20 by omega]
  have p1 : s.data.toList = s.data.toList.take a ++ s.data.toList.drop a := (List.take_append_drop _ _).symm
  have p2 : s.data.toList.drop a = (s.data.toList.drop a).take r ++ s.data.toList.drop (a + r) := by rw [← List.drop_drop]; exact (List.take_append_drop _ _).symm
  have p3 : s.data.toList.drop (a + r) = 0 :: s.data.toList.drop (a + r + 1) := by rw [List.drop_eq_getElem_cons hlt, hz2]
  have p4 : s.data.toList.drop (a + r + 1) = (s.data.toList.drop (a + r + 1)).take 20 ++ s.data.toList.drop (a + r + 21) := by
    have := List.take_append_drop 20 (s.data.toList.drop (a + r + 1))
    rw [List.drop_drop] at this
    exact this.symm
  conv => lhs; rw [p1, p2, p3, p4]
  simp
theorem parse_dec : ∀ (d : Nat) (s : ByteArray) (acc : List S35), s.size ≤ d → (parseF d s acc).2 = 0 → ∃ t, (parseF d s acc).1 = acc ++ t ∧ t.flatMap encL = s.data.toList ∧ checkB (acc ++ t) = 0
  | 0, s, acc, hd, h => by
    rw [parseF] at h ⊢
    have hn : s.data.toList = [] := by rw [← Lib.toList_data]; exact size_nil (by omega)
    unfold endB at h ⊢
    by_cases hc : checkB acc = 0
    · rw [if_pos hc]; exact ⟨[], by simp, by rw [hn]; rfl, by simpa using hc⟩
    · rw [if_neg hc] at h; exact absurd h hc
  | d + 1, s, acc, hd, h => by
    rw [parseF] at h ⊢
    by_cases hn : s.toList = []
    · rw [if_pos hn] at h ⊢
      unfold endB at h ⊢
      by_cases hc : checkB acc = 0
      · rw [if_pos hc]; exact ⟨[], by simp, by rw [← Lib.toList_data, hn]; rfl, by simpa using hc⟩
      · rw [if_neg hc] at h; exact absurd h hc
    · rw [if_neg hn] at h ⊢
      by_cases hs : (stepB s).1 = 0
      · rw [if_pos hs] at h ⊢
        have hr := step_rest hs
        obtain ⟨t, h1, h2, h3⟩ := parse_dec d (stepB s).2.2 (acc ++ [(stepB s).2.1]) (by omega) h
        refine ⟨(stepB s).2.1 :: t, by rw [h1]; simp, ?_, by simpa using h3⟩
        rw [List.flatMap_cons, h2]
        exact (step_dec hs).symm
      · rw [if_neg hs] at h; exact absurd h hs
theorem parse_err : ∀ (d : Nat) (s : ByteArray) (acc : List S35), (parseF d s acc).2 ≠ 0 → (parseF d s acc).1 = []
  | 0, s, acc, h => by
    rw [parseF] at h ⊢
    unfold endB at h ⊢
    split
    · rename_i hc; rw [if_pos hc] at h; exact absurd rfl h
    · rfl
  | d + 1, s, acc, h => by
    rw [parseF] at h ⊢
    split
    · rename_i hn
      rw [if_pos hn] at h
      unfold endB at h ⊢
      split
      · rename_i hc; rw [if_pos hc] at h; exact absurd rfl h
      · rfl
    · rename_i hn
      rw [if_neg hn] at h
      split
      · rename_i hs; rw [if_pos hs] at h; exact parse_err d _ _ h
      · rfl
theorem flat_len (l : List S35) (h : ∀ e ∈ l, mayB e = true) : (l.flatMap encL).length ≤ l.length * 290 := by
  induction l with
  | nil => simp
  | cons e r ih =>
    have h1 := ih (fun x hx => h x (List.mem_cons_of_mem _ hx))
    have h2 := encB_size (h e List.mem_cons_self)
    rw [Lib.size_eq, encB_data] at h2
    rw [List.flatMap_cons, List.length_append, List.length_cons]
    omega
theorem may_names {l : List S35} (h : ∀ e ∈ l, mayB e = true) : ∀ x ∈ l, x.f1.size ≤ 4294967280 := fun x hx => by
  have := path_size (mayB_and (h x hx)).2.2.1
  omega
theorem TreeBack_ev (l : List S35) (s : ByteArray) (hs : ∀ x ∈ l, x.f1.size ≤ 140737488351232 ∧ x.f2.size ≤ 140737488351232) (hn : l.length ≤ 140737488351232) (hz : s.size ≤ 140737488351232) : Ev (fun k => graftagelaw15_TreeBack.f k l s) true := by
  have hT : Ev (fun k => graftagelaw15_TreeBack.j0 k l s true) true :=
    Ev.step (f := fun k => (graftagelaw15_lives.f k).bind fun t => some t) (fun k => by rw [graftagelaw15_TreeBack.j0, if_pos rfl]) liveOr15
  refine Ev.bind (few_ev l hs hn) (ev_ite (fun h => ?_) (fun h => hT))
  by_cases hb : (s.size : Int) > 3000
  · rw [decide_eq_true hb]; exact hT
  rw [decide_eq_false hb]
  have hsz := few_size h
  have hlen := (few_all l l.length 0 (by omega) h).1
  have hJ : Ev (fun k => graftagelaw15_TreeBack.j1 k s) true := by
    refine Ev.step (f := fun k => (tree_Parse.f k s).bind fun bt140 => (if bt140.2 = 0 then ((tree_Body.f k bt140.1).bind fun bt144 => (if bt144.2 = 0 then (if bt144.1.toList = s.toList then ((graftagelaw15_lives.f k).bind fun t146 => (some t146)) else (some false)) else (some false))) else (if (bt140.1.length : Int) = 0 then ((graftagelaw15_lives.f k).bind fun t147 => (some t147)) else (some false)))) (fun k => by rw [graftagelaw15_TreeBack.j1]) ?_
    refine Ev.bind (Parse_ev s (by omega)) (ev_ite (fun h0 => ?_) (fun h0 => ?_))
    · obtain ⟨t, h1, h2, h3⟩ := parse_dec s.size s [] (Nat.le_refl _) h0
      rw [List.nil_append] at h1 h3
      rw [h1]
      refine Ev.bind (Body_ev t (fun _ => may_names (checkB_may h3))) ?_
      unfold bodyOf
      rw [if_pos h3]
      have hd := bodyF_data t t.length 0 ⟨#[]⟩ (by omega)
      rw [List.drop_zero, h2] at hd
      have : (bodyF t t.length 0 ⟨#[]⟩).toList = s.toList := by rw [Lib.toList_data, Lib.toList_data, hd]; rfl
      simp only [this, if_true]
      exact liveOr15
    · rw [parse_err _ _ _ h0]
      simp only [List.length_nil]
      exact liveOr15
  refine Ev.step (f := fun k => (tree_Body.f k l).bind fun bt133 => (if bt133.2 = 0 then ((tree_Parse.f k bt133.1).bind fun bt135 => (if bt135.2 = 0 then ((graftageref15_Same.f k l bt135.1).bind fun t139 => (if t139 = true then (graftagelaw15_TreeBack.j1 k s) else (some false))) else (some false))) else (graftagelaw15_TreeBack.j1 k s))) (fun k => by rw [graftagelaw15_TreeBack.j0, if_neg (by decide)]) ?_
  refine Ev.bind (Body_ev l (fun _ x hx => by have := hsz x hx; omega)) ?_
  unfold bodyOf
  by_cases hc : checkB l = 0
  · simp only [if_pos hc, if_true]
    have hm := checkB_may hc
    have hd := bodyF_data l l.length 0 ⟨#[]⟩ (by omega)
    rw [List.drop_zero] at hd
    have hd' : (bodyF l l.length 0 ⟨#[]⟩).data.toList = l.flatMap encL := by rw [hd]; rfl
    have hfl := flat_len l hm
    have hbs : (bodyF l l.length 0 ⟨#[]⟩).size ≤ 17400 := by rw [Lib.size_eq, hd']; omega
    refine Ev.bind (Parse_ev _ (by omega)) ?_
    rw [parse_enc l [] _ _ hd' (Nat.le_refl _) hm, List.nil_append]
    unfold endB
    simp only [if_pos hc, if_true]
    refine Ev.bind (Same35_ev l (by omega)) ?_
    simp only [if_true]
    exact hJ
  · simp only [if_neg hc]
    exact hJ
end Go.Proofs.YtccbpbdfihnlgaaDoor.Q


/- TreeBack, over plain lists and numbers. -/
namespace Go.Proofs.YtccbpbdfihnlgaaDoor.Pure
open Go.Proofs.YtccbpbdfihnlgaaDoor.Q Go.Proofs.YtccbpbdfihnlgaaDoorW.PrintWords

theorem TreeBack : ∀ (y0 : List (S35)), ∀ (y1 : ByteArray), (y0.length * 40 ≤ 140737488351232 ∧ ∀ y_y0 ∈ y0, ((Lit.int .i64 y_y0.f0).wf = true ∧ y_y0.f1.size ≤ 140737488351232 ∧ y_y0.f2.size ≤ 140737488351232)) → y1.size ≤ 140737488351232 → ∃ k, graftagelaw15_TreeBack.f k y0 y1 = some true :=
  fun y0 y1 h h1 => (TreeBack_ev y0 y1 (fun x hx => (h.2 x hx).2) (by omega) h1).rounds

end Go.Proofs.YtccbpbdfihnlgaaDoor.Pure


/- What a law's argument reads as (numbers, bools, strings, structs, slices, nested) opens into the printed kinds, with the reach's bounds; for the rows of this seat. -/
namespace Go.Proofs.YtccbpbdfihnlgaaDoor.Ro
open Go.RowKit Go.Deep Go.Proofs.YtccbpbdfihnlgaaDoorW.PrintWords

/-- What a reading of type t by the form tells in the words of kind d; S: the bounds. -/
def Opens (P : Program) (t : TypeId) {α : Type} (d : Kd α) (S : α → Prop) : Prop :=
  ∀ {H : Type} (enc : TypeId × Value → H) (w : World) (fuel : Nat) (cs : List Value) (x : DataW H × List MemPlace),
    DataW.trod enc P w 0 (fun _ => true) true fuel t cs = some x → (∀ n ∈ DataW.weights P t x.1, n ≤ reachBytes) → ∃ y : α, d.K w y cs ∧ S y

section
variable {P : Program} {t e : TypeId}

theorem Opens.int {k : IntKind} (ht : P.underlying t = some (.int k)) : Opens P t (Kd.int k) (fun y => (Lit.int k y).wf = true) := by
  intro H enc w fuel cs x h _
  obtain ⟨n, rfl, rfl, hw⟩ := DataW.trod_int ht h
  exact ⟨n, rfl, hw⟩

theorem Opens.bool (ht : P.underlying t = some .bool) : Opens P t Kd.bool (fun _ => True) := by
  intro H enc w fuel cs x h _
  obtain ⟨b, rfl, rfl⟩ := DataW.trod_bool ht h
  exact ⟨b, rfl, trivial⟩

theorem Opens.string (ht : P.underlying t = some .string) : Opens P t Kd.string (fun y => y.size ≤ 140737488351232) := by
  intro H enc w fuel cs x h hn
  obtain ⟨s, rfl, rfl, _⟩ := DataW.trod_string ht h
  refine ⟨s, rfl, ?_⟩
  have := hn s.data.toList.length (by simp [DataW.weights])
  simpa [reachBytes] using this

theorem choose_list {α : Type} {n : Nat} {p : Nat → α → Prop} (h : ∀ i, i < n → ∃ y, p i y) : ∃ l : List α, l.length = n ∧ ∀ i y, l[i]? = some y → p i y := by
  induction n with
  | zero => exact ⟨[], rfl, fun i y hy => by simp at hy⟩
  | succ n ih =>
    obtain ⟨l, hl, hp⟩ := ih (fun i hi => h i (by omega))
    obtain ⟨y, hy⟩ := h n (by omega)
    refine ⟨l ++ [y], by simp [hl], fun i z hz => ?_⟩
    rcases Nat.lt_or_ge i l.length with hi | hi
    · rw [List.getElem?_append_left hi] at hz
      exact hp i z hz
    · rw [List.getElem?_append_right hi] at hz
      have : i - l.length = 0 := by
        have := (List.getElem?_eq_some_iff.1 hz).1
        simpa using this
      rw [this] at hz
      have h1 : i = n := by omega
      subst h1
      have : y = z := by simpa using hz
      subst this
      exact hy

theorem weightsAll_mem {H : Type} {e : TypeId} : ∀ {l : List (DataW H)} {d : DataW H}, d ∈ l → ∀ n ∈ d.weights P e, n ∈ DataW.weightsAll P e l
  | a :: l, d, hd, n, hn => by
    simp only [DataW.weightsAll, List.mem_append]
    rcases List.mem_cons.1 hd with rfl | hd
    · exact .inl hn
    · exact .inr (weightsAll_mem hd n hn)

theorem Opens.slice {α : Type} {d : Kd α} {S : α → Prop} {b : Nat} (ht : P.underlying t = some (.slice e)) (hc : P.cellsOf e = d.sz) (hb : P.bytesOf e = b) (h : Opens P e d S) :
    Opens P t (Kd.slice e d) (fun l => l.length * b ≤ 140737488351232 ∧ ∀ y ∈ l, S y) := by
  intro H enc w fuel cs x hx hn
  rcases open_slice ht hx with ⟨rfl, rfl⟩ | ⟨a, len, cap, m, n, D, Pl, rfl, _, hl, hm, hmm, rfl, hall⟩
  · exact ⟨[], ⟨none, 0, rfl, Nat.le_refl _, rfl, by simp, fun h => absurd h (by simp)⟩, by simp, by simp⟩
  · simp only [if_true] at hmm
    obtain rfl : m = cap := hmm
    have hel : ∀ i, i < len → ∃ y : α, (∃ cs', w.cells? 0 (a.add (i * P.cellsOf e)) (P.cellsOf e) = some cs' ∧ d.K w y cs') ∧ S y := by
      intro i hi
      obtain ⟨cs', h1, h2⟩ := hall i (by omega)
      obtain ⟨y, hy, hs⟩ := h enc w n cs' _ h2 (fun k hk => hn k (by
        simp only [DataW.weights, ht, List.mem_cons, List.mem_append]
        exact .inr (.inl (weightsAll_mem (List.mem_map.2 ⟨i, List.mem_range.2 hi, rfl⟩) k hk))))
      exact ⟨y, ⟨cs', h1, hy⟩, hs⟩
    obtain ⟨l, hll, hp⟩ := choose_list hel
    subst hll
    have hw : (l.length + (m - l.length)) * b ≤ reachBytes := by
      have := hn _ (by simp only [DataW.weights, ht, List.mem_cons]; exact .inl rfl)
      simpa [hb] using this
    refine ⟨l, ⟨some a, m, rfl, hl, rfl, by unfold maxLen at hm; omega, fun _ => ⟨a, rfl, fun j p hj => ?_⟩⟩, ?_, fun y hy => ?_⟩
    · obtain ⟨⟨cs', h1, hk⟩, _⟩ := hp j p hj
      obtain ⟨_, hlen, hcell⟩ := World.cells?_some h1
      refine ⟨cs', by rw [hlen, hc], hk, fun i u hu => ?_⟩
      have hi : i < P.cellsOf e := by
        have := (List.getElem?_eq_some_iff.1 hu).1
        omega
      have := hcell i hi
      rw [Go.Deep.add_add, hu, hc] at this
      exact this
    · have : l.length * b ≤ (l.length + (m - l.length)) * b := Nat.mul_le_mul_right _ (by omega)
      simp only [reachBytes] at hw
      omega
    · obtain ⟨j, hj⟩ := List.mem_iff_getElem?.1 hy
      exact (hp j y hj).2

/-- The fields from one on, in line. -/
def OpensF (P : Program) (fs : List Field) (o : Nat) {α : Type} (d : Kd α) (S : α → Prop) : Prop :=
  ∀ {H : Type} (enc : TypeId × Value → H) (w : World) (n : Nat) (cs : List Value) (ys : List (DataW H × List MemPlace)),
    (∀ (i : Nat) (f : Field), fs[i]? = some f → DataW.trod enc P w 0 (fun _ => true) true n f.type ((cs.drop f.offset).take (P.cellsOf f.type)) = ys[i]?) → ys.length = fs.length →
    (∀ k ∈ DataW.weightsEach P (fs.map (·.type)) (ys.map (·.1)), k ≤ reachBytes) → cs.length = o + d.sz → ∃ y : α, d.K w y (cs.drop o) ∧ S y

theorem OpensF.one {α : Type} {f : Field} {o : Nat} {d : Kd α} {S : α → Prop} (ho : f.offset = o) (hc : P.cellsOf f.type = d.sz) (h : Opens P f.type d S) : OpensF P [f] o d S := by
  intro H enc w n cs ys hf hl hw hlen
  match ys, hl with
  | [y], _ =>
    have h1 := hf 0 f rfl
    rw [ho, hc, List.take_of_length_le (by rw [List.length_drop]; omega)] at h1
    exact h enc w n _ y h1 (fun k hk => hw k (by simp [DataW.weightsEach, hk]))

theorem OpensF.cons {α β : Type} {f : Field} {fs : List Field} {o o' : Nat} {d : Kd α} {d' : Kd β} {S : α → Prop} {S' : β → Prop} (ho : f.offset = o) (hc : P.cellsOf f.type = d.sz) (ho' : o + d.sz = o')
    (h : Opens P f.type d S) (h' : OpensF P fs o' d' S') : OpensF P (f :: fs) o (Kd.pair d d') (fun z => S z.1 ∧ S' z.2) := by
  intro H enc w n cs ys hf hl hw hlen
  match ys, hl with
  | y :: ys, hl =>
    have h1 := hf 0 f rfl
    rw [ho, hc] at h1
    have hlen' : cs.length = o + (d.sz + d'.sz) := hlen
    obtain ⟨a, ha, hs⟩ := h enc w n _ y h1 (fun k hk => hw k (by simp only [List.map_cons, DataW.weightsEach, List.mem_append]; exact .inl hk))
    obtain ⟨b, hb, hs'⟩ := h' enc w n cs ys (fun i g hg => hf (i + 1) g (by simpa using hg)) (by simpa using hl) (fun k hk => hw k (by simp only [List.map_cons, DataW.weightsEach, List.mem_append]; exact .inr hk)) (by omega)
    refine ⟨(a, b), ⟨_, _, ?_, ha, hb⟩, hs, hs'⟩
    rw [← ho', ← List.drop_drop, List.take_append_drop]

theorem Opens.struct {α β : Type} {fs : Array Field} {d : Kd α} {S : α → Prop} {f : β → α} {g : α → β} (ht : P.underlying t = some (.struct fs)) (hc : P.cellsOf t = d.sz) (hfg : ∀ a, f (g a) = a) (h : OpensF P fs.toList 0 d S) :
    Opens P t (Kd.iso d f) (fun y => S (f y)) := by
  intro H enc w fuel cs x hx hn
  obtain ⟨xs, n, _, rfl, hl, hlen, hf⟩ := DataW.trod_struct ht hx
  obtain ⟨a, ha, hs⟩ := h enc w n cs xs (fun i q hq => hf i q (by simpa using hq)) (by simpa using hlen) (fun k hk => hn k (by simpa [DataW.weights, ht] using hk)) (by rw [hl, hc]; omega)
  refine ⟨g a, ?_, by show S (f (g a)); rw [hfg]; exact hs⟩
  show d.K w (f (g a)) cs
  rw [hfg]
  simpa using ha

theorem Opens.imp {α : Type} {d : Kd α} {S S' : α → Prop} (h : Opens P t d S) (hS : ∀ y, S y → S' y) : Opens P t d S' := by
  intro H enc w fuel cs x hx hn
  obtain ⟨y, hy, hs⟩ := h enc w fuel cs x hx hn
  exact ⟨y, hy, hS y hs⟩

/-- An argument: its cells, told. -/
theorem Opens.arg {H : Type} {enc : TypeId × Value → H} {α : Type} {d : Kd α} {S : α → Prop} {w : World} {ts : List TypeId} {ds : List (DataW H)} {j : Nat} {v : Value} {dd : DataW H} {ps : List MemPlace} (h : Opens P t d S)
    (hz : (DataW.weightsEach P ts ds).all (· ≤ reachBytes) = true) (ht : ts[j]? = some t) (hd : ds[j]? = some dd) (hv : DataW.Trod enc P w 0 (fun _ => true) true t v dd ps) : ∃ y : α, d.K w y v.cells.toList ∧ S y := by
  obtain ⟨fuel, hf⟩ := hv
  exact h enc w fuel _ (dd, ps) hf (fun n hn => by simpa using List.all_eq_true.1 hz n (DataW.weights_mem_each ht hd n hn))

theorem arg_lt {H : Type} {enc : TypeId × Value → H} {w : World} {v : Value} {dd : DataW H} {ps : List MemPlace} (hv : DataW.Trod enc P w 0 (fun _ => true) true t v dd ps) : ∀ x ∈ ps, x.block < w.heap.size := by
  obtain ⟨m, hm⟩ := hv
  exact DataW.trod_lt m _ _ _ hm
end
end Go.Proofs.YtccbpbdfihnlgaaDoor.Ro


/- The law TreeBack holds: for every input it returns true, and each argument reads afterwards as it read before. -/
namespace Go.Proofs.YtccbpbdfihnlgaaDoor.treeBack
open Go.ChangeShapes Go.WideShapes Go.ChangeAt Go.RowKit Go.Proofs.YtccbpbdfihnlgaaDoor.Ro Go.Proofs.YtccbpbdfihnlgaaDoor.Q Go.Proofs.YtccbpbdfihnlgaaDoorW.PrintWords
open Go.ChangeMaps (open_string shut_string)
theorem own : ownKnob Tryd.prog.godebug = none := by kernel_rfl
theorem laidOut : laidOutB Tryd.prog = true := by kernel_rfl
theorem opens9 : Opens Tryd.prog 9 Kd.string (fun y => y.size ≤ 140737488351232) := (Opens.string Tryd.underlying9)
theorem opens22 : Opens Tryd.prog 22 (Kd.slice 35 k35) (fun y => (y.length * 40 ≤ 140737488351232 ∧ ∀ y_y ∈ y, ((Lit.int .i64 y_y.f0).wf = true ∧ y_y.f1.size ≤ 140737488351232 ∧ y_y.f2.size ≤ 140737488351232))) := (Opens.slice Tryd.underlying22 (by kernel_rfl) (by kernel_rfl) (Opens.struct (f := (fun x : S35 => (x.f0, x.f1, x.f2))) (g := (fun a => (⟨a.1, a.2.1, a.2.2⟩ : S35))) Tryd.underlying35 (by kernel_rfl) (fun _ => rfl) (OpensF.cons rfl (by kernel_rfl) rfl (Opens.int Tryd.underlying3) (OpensF.cons rfl (by kernel_rfl) rfl (Opens.string Tryd.underlying9) (OpensF.one rfl (by kernel_rfl) (Opens.string Tryd.underlying9))))))
set_option maxRecDepth 100000 in
theorem lifted (os : Os) (started : os.Started) (H : Type) (enc : TypeId × Value → H) :
    ReturnsInHanded {} Tryd.checked os 5 .any (fun w args => (Rows.treeBackSpec.pre enc Tryd.prog Tryd.f5 [] false w args ∧ laidMetH Tryd.prog Rows.treeBackRow.laid w) ∧ sizedMet enc Tryd.prog Tryd.f5 (OpenSpec.ofChange Rows.treeBackSpec) false w args) (Rows.treeBackSpec.post enc Tryd.prog Tryd.f5 false true false false) := by
  refine returnsInHanded_of_change_and (C := Tryd.checked) (X := fun w _ => laidMetH Tryd.prog Rows.treeBackRow.laid w) (fun _ _ _ hh h => h.of_heap hh) own started (by kernel_rfl) Tryd.func5
    (ChangeSpec.witness_shaped (enc := enc) (C := Tryd.checked) (os := os) (X := fun w _ => laidMetH Tryd.prog Rows.treeBackRow.laid w) false (World.laidAll Tryd.prog os Rows.treeBackRow.laid) #[.slice none 0 0, .string ByteArray.empty] 8 (World.laidAll_os _ _ _)
      (World.shaped_of_ZipB (by kernel_rfl) (by kernel_rfl)) (by kernel_rfl) (by kernel_rfl) (by kernel_rfl)
      (by rw [MakeChecks.laidMetH_plain _ _ _ (by kernel_rfl)]; exact laidMet_laidAll _ (by kernel_rfl) (by kernel_rfl))) ?_
  intro W base args ds gs before hval0 hW hcnd hsz0 _ _
  have hsz : (DataW.weightsEach Tryd.prog (Tryd.f5.params.toList ++ Rows.treeBackSpec.plain.varTypes Tryd.prog) (ds ++ gs)).all (· ≤ reachBytes) = true := hsz0
  have hval : ∀ (j : Nat) t v, Tryd.f5.params[j]? = some t → args[j]? = some v → Value.okWide Tryd.prog W .any base t v := hval0
  have hW' := hW
  obtain ⟨p, q, hA0, hV, rfl, hfz, hnd⟩ := hW
  have hA : DataW.TrodAll enc Tryd.prog W 0 (fun _ => true) true Tryd.f5.params.toList args.toList ds p := hA0
  rw [Tryd.params5] at hA hval hsz
  obtain ⟨v0, vs0, d0, ds0, p0, q0, hargs, rfl, rfl, h0, r0⟩ := trodAll_cons hA
  obtain ⟨v1, vs1, d1, ds1, p1, q1, rfl, rfl, rfl, h1, r1⟩ := trodAll_cons r0
  obtain ⟨rfl, rfl, rfl⟩ := trodAll_nil r1
  obtain rfl : args = #[v0, v1] := by cases args; simp_all
  obtain ⟨rfl, rfl⟩ := trodVars_none hV
  have lt0 := arg_lt h0
  obtain ⟨y0, hk0, w0⟩ := opens22.arg hsz (j := 0) rfl rfl h0
  obtain ⟨a0, len0, cap0, rfl⟩ := okWide_slice Tryd.underlying22 (hval 0 22 v0 rfl rfl)
  obtain ⟨A0, c0, e0, hl0, hr0⟩ := hk0
  obtain ⟨rfl, rfl, rfl⟩ : a0 = A0 ∧ len0 = y0.length ∧ cap0 = c0 := by simpa [Value.cells] using e0
  have lt1 := arg_lt h1
  obtain ⟨y1, hk1, w1⟩ := opens9.arg hsz (j := 1) rfl rfl h1
  obtain ⟨x1, rfl⟩ := okWide_string Tryd.underlying9 (hval 1 9 v1 rfl rfl)
  obtain rfl : x1 = y1 := by simpa [Kd.string, Kd.scalar, Value.cells] using hk1
  obtain ⟨k, hp⟩ := Pure.TreeBack _ _ w0 w1
  clear hA0 hval0 hsz0 hsz
  refine (Q.graftagelaw15_TreeBack.calls k _ _ y0 _ true W hr0 hl0 hp).mono ?_
  rintro e W' ⟨rfl, bel0⟩
  have bel : Below W.heap.size W W' := bel0
  exact ⟨_, rfl, _, _, _, [], _, [], hW', trodAll_mk1 (shut_bool Tryd.underlying4 _), (trodAll_cons_mk (Below.trod laidOut (by kernel_rfl) (of_decide_eq_true (by kernel_rfl)) h0 bel lt0) (trodAll_cons_mk (Below.trod laidOut (by kernel_rfl) (of_decide_eq_true (by kernel_rfl)) h1 bel lt1) trodAll_mk0)), rfl, bel.frame _, fun h => by cases h⟩
theorem over : Rows.treeBackRow.holds Tryd.pinned (OpenSpec.ofChange Rows.treeBackSpec) :=
  OpenClaim.holds_of_wide 5 Tryd.f5 rfl rfl rfl rfl rfl rfl rfl ⟨rfl, rfl, rfl, rfl, rfl⟩ rfl rfl rfl rfl rfl (by kernel_rfl) Tryd.func5 (by kernel_rfl)
    (of_decide_eq_true (by kernel_rfl)) (by unfold Func.isWrapper; first | (rw [if_pos (by decide +kernel)]; kernel_rfl) | (rw [if_neg (by decide +kernel)]; exact ⟨rfl, rfl⟩))
    (fun os started H enc _ => lifted os started H enc)
theorem proved : Rows.TreeBackSaid := over
theorem card_holds : Rows.TreeBackCardSaid :=
  Claim7.holds_tied_plain_at .later [] [.data, .pinned] true (true, "f211dbb39e0f8aee4bdc9ae8c5517fa944c5333aa6a5e92b425f441664a6fa8b") false over (fun _ h => by cases h) (by kernel_rfl) (fun _ h => by cases h) treeBack_row_tie rfl ⟨rfl, rfl⟩ (by kernel_rfl) rfl
    (fun f fn hf hfn => by
      obtain rfl : f = 5 := Option.some.inj ((show Tryd.prog.funcNamed "graftage/graftagelaw15.TreeBack" = some 5 by kernel_rfl).symm.trans hf) |>.symm
      obtain rfl : fn = Tryd.f5 := (Option.some.inj (Tryd.func5.symm.trans hfn)).symm
      exact ⟨by kernel_rfl, fun j t ht => by
        rw [Tryd.params5] at ht
        have hm : t ∈ [22, 9] := by simpa using Array.mem_of_getElem? ht
        have hall : ([22, 9].all fun u => !Tryd.prog.wantsStandIn u) = true := by kernel_rfl
        exact (show Tryd.prog.wantsStandIn t = false by simpa using List.all_eq_true.1 hall t hm)⟩)
    (by kernel_rfl)
#print axioms card_holds
end Go.Proofs.YtccbpbdfihnlgaaDoor.treeBack
namespace Go.Proofs.YtccbpbdfihnlgaaDoor
/-- The statement, under a short name, for the claim. -/
theorem treeBack_holds : Rows.TreeBackCardSaid := treeBack.card_holds
end Go.Proofs.YtccbpbdfihnlgaaDoor


