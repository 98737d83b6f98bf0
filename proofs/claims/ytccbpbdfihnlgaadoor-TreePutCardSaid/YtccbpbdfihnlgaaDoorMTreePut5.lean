/- The law TreePut holds: for every input it returns true, and each argument reads afterwards as it read before. -/
import Derived.Test.YtccbpbdfihnlgaaDoorMYTreePut1
import Derived.Test.YtccbpbdfihnlgaaDoorMTreePut1
import Derived.Test.YtccbpbdfihnlgaaDoorMTreePut2
import Derived.Test.YtccbpbdfihnlgaaDoorMTreePut3
import Derived.Test.YtccbpbdfihnlgaaDoorMTreePut4
import Derived.Laws.Cover1
import Derived.Sort.Walk0
import Derived.Deep.Slices
import Derived.Lib.SmallJoins
import Derived.ChangeArms
import Derived.SizedLaws
import Derived.WalkKit
import Derived.ProofKit
import Derived.Test.YtccbpbdfihnlgaaDoorRows
import Derived.Test.YtccbpbdfihnlgaaDoorTie
import Derived.Test.YtccbpbdfihnlgaaDoorCards
import Derived.OpenShut
import Derived.ShutString
import Derived.ChangeOld
import Derived.Below
import Derived.Lay
import Derived.LaidOnce
import Derived.SevenTiedAt
import Derived.LaidLaws
import Derived.Handed
import Derived.ChangeVars
import Derived.JoinedOf
set_option linter.unusedVariables false
set_option linter.unusedSimpArgs false
/- Contracts of Go functions as calls of plain Lean functions, written by a program of this session over the kit's print. -/
namespace Go.Proofs.YtccbpbdfihnlgaaDoor.Q
open Go.RowKit Go.Proofs.YtccbpbdfihnlgaaDoorW.PrintWords Go.Proofs.YtccbpbdfihnlgaaDoorW.PrintLast Go.Proofs.YtccbpbdfihnlgaaDoorW.PrintMore
attribute [local go_sem] max2_int min2_int max_two min_two max_three min_three max_four min_four   -- for this text's walks alone

end Go.Proofs.YtccbpbdfihnlgaaDoor.Q


/- Paths: the parts between slashes, and what is a path; the program's and the reference's. -/
namespace Go.Proofs.YtccbpbdfihnlgaaDoor.Q
open Go.RowKit Go.Proofs.YtccbpbdfihnlgaaDoorW.PrintWords Go.Proofs.YtccbpbdfihnlgaaDoorW.PrintLast Go.Proofs.YtccbpbdfihnlgaaDoorW.PrintMore

theorem wrap_id {x : Int} (h0 : -9223372036854775808 ≤ x) (h1 : x ≤ 9223372036854775807) : wrap64 x = x := by unfold wrap64; omega
theorem rd_ext (l : List ByteArray) (i : Nat) (h : i < l.length) : rdOf ByteArray.empty l i = l[i] := by
  simp [rdOf, List.getD, List.getElem?_eq_getElem h]
theorem ba_ext {a b : ByteArray} (h : a.data.toList = b.data.toList) : a = b := by
  cases a; cases b; simp at h; simp [h]
theorem append_data (a b : ByteArray) : (a ++ b).data.toList = a.data.toList ++ b.data.toList := by simp
/-! ### Parts -/
def consH (b : UInt8) : List (List UInt8) → List (List UInt8)
  | [] => [[b]]
  | h :: t => (b :: h) :: t
def partsL : List UInt8 → List (List UInt8)
  | [] => [[]]
  | b :: r => if b = 47 then [] :: partsL r else consH b (partsL r)
theorem partsL_ne (l : List UInt8) : partsL l ≠ [] := by
  cases l with
  | nil => simp [partsL]
  | cons b r =>
    unfold partsL
    split
    · simp
    · cases partsL r <;> simp [consH]
theorem index_cons_ne (b c : UInt8) (l : List UInt8) (h : b ≠ c) : Lib.index (b :: l) [c] = if Lib.index l [c] == -1 then -1 else Lib.index l [c] + 1 := by
  have hp : ([c] : List UInt8).isPrefixOf (b :: l) = false := by simp [List.isPrefixOf, Ne.symm h]
  rw [Lib.index, hp]; simp
theorem splitK_cons (b : UInt8) (hb : b ≠ 47) : ∀ (n : Nat) (r : List UInt8), Lib.splitK [47] 0 n (b :: r) = consH b (Lib.splitK [47] 0 n r) := by
  intro n r
  cases n with
  | zero => rfl
  | succ n =>
    have hix := index_cons_ne b 47 r hb
    by_cases hm : Lib.index r [47] = -1
    · rw [if_pos (beq_iff_eq.2 hm)] at hix
      rw [Lib.splitK, if_pos (beq_iff_eq.2 hix), Lib.splitK, if_pos (beq_iff_eq.2 hm)]
      rfl
    · have hge := Lib.index_ge r [47]
      obtain ⟨j, hj⟩ : ∃ j : Nat, Lib.index r [47] = j := ⟨(Lib.index r [47]).toNat, by omega⟩
      rw [if_neg (fun e => hm (beq_iff_eq.1 e)), hj] at hix
      rw [Lib.splitK, if_neg (fun e => by have := beq_iff_eq.1 e; omega), Lib.splitK, if_neg (fun e => hm (beq_iff_eq.1 e)), hix, hj]
      rw [show ((j : Int) + 1).toNat = j + 1 by omega, show ((j : Int)).toNat = j by omega]
      simp [consH]
theorem splitK_parts : ∀ l : List UInt8, Lib.splitK [47] 0 (Lib.count l [47]) l = partsL l
  | [] => by rw [Lib.count_miss (by simp [Lib.index])]; rfl
  | b :: r => by
    by_cases h : b = 47
    · subst h
      have hix : Lib.index (47 :: r) [47] = ((0 : Nat) : Int) := by rw [Lib.index]; simp [List.isPrefixOf]
      rw [Lib.count_cons_eq, Nat.add_comm, Lib.splitK, if_neg (by rw [hix]; decide), hix]
      simp [partsL, splitK_parts r]
    · rw [Lib.count_cons_ne b 47 r h, splitK_cons b h, splitK_parts r, partsL, if_neg h]
theorem partsL_no47 : ∀ (l : List UInt8) (p : List UInt8), p ∈ partsL l → (47 : UInt8) ∉ p
  | [], p, hp => by simp [partsL] at hp; subst hp; simp
  | b :: r, p, hp => by
    unfold partsL at hp
    split at hp
    · rcases List.mem_cons.1 hp with rfl | hp
      · simp
      · exact partsL_no47 r p hp
    · rename_i hb
      have ih := partsL_no47 r
      cases hq : partsL r with
      | nil => exact absurd hq (partsL_ne r)
      | cons h t =>
        rw [hq] at hp ih
        rcases List.mem_cons.1 hp with rfl | hp
        · have := ih h List.mem_cons_self
          intro hm
          rcases List.mem_cons.1 hm with e | hm
          · exact hb e.symm
          · exact this hm
        · exact ih p (List.mem_cons_of_mem _ hp)
theorem partsL_length_le : ∀ l : List UInt8, (partsL l).length ≤ l.length + 1
  | [] => by simp [partsL]
  | b :: r => by
    have := partsL_length_le r
    unfold partsL
    split
    · simp; omega
    · cases hq : partsL r with
      | nil => simp [consH]
      | cons h t => rw [hq] at this; simp [consH] at this ⊢; omega

def partsB (s : ByteArray) : List ByteArray := (partsL s.data.toList).map (fun x => ⟨x.toArray⟩)
theorem map_data_inj {l l' : List ByteArray} (h : l.map (·.data.toList) = l'.map (·.data.toList)) : l = l' := by
  induction l generalizing l' with
  | nil => cases l' with
           | nil => rfl
           | cons _ _ => simp at h
  | cons x r ih =>
    cases l' with
    | nil => simp at h
    | cons y r' =>
      simp only [List.map_cons, List.cons.injEq] at h
      rw [ba_ext h.1, ih h.2]
theorem partsB_data (s : ByteArray) : (partsB s).map (·.data.toList) = partsL s.data.toList := by
  simp [partsB, Function.comp_def]
theorem split_parts (s : ByteArray) : Lib.splitB ⟨#[47]⟩ 0 (Lib.countB s ⟨#[47]⟩) s = partsB s := by
  apply map_data_inj
  rw [Lib.splitB_data, partsB_data]
  exact splitK_parts s.data.toList

def cutsF : Nat → ByteArray → Nat → Nat → List ByteArray
  | 0, s, fr, _ => [s.extract fr s.size]
  | d + 1, s, fr, i => if bt s i = 47 then s.extract fr i :: cutsF d s (i + 1) (i + 1) else cutsF d s fr (i + 1)
theorem bt_get (s : ByteArray) (i : Nat) (h : i < s.size) : bt s i = ((s.data.toList[i]'(by rw [← Lib.size_eq]; exact h)).toNat : Int) := by
  unfold bt
  simp only [Int.toNat_natCast]
  rw [dif_pos h]
  rfl
def preH (a : List UInt8) : List (List UInt8) → List (List UInt8)
  | [] => []
  | h :: t => (a ++ h) :: t
theorem cutsF_data (s : ByteArray) : ∀ (d fr i : Nat), i + d = s.size → fr ≤ i → (cutsF d s fr i).map (·.data.toList) = preH ((s.data.toList.drop fr).take (i - fr)) (partsL (s.data.toList.drop i)) := by
  intro d
  induction d with
  | zero =>
    intro fr i hi hf
    have hsz := Lib.size_eq s
    rw [List.drop_of_length_le (l := s.data.toList) (i := i) (by omega)]
    simp only [cutsF, List.map_cons, List.map_nil, partsL, preH, List.append_nil]
    rw [Lib.extract_to_end, List.take_of_length_le (by rw [List.length_drop]; omega)]
  | succ d ih =>
    intro fr i hi hf
    have hsz := Lib.size_eq s
    have hlt : i < s.data.toList.length := by omega
    rw [List.drop_eq_getElem_cons hlt]
    have hb := bt_get s i (by omega)
    have htk : (s.data.toList.drop fr).take (i + 1 - fr) = (s.data.toList.drop fr).take (i - fr) ++ [s.data.toList[i]] := by
      rw [show i + 1 - fr = (i - fr) + 1 by omega, List.take_succ_eq_append_getElem (by rw [List.length_drop]; omega)]
      simp [show fr + (i - fr) = i by omega]
    by_cases h : bt s i = 47
    · have h47 : s.data.toList[i] = 47 := by
        apply UInt8.toNat_inj.1
        rw [hb] at h
        show _ = 47
        omega
      rw [cutsF, if_pos h, h47, partsL, if_pos rfl]
      simp only [List.map_cons, preH, List.append_nil]
      rw [ih (i + 1) (i + 1) (by omega) (Nat.le_refl _), Lib.extract_data]
      have hne := partsL_ne (s.data.toList.drop (i + 1))
      cases hq : partsL (s.data.toList.drop (i + 1)) with
      | nil => exact absurd hq hne
      | cons a t => simp [preH]
    · have h47 : ¬ s.data.toList[i] = 47 := by
        intro e
        rw [hb, e] at h
        exact h rfl
      rw [cutsF, if_neg h, partsL, if_neg h47, ih fr (i + 1) (by omega) (by omega), htk]
      have hne := partsL_ne (s.data.toList.drop (i + 1))
      cases hq : partsL (s.data.toList.drop (i + 1)) with
      | nil => exact absurd hq hne
      | cons a t => simp [preH, consH]
theorem cutsF_parts (s : ByteArray) : cutsF s.size s 0 0 = partsB s := by
  apply map_data_inj
  rw [cutsF_data s s.size 0 0 (by omega) (Nat.le_refl _), partsB_data]
  have hne := partsL_ne s.data.toList
  cases hq : partsL s.data.toList with
  | nil => exact absurd hq hne
  | cons a t => simp [preH, hq]
theorem ref_Parts_l0 (s : ByteArray) (hs : s.size ≤ 4294967280) : ∀ (d k i fr : Nat) (acc : List ByteArray), i + d = s.size → fr ≤ i → acc.length ≤ i → d < k →
    graftageref06_Parts.l0 k s acc fr i = some (acc ++ cutsF d s fr i) := by
  intro d
  induction d with
  | zero =>
    intro k i fr acc hi hf ha hk
    obtain ⟨k, rfl⟩ : ∃ m, k = m + 1 := ⟨k - 1, by omega⟩
    simp only [graftageref06_Parts.l0]
    rw [if_neg (by omega), if_pos (by omega), if_pos (by omega), if_pos (by omega)]
    simp [cutsF]
  | succ d ih =>
    intro k i fr acc hi hf ha hk
    obtain ⟨k, rfl⟩ : ∃ m, k = m + 1 := ⟨k - 1, by omega⟩
    simp only [graftageref06_Parts.l0]
    rw [if_pos (by omega), if_pos (by omega), wrap_id (by omega) (by omega)]
    by_cases h : bt s i = 47
    · rw [if_pos h, if_pos (by omega), if_pos (by omega), if_pos (by omega), if_pos (by omega)]
      have := ih k (i + 1) (i + 1) (acc ++ [s.extract fr i]) (by omega) (Nat.le_refl _) (by simp; omega) (by omega)
      rw [cutsF, if_pos h]
      simpa using this
    · rw [if_neg h]
      have := ih k (i + 1) fr acc (by omega) (by omega) (by omega) (by omega)
      rw [cutsF, if_neg h]
      simpa using this
def pathParts (s : ByteArray) : List ByteArray := if s.toList = [] then [] else partsB s
theorem ref_Parts_ev (s : ByteArray) (hs : s.size ≤ 4294967280) : Ev (fun k => graftageref06_Parts.f k s) (pathParts s) := by
  unfold graftageref06_Parts.f pathParts
  by_cases h : s.toList = []
  · simp only [if_pos h]
    exact Ev.now _
  · simp only [if_neg h]
    refine Ev.of (g := fun k => graftageref06_Parts.l0 k s [] 0 0) (fun k => graftageref06_Parts.mono_l k _ _ _ _) (k := s.size + 1) ?_
    have := ref_Parts_l0 s hs s.size (s.size + 1) 0 0 [] (by omega) (Nat.le_refl _) (by simp) (by omega)
    rw [cutsF_parts] at this
    simpa using this
theorem split_eq (s : ByteArray) (hs : s.size ≤ 4294967280) : strings_Split.f s ⟨#[47]⟩ = some (partsB s) := by
  unfold strings_Split.f
  rw [if_pos ⟨rfl, by omega⟩, split_parts]
/-! ### part, Is, Same -/
/-- A path's part, as far as both texts ask alike. -/
def partOK (s : ByteArray) : Bool := decide (1 ≤ s.size) && decide (s.size ≤ 64) && (s.toList != [46]) && (s.toList != [46, 46]) && (s.toList != [46, 103, 114, 97, 102, 116]) && s.data.toList.all (fun b => decide (32 ≤ b.toNat))
theorem all_drop (p : UInt8 → Bool) (l : List UInt8) (i : Nat) (h : i < l.length) : (l.drop i).all p = (p l[i] && (l.drop (i + 1)).all p) := by
  rw [List.drop_eq_getElem_cons h, List.all_cons]
theorem path_part_l0 (s : ByteArray) (hs : s.size ≤ 140737488351232) : ∀ (d k i : Nat), i + d = s.size → d < k → path_part.l0 k s s.size i = some ((s.data.toList.drop i).all (fun b => decide (32 ≤ b.toNat))) := by
  intro d
  induction d with
  | zero =>
    intro k i hi hk
    obtain ⟨k, rfl⟩ : ∃ m, k = m + 1 := ⟨k - 1, by omega⟩
    have hsz := Lib.size_eq s
    simp only [path_part.l0]
    rw [if_neg (by omega), List.drop_of_length_le (by omega)]
    rfl
  | succ d ih =>
    intro k i hi hk
    obtain ⟨k, rfl⟩ : ∃ m, k = m + 1 := ⟨k - 1, by omega⟩
    have hsz := Lib.size_eq s
    have := ih k (i + 1) (by omega) (by omega)
    simp only [path_part.l0]
    rw [if_pos (by omega), if_pos (by omega), if_pos (by omega), wrap_id (by omega) (by omega), all_drop _ _ i (by omega), bt_get s i (by omega)]
    by_cases h : (s.data.toList[i]'(by omega)).toNat < 32
    · rw [if_pos (by omega), decide_eq_false (show ¬ 32 ≤ (s.data.toList[i]'(by omega)).toNat by omega)]
      rfl
    · rw [if_neg (by omega), decide_eq_true (show 32 ≤ (s.data.toList[i]'(by omega)).toNat by omega), Bool.true_and]
      exact_mod_cast this
theorem ref_part_l0 (s : ByteArray) (hs : s.size ≤ 140737488351232) (h47 : (47 : UInt8) ∉ s.data.toList) : ∀ (d k i : Nat), i + d = s.size → d < k → graftageref06_part.l0 k s i = some ((s.data.toList.drop i).all (fun b => decide (32 ≤ b.toNat))) := by
  intro d
  induction d with
  | zero =>
    intro k i hi hk
    obtain ⟨k, rfl⟩ : ∃ m, k = m + 1 := ⟨k - 1, by omega⟩
    have hsz := Lib.size_eq s
    simp only [graftageref06_part.l0]
    rw [if_neg (by omega), List.drop_of_length_le (by omega)]
    rfl
  | succ d ih =>
    intro k i hi hk
    obtain ⟨k, rfl⟩ : ∃ m, k = m + 1 := ⟨k - 1, by omega⟩
    have hsz := Lib.size_eq s
    have := ih k (i + 1) (by omega) (by omega)
    have hne : ¬ (bt s i = 47) := by
      rw [bt_get s i (by omega)]
      intro e
      apply h47
      have : s.data.toList[i]'(by omega) = 47 := by
        apply UInt8.toNat_inj.1
        show _ = 47
        omega
      rw [← this]
      exact List.getElem_mem _
    simp only [graftageref06_part.l0]
    rw [if_pos (by omega), if_pos (by omega), if_neg hne, wrap_id (by omega) (by omega), all_drop _ _ i (by omega), bt_get s i (by omega)]
    by_cases h : (s.data.toList[i]'(by omega)).toNat < 32
    · rw [if_pos (by omega), decide_eq_false (show ¬ 32 ≤ (s.data.toList[i]'(by omega)).toNat by omega)]
      rfl
    · rw [if_neg (by omega), decide_eq_true (show 32 ≤ (s.data.toList[i]'(by omega)).toNat by omega), Bool.true_and]
      exact_mod_cast this
theorem path_part_eq (s : ByteArray) (hs : s.size ≤ 140737488351232) (k : Nat) (hk : s.size + 1 < k) : path_part.f k s = some (partOK s) := by
  obtain ⟨k, rfl⟩ : ∃ m, k = m + 1 := ⟨k - 1, by omega⟩
  have hl := path_part_l0 s hs s.size k 0 (by omega) (by omega)
  unfold path_part.f partOK
  by_cases h1 : s.size < 1
  · rw [if_pos (by omega), path_part.j0, if_pos rfl]; simp [show ¬ (1 ≤ s.size) by omega]
  rw [if_neg (by omega)]
  by_cases h2 : s.size > 64
  · rw [if_pos (by omega), path_part.j0, if_pos rfl]; simp [show ¬ (s.size ≤ 64) by omega]
  rw [if_neg (by omega)]
  by_cases h3 : s.toList = [46]
  · rw [if_pos h3, path_part.j0, if_pos rfl]; simp [h3]
  rw [if_neg h3]
  by_cases h4 : s.toList = [46, 46]
  · rw [if_pos h4, path_part.j0, if_pos rfl]; simp [h4]
  rw [if_neg h4, path_part.j0]
  by_cases h5 : s.toList = [46, 103, 114, 97, 102, 116]
  · rw [if_pos (by simp [h5])]; simp [h5]
  · rw [if_neg (by simp [h5]), show (0 : Int) = ((0 : Nat) : Int) from rfl, hl]
    simp [h3, h4, h5, show 1 ≤ s.size by omega, show s.size ≤ 64 by omega]
theorem ref_part_eq (s : ByteArray) (hs : s.size ≤ 140737488351232) (h47 : (47 : UInt8) ∉ s.data.toList) (k : Nat) (hk : s.size + 1 < k) : graftageref06_part.f k s = some (partOK s) := by
  obtain ⟨k, rfl⟩ : ∃ m, k = m + 1 := ⟨k - 1, by omega⟩
  have hl := ref_part_l0 s hs h47 s.size k 0 (by omega) (by omega)
  unfold graftageref06_part.f partOK
  by_cases h1 : s.size < 1
  · rw [if_pos (by omega), graftageref06_part.j0, if_pos rfl]; simp [show ¬ (1 ≤ s.size) by omega]
  rw [if_neg (by omega)]
  by_cases h2 : s.size > 64
  · rw [if_pos (by omega), graftageref06_part.j0, if_pos rfl]; simp [show ¬ (s.size ≤ 64) by omega]
  rw [if_neg (by omega)]
  by_cases h3 : s.toList = [46]
  · rw [if_pos h3, graftageref06_part.j0, if_pos rfl]; simp [h3]
  rw [if_neg h3]
  by_cases h4 : s.toList = [46, 46]
  · rw [if_pos h4, graftageref06_part.j0, if_pos rfl]; simp [h4]
  rw [if_neg h4, graftageref06_part.j0]
  by_cases h5 : s.toList = [46, 103, 114, 97, 102, 116]
  · rw [if_pos (by simp [h5])]; simp [h5]
  · rw [if_neg (by simp [h5]), show (0 : Int) = ((0 : Nat) : Int) from rfl, hl]
    simp [h3, h4, h5, show 1 ≤ s.size by omega, show s.size ≤ 64 by omega]
/-- A loop that asks each element, with rounds for each. -/
theorem all_ext (p : ByteArray → Bool) (l : List ByteArray) (i : Nat) (h : i < l.length) : (l.drop i).all p = (p l[i] && (l.drop (i + 1)).all p) := by
  rw [List.drop_eq_getElem_cons h, List.all_cons]
theorem path_Is_l0 (l : List ByteArray) (B : Nat) (hB : B ≤ 140737488351232) (hl : ∀ x ∈ l, x.size ≤ B) (hn : l.length ≤ 140737488351232) : ∀ (d k i : Nat), i + d = l.length → d + B + 2 ≤ k →
    path_Is.l0 k l l l.length i = some ((l.drop i).all partOK && decide (l.length ≤ 16)) := by
  intro d
  induction d with
  | zero =>
    intro k i hi hk
    obtain ⟨k, rfl⟩ : ∃ m, k = m + 1 := ⟨k - 1, by omega⟩
    simp only [path_Is.l0]
    rw [if_neg (by omega), List.drop_of_length_le (by omega), List.all_nil, Bool.true_and, decide_eq_decide.2 (show ((l.length : Int) ≤ 16) ↔ l.length ≤ 16 by omega)]
  | succ d ih =>
    intro k i hi hk
    obtain ⟨k, rfl⟩ : ∃ m, k = m + 1 := ⟨k - 1, by omega⟩
    have hi' : i < l.length := by omega
    have := ih k (i + 1) (by omega) (by omega)
    have hsz := hl _ (List.getElem_mem hi')
    simp only [path_Is.l0]
    rw [if_pos (by omega), if_pos (by omega), if_pos (by omega), rd_ext l i hi', path_part_eq _ (by omega) k (by omega), wrap_id (by omega) (by omega), all_ext _ _ i hi']
    simp only [Option.bind_some]
    by_cases h : partOK l[i] = true
    · rw [if_pos h, h]
      simpa using this
    · rw [if_neg h]
      simp [h]
theorem partsB_size (s : ByteArray) : ∀ x ∈ partsB s, x.size ≤ s.size := by
  have key : ∀ (l : List UInt8), ∀ p ∈ partsL l, p.length ≤ l.length := by
    intro l
    induction l with
    | nil => intro p hp; simp [partsL] at hp; simp [hp]
    | cons b r ih =>
      intro p hp
      unfold partsL at hp
      split at hp
      · rcases List.mem_cons.1 hp with rfl | hp
        · simp
        · have := ih p hp; simp; omega
      · cases hq : partsL r with
        | nil => exact absurd hq (partsL_ne r)
        | cons h t =>
          rw [hq] at hp ih
          rcases List.mem_cons.1 hp with rfl | hp
          · have := ih h List.mem_cons_self; simp; omega
          · have := ih p (List.mem_cons_of_mem _ hp); simp; omega
  intro x hx
  obtain ⟨p, hp, rfl⟩ := List.mem_map.1 hx
  have := key _ p hp
  rw [Lib.size_eq s]
  show p.toArray.size ≤ _
  rw [List.size_toArray]
  exact this
theorem partsB_no47 (s : ByteArray) : ∀ x ∈ partsB s, (47 : UInt8) ∉ x.data.toList := by
  intro x hx
  obtain ⟨p, hp, rfl⟩ := List.mem_map.1 hx
  simpa using partsL_no47 _ p hp
theorem partsB_length_le (s : ByteArray) : (partsB s).length ≤ s.size + 1 := by
  have := partsL_length_le s.data.toList
  rw [Lib.size_eq s]
  simpa [partsB] using this
def isPath (s : ByteArray) : Bool := (s.toList != []) && decide (s.size ≤ 255) && ((partsB s).all partOK && decide ((partsB s).length ≤ 16))
theorem path_Is_ev (s : ByteArray) : Ev (fun k => path_Is.f k s) (isPath s) := by
  refine Ev.of (fun k => path_Is.mono s k) (k := 1000) ?_
  show path_Is.f (999 + 1) s = _
  unfold path_Is.f isPath
  by_cases h : s.toList = []
  · rw [if_pos h, path_Is.j0, if_pos rfl]; simp [h]
  · rw [if_neg h, path_Is.j0]
    by_cases h2 : s.size ≤ 255
    · rw [if_neg (by simp; omega), split_eq s (by omega)]
      simp only [Option.bind_some]
      have hn := partsB_length_le s
      rw [show (0 : Int) = ((0 : Nat) : Int) from rfl, path_Is_l0 (partsB s) 255 (by omega) (fun x hx => Nat.le_trans (partsB_size s x hx) h2) (by omega) (partsB s).length 999 0 (by omega) (by omega)]
      simp [h, h2]
    · rw [if_pos (by simp; omega)]
      simp [h2]
theorem ref_Is_l0 (l : List ByteArray) (B : Nat) (hB : B ≤ 140737488351232) (hl : ∀ x ∈ l, x.size ≤ B) (h47 : ∀ x ∈ l, (47 : UInt8) ∉ x.data.toList) (hn : l.length ≤ 140737488351232) : ∀ (d k i : Nat), i + d = l.length → d + B + 2 ≤ k →
    graftageref06_Is.l0 k l i = some ((l.drop i).all partOK) := by
  intro d
  induction d with
  | zero =>
    intro k i hi hk
    obtain ⟨k, rfl⟩ : ∃ m, k = m + 1 := ⟨k - 1, by omega⟩
    simp only [graftageref06_Is.l0]
    rw [if_neg (by omega), List.drop_of_length_le (by omega)]
    simp
  | succ d ih =>
    intro k i hi hk
    obtain ⟨k, rfl⟩ : ∃ m, k = m + 1 := ⟨k - 1, by omega⟩
    have hi' : i < l.length := by omega
    have := ih k (i + 1) (by omega) (by omega)
    have hsz := hl _ (List.getElem_mem hi')
    simp only [graftageref06_Is.l0]
    rw [if_pos (by omega), if_pos (by omega), rd_ext l i hi', ref_part_eq _ (by omega) (h47 _ (List.getElem_mem hi')) k (by omega), wrap_id (by omega) (by omega), all_ext _ _ i hi']
    simp only [Option.bind_some]
    by_cases h : partOK l[i] = true
    · rw [if_pos h, h]
      simpa using this
    · rw [if_neg h]
      simp [h]
theorem ref_Is_ev (s : ByteArray) (hs : s.size ≤ 4294967280) : Ev (fun k => graftageref06_Is.f k s) (isPath s) := by
  refine Ev.bind (ref_Parts_ev s hs) ?_
  unfold isPath pathParts
  by_cases h : s.toList = []
  · have e1 : (([] : List ByteArray).length : Int) < 1 := by simp
    simp only [if_pos h, if_pos e1]
    refine Ev.step (f := fun _ => some false) (fun k => by rw [graftageref06_Is.j0, if_pos rfl]) ?_
    simp only [h, bne_self_eq_false, Bool.false_and]
    exact Ev.now _
  · have hne : (partsB s).length ≠ 0 := by
      simp [partsB, partsL_ne]
    have e1 : ¬ ((partsB s).length : Int) < 1 := by omega
    simp only [if_neg h, if_neg e1]
    by_cases h16 : (partsB s).length > 16
    · have e2 : ((partsB s).length : Int) > 16 := by omega
      simp only [if_pos e2]
      refine Ev.step (f := fun _ => some false) (fun k => by rw [graftageref06_Is.j0, if_pos rfl]) ?_
      simp only [show decide ((partsB s).length ≤ 16) = false by simp; omega, Bool.and_false]
      exact Ev.now _
    · have e2 : ¬ ((partsB s).length : Int) > 16 := by omega
      simp only [if_neg e2]
      by_cases h2 : s.size ≤ 255
      · refine Ev.step (f := fun k => graftageref06_Is.l0 k (partsB s) 0) (fun k => by rw [graftageref06_Is.j0, if_neg (by simp; omega)]) ?_
        refine Ev.of (fun k => (graftageref06_Is.mono_l k).2 _ _) (k := (partsB s).length + 255 + 2) ?_
        have hn := partsB_length_le s
        rw [show (0 : Int) = ((0 : Nat) : Int) from rfl, ref_Is_l0 (partsB s) 255 (by omega) (fun x hx => Nat.le_trans (partsB_size s x hx) h2) (partsB_no47 s) (by omega) (partsB s).length _ 0 (by omega) (by omega)]
        have b1 : (s.toList != []) = true := by simpa using h
        rw [List.drop_zero, b1, decide_eq_true h2, decide_eq_true (show (partsB s).length ≤ 16 by omega)]
        simp
      · refine Ev.step (f := fun _ => some false) (fun k => by rw [graftageref06_Is.j0, if_pos (by simp; omega)]) ?_
        simp only [show decide (s.size ≤ 255) = false by simp; omega, Bool.and_false, Bool.false_and]
        exact Ev.now _
end Go.Proofs.YtccbpbdfihnlgaaDoor.Q


/- Contracts of Go functions as calls of plain Lean functions, written by a program of this session over the kit's print. -/
namespace Go.Proofs.YtccbpbdfihnlgaaDoor.Q
open Go.RowKit Go.Proofs.YtccbpbdfihnlgaaDoorW.PrintWords Go.Proofs.YtccbpbdfihnlgaaDoorW.PrintLast Go.Proofs.YtccbpbdfihnlgaaDoorW.PrintMore
attribute [local go_sem] max2_int min2_int max_two min_two max_three min_three max_four min_four   -- for this text's walks alone

def graftageref02_Raw.T7 : Bool × List (List Nat × List Nat) := (true, [([], []), ([], []), ([], []), ([1, 2], [1, 2]), ([3], [3]), ([4], [4]), ([], []), ([], []), ([7], [7]), ([6, 8], [6, 8]), ([9, 4], [9]), ([5, 10], [5, 10]), ([11], [11]), ([12], [12]), ([0, 13, 10], [0, 13]), ([14, 14, 0, 1, 2, 3, 4, 5, 6, 7, 8, 9, 10, 11, 12, 13, 14], [0, 14])])
def graftageref02_Raw.B7 : List Nat := [0, 0, 0, 6, 14, 30, 0, 0, 128, 448, 990, 2046, 4094, 8190, 16383, 32767]
theorem graftageref02_Raw.tab7 : rtab .any (opsOf Tryd.f53 7) = graftageref02_Raw.T7 := by kernel_rfl
theorem graftageref02_Raw.bits7 : waitsOk graftageref02_Raw.T7.2 graftageref02_Raw.B7 = true := by kernel_rfl
end Go.Proofs.YtccbpbdfihnlgaaDoor.Q


/- Contracts of Go functions as calls of plain Lean functions, written by a program of this session over the kit's print. -/
namespace Go.Proofs.YtccbpbdfihnlgaaDoor.Q
open Go.RowKit Go.Proofs.YtccbpbdfihnlgaaDoorW.PrintWords Go.Proofs.YtccbpbdfihnlgaaDoorW.PrintLast Go.Proofs.YtccbpbdfihnlgaaDoorW.PrintMore
attribute [local go_sem] max2_int min2_int max_two min_two max_three min_three max_four min_four   -- for this text's walks alone

end Go.Proofs.YtccbpbdfihnlgaaDoor.Q


/- Ids: digits, bytes and their digits; the program's and the reference's. -/
namespace Go.Proofs.YtccbpbdfihnlgaaDoor.Q
open Go.RowKit Go.Proofs.YtccbpbdfihnlgaaDoorW.PrintWords Go.Proofs.YtccbpbdfihnlgaaDoorW.PrintLast Go.Proofs.YtccbpbdfihnlgaaDoorW.PrintMore

def hexD : List UInt8 := [48, 49, 50, 51, 52, 53, 54, 55, 56, 57, 97, 98, 99, 100, 101, 102]
/-- A digit's value; -1. -/
def dv (b : Int) : Int := Lib.indexByte hexD b.toNat.toUInt8
theorem dv_table : ∀ n : Fin 256, graftageref02_Digit.f 2 (n.val : Int) = some (dv (n.val : Int)) ∧ -1 ≤ dv (n.val : Int) ∧ dv (n.val : Int) ≤ 15 := by decide +kernel
theorem bt_fin (s : ByteArray) (i : Int) : ∃ n : Fin 256, bt s i = (n.val : Int) := by
  obtain ⟨h0, h1⟩ := bt_range s i
  exact ⟨⟨(bt s i).toNat, by omega⟩, by simp; omega⟩
theorem value_eq (b : Int) : ident_value.f b = some (dv b) := rfl
theorem Digit_bt (s : ByteArray) (i : Int) (k : Nat) (hk : 2 ≤ k) : graftageref02_Digit.f k (bt s i) = some (dv (bt s i)) := by
  obtain ⟨n, hn⟩ := bt_fin s i
  rw [hn]
  exact at_rounds (fun k => graftageref02_Digit.mono _ k) hk (dv_table n).1
/-- Are all digits, from a place on? -/
def hexF (s : ByteArray) : Nat → Nat → Bool
  | 0, _ => true
  | d + 1, i => decide (0 ≤ dv (bt s i)) && hexF s d (i + 1)
theorem all_l0 (s : ByteArray) (hs : s.size ≤ 140737488351232) : ∀ (d k i : Nat), i + d = s.size → d < k → ident_all.l0 k s s.size i = some (hexF s d i) := by
  intro d
  induction d with
  | zero =>
    intro k i hi hk
    obtain ⟨k, rfl⟩ : ∃ m, k = m + 1 := ⟨k - 1, by omega⟩
    simp only [ident_all.l0]
    rw [if_neg (by omega)]; rfl
  | succ d ih =>
    intro k i hi hk
    obtain ⟨k, rfl⟩ : ∃ m, k = m + 1 := ⟨k - 1, by omega⟩
    have := ih k (i + 1) (by omega) (by omega)
    simp only [ident_all.l0]
    rw [if_pos (by omega), if_pos (by omega), if_pos (by omega), value_eq, wrap_id (by omega) (by omega)]
    simp only [Option.bind_some]
    rw [hexF]
    by_cases h : dv (bt s i) < 0
    · rw [if_pos h, decide_eq_false (by omega)]; rfl
    · rw [if_neg h, decide_eq_true (by omega), Bool.true_and]; exact_mod_cast this
theorem digits_l0 (s : ByteArray) (hs : s.size ≤ 140737488351232) : ∀ (d k i : Nat), i + d = s.size → d + 2 < k → graftageref02_digits.l0 k s i = some (hexF s d i) := by
  intro d
  induction d with
  | zero =>
    intro k i hi hk
    obtain ⟨k, rfl⟩ : ∃ m, k = m + 1 := ⟨k - 1, by omega⟩
    simp only [graftageref02_digits.l0]
    rw [if_neg (by omega)]; rfl
  | succ d ih =>
    intro k i hi hk
    obtain ⟨k, rfl⟩ : ∃ m, k = m + 1 := ⟨k - 1, by omega⟩
    have := ih k (i + 1) (by omega) (by omega)
    simp only [graftageref02_digits.l0]
    rw [if_pos (by omega), if_pos (by omega), Digit_bt s i k (by omega), wrap_id (by omega) (by omega)]
    simp only [Option.bind_some]
    rw [hexF]
    by_cases h : dv (bt s i) < 0
    · rw [if_pos h, decide_eq_false (by omega)]; rfl
    · rw [if_neg h, decide_eq_true (by omega), Bool.true_and]; exact_mod_cast this
def idOk (s : ByteArray) : Bool := decide (s.size = 40) && hexF s s.size 0
theorem ident_Is_ev (s : ByteArray) : Ev (fun k => ident_Is.f k s) (idOk s) := by
  unfold idOk
  by_cases h : s.size = 40
  · refine Ev.congr (f := fun k => (ident_all.f k s).bind fun t => some t) (fun k => by unfold ident_Is.f; rw [if_pos (by omega)]) ?_
    refine Ev.bind (Ev.of (fun k => ident_all.mono s k) (k := 60) (r := hexF s s.size 0) ?_) ?_
    · unfold ident_all.f
      exact_mod_cast all_l0 s (by omega) s.size 60 0 (by omega) (by omega)
    · rw [decide_eq_true h, Bool.true_and]; exact Ev.now _
  · refine Ev.congr (f := fun _ => some false) (fun k => by unfold ident_Is.f; rw [if_neg (by omega)]) ?_
    rw [decide_eq_false h, Bool.false_and]; exact Ev.now _
theorem ref_idIs_ev (s : ByteArray) : Ev (fun k => graftageref02_Is.f k s) (idOk s) := by
  unfold idOk
  by_cases h : s.size = 40
  · refine Ev.congr (f := fun k => (graftageref02_digits.f k s).bind fun t => some t) (fun k => by unfold graftageref02_Is.f; rw [if_pos (by omega)]) ?_
    refine Ev.bind (Ev.of (fun k => graftageref02_digits.mono s k) (k := 60) (r := hexF s s.size 0) ?_) ?_
    · unfold graftageref02_digits.f
      exact_mod_cast digits_l0 s (by omega) s.size 60 0 (by omega) (by omega)
    · rw [decide_eq_true h, Bool.true_and]; exact Ev.now _
  · refine Ev.congr (f := fun _ => some false) (fun k => by unfold graftageref02_Is.f; rw [if_neg (by omega)]) ?_
    rw [decide_eq_false h, Bool.false_and]; exact Ev.now _
/-! ### Hex -/
def hx (n : Int) : Int := bt (⟨#[48, 49, 50, 51, 52, 53, 54, 55, 56, 57, 97, 98, 99, 100, 101, 102]⟩ : ByteArray) n
end Go.Proofs.YtccbpbdfihnlgaaDoor.Q


/- Contracts of Go functions as calls of plain Lean functions, written by a program of this session over the kit's print. -/
namespace Go.Proofs.YtccbpbdfihnlgaaDoor.Q
open Go.RowKit Go.Proofs.YtccbpbdfihnlgaaDoorW.PrintWords Go.Proofs.YtccbpbdfihnlgaaDoorW.PrintLast Go.Proofs.YtccbpbdfihnlgaaDoorW.PrintMore
attribute [local go_sem] max2_int min2_int max_two min_two max_three min_three max_four min_four   -- for this text's walks alone

/-! ### graftageref15_key: function 66 -/
def graftageref15_key.f (a0_0 : Int) (a0_1 : ByteArray) (a0_2 : ByteArray) : Option (ByteArray) := if a0_0 = 4 then (if a0_1.size + 1 ≤ 9223372036854775807 then (some (a0_1 ++ (⟨#[47]⟩ : ByteArray))) else (none)) else (some a0_1)
end Go.Proofs.YtccbpbdfihnlgaaDoor.Q


/- Contracts of Go functions as calls of plain Lean functions, written by a program of this session over the kit's print. -/
namespace Go.Proofs.YtccbpbdfihnlgaaDoor.Q
open Go.RowKit Go.Proofs.YtccbpbdfihnlgaaDoorW.PrintWords Go.Proofs.YtccbpbdfihnlgaaDoorW.PrintLast Go.Proofs.YtccbpbdfihnlgaaDoorW.PrintMore
attribute [local go_sem] max2_int min2_int max_two min_two max_three min_three max_four min_four   -- for this text's walks alone

/-! ### graftageref15_Less: function 27 -/
def graftageref15_Less.f (a0_0 : Int) (a0_1 : ByteArray) (a0_2 : ByteArray) (a1_0 : Int) (a1_1 : ByteArray) (a1_2 : ByteArray) : Option (Bool) := (graftageref15_key.f a0_0 a0_1 a0_2).bind fun t125 => ((graftageref15_key.f a1_0 a1_1 a1_2).bind fun t126 => (some (Op.bytesLess t125.toList t126.toList)))
end Go.Proofs.YtccbpbdfihnlgaaDoor.Q


/- Contracts of Go functions as calls of plain Lean functions, written by a program of this session over the kit's print. -/
namespace Go.Proofs.YtccbpbdfihnlgaaDoor.Q
open Go.RowKit Go.Proofs.YtccbpbdfihnlgaaDoorW.PrintWords Go.Proofs.YtccbpbdfihnlgaaDoorW.PrintLast Go.Proofs.YtccbpbdfihnlgaaDoorW.PrintMore
attribute [local go_sem] max2_int min2_int max_two min_two max_three min_three max_four min_four   -- for this text's walks alone

/-! ### graftageref15_Check: function 19 -/
mutual
def graftageref15_Check.l0 : Nat → List (S35) → Int → Int → Option (Int)
  | 0, _, _, _ => none
  | k + 1, x0, x9, x10 => if x10 < x9 then (if 0 ≤ x10 then (if x10 < (x0.length : Int) then ((graftageref15_May.f k ((rd_T35 x0 x10).f0) ((rd_T35 x0 x10).f1) ((rd_T35 x0 x10).f2)).bind fun t228 => (if t228 = true then (if x10 > 0 then (if 0 ≤ (wrap64 (x10 - 1)) then (if (wrap64 (x10 - 1)) < (x0.length : Int) then ((graftageref15_Less.f ((rd_T35 x0 (wrap64 (x10 - 1))).f0) ((rd_T35 x0 (wrap64 (x10 - 1))).f1) ((rd_T35 x0 (wrap64 (x10 - 1))).f2) ((rd_T35 x0 x10).f0) ((rd_T35 x0 x10).f1) ((rd_T35 x0 x10).f2)).bind fun t231 => (graftageref15_Check.j1 k x0 x10 x9 x10 (!t231))) else (none)) else (none)) else (graftageref15_Check.j1 k x0 x10 x9 x10 false)) else (some 1))) else (none)) else (none)) else (some 0)
def graftageref15_Check.j1 : Nat → List (S35) → Int → Int → Int → Bool → Option (Int)
  | 0, _, _, _, _, _ => none
  | k + 1, x0, x3, x9, x10, x33 => if x33 = true then (some 150) else (graftageref15_Check.l1 k x0 x3 x9 x10 x3 0)
def graftageref15_Check.l1 : Nat → List (S35) → Int → Int → Int → Int → Int → Option (Int)
  | 0, _, _, _, _, _, _ => none
  | k + 1, x0, x3, x9, x10, x34, x35 => if x35 < x34 then (if 0 ≤ x35 then (if x35 < (x0.length : Int) then (if 0 ≤ x3 then (if x3 < (x0.length : Int) then (if ((rd_T35 x0 x35).f1).toList = ((rd_T35 x0 x3).f1).toList then (some 6) else (graftageref15_Check.l1 k x0 x3 x9 x10 x34 (wrap64 (x35 + 1)))) else (none)) else (none)) else (none)) else (none)) else (graftageref15_Check.l0 k x0 x9 (wrap64 (x10 + 1)))
end
end Go.Proofs.YtccbpbdfihnlgaaDoor.Q


/- Trees: entries, their order, the test of a list; the program's and the reference's. (35: the type of an entry in this seat's translation.) -/
namespace Go.Proofs.YtccbpbdfihnlgaaDoor.Q
open Go.RowKit Go.Proofs.YtccbpbdfihnlgaaDoorW.PrintWords Go.Proofs.YtccbpbdfihnlgaaDoorW.PrintLast Go.Proofs.YtccbpbdfihnlgaaDoorW.PrintMore

theorem ev_ite {α : Type} {c : Prop} [Decidable c] {f g : Nat → Option α} {r : α} (h1 : c → Ev f r) (h2 : ¬ c → Ev g r) : Ev (fun k => if c then f k else g k) r := by
  by_cases h : c
  · simp only [if_pos h]; exact h1 h
  · simp only [if_neg h]; exact h2 h
theorem rd35_get (l : List S35) (i : Nat) (h : i < l.length) : rd_T35 l i = l[i] := by
  simp [rd_T35, List.getD, List.getElem?_eq_getElem h]
/-! ### a byte's place -/
def ixF (l : List UInt8) (c : UInt8) (i : Nat) : Int := if Lib.indexByte (l.drop i) c = -1 then -1 else Lib.indexByte (l.drop i) c + i
theorem ix_step (x c : UInt8) (q : Int) (i : Nat) (hge : -1 ≤ q) (T : Option Int) (hT : T = some (if q = -1 then -1 else q + ((i + 1 : Nat) : Int))) :
    (if (x.toNat : Int) = (c.toNat : Int) then some (i : Int) else T) = some (if (if (x == c) = true then 0 else if (q == -1) = true then -1 else q + 1) = -1 then -1 else (if (x == c) = true then 0 else if (q == -1) = true then -1 else q + 1) + (i : Int)) := by
  by_cases h : x = c
  · rw [if_pos (by rw [h])]
    simp [h]
  · rw [if_neg (fun e => h (UInt8.toNat_inj.1 (by exact_mod_cast e))), hT]
    have hb : (x == c) = false := by simpa using h
    simp only [hb, Bool.false_eq_true, if_false, beq_iff_eq]
    by_cases h2 : q = -1
    · simp [h2]
    · simp only [h2, if_false]
      rw [if_neg (by omega)]
      congr 1; omega
theorem Find_l0 (s : ByteArray) (hs : s.size ≤ 140737488351232) (c : UInt8) : ∀ (d k i : Nat), i + d = s.size → d < k → graftageref14_Find.l0 k s (c.toNat : Int) i = some (ixF s.data.toList c i) := by
  intro d
  induction d with
  | zero =>
    intro k i hi hk
    obtain ⟨k, rfl⟩ : ∃ m, k = m + 1 := ⟨k - 1, by omega⟩
    simp only [graftageref14_Find.l0]
    rw [if_neg (by omega)]
    have : s.data.toList.drop i = [] := List.drop_of_length_le (by rw [← Lib.size_eq]; omega)
    unfold ixF; rw [this]; rfl
  | succ d ih =>
    intro k i hi hk
    obtain ⟨k, rfl⟩ : ∃ m, k = m + 1 := ⟨k - 1, by omega⟩
    have := ih k (i + 1) (by omega) (by omega)
    have hl : i < s.data.toList.length := by rw [← Lib.size_eq]; omega
    have hd : s.data.toList.drop i = s.data.toList[i] :: s.data.toList.drop (i + 1) := List.drop_eq_getElem_cons hl
    have hge := Lib.indexByte_ge (s.data.toList.drop (i + 1)) c
    simp only [graftageref14_Find.l0]
    rw [if_pos (by omega), if_pos (by omega), bt_get s i (by omega), wrap_id (by omega) (by omega)]
    unfold ixF at this ⊢
    rw [hd]
    simp only [Lib.indexByte]
    exact ix_step _ _ _ i hge _ (by exact_mod_cast this)
theorem Find_ev (s : ByteArray) (hs : s.size ≤ 140737488351232) (c : UInt8) (i : Nat) (hi : i ≤ s.size) : Ev (fun k => graftageref14_Find.f k s (c.toNat : Int) i) (ixF s.data.toList c i) := by
  refine Ev.of (fun k => graftageref14_Find.mono s _ _ k) (k := s.size + 1) ?_
  exact Find_l0 s hs c (s.size - i) _ i (by omega) (by omega)
/-! ### what may be -/
def no47 (s : ByteArray) : Bool := decide (Lib.indexByte s.data.toList 47 < 0)
def mayB (e : S35) : Bool := decide (1 ≤ e.f0) && (decide (e.f0 ≤ 4) && (isPath e.f1 && (no47 e.f1 && idOk e.f2)))
theorem may_ev (e : S35) : Ev (fun k => tree_may.f k e.f0 e.f1 e.f2) (mayB e) := by
  unfold mayB
  refine ev_ite (fun h1 => ev_ite (fun h2 => ?_) (fun h2 => ?_)) (fun h1 => ?_)
  · rw [decide_eq_true (show 1 ≤ e.f0 from h1), decide_eq_true h2, Bool.true_and, Bool.true_and]
    refine Ev.bind (path_Is_ev e.f1) (ev_ite (fun h3 => ?_) (fun h3 => ?_))
    · rw [h3, Bool.true_and]
      have hc : strings_Contains.f e.f1 ⟨#[47]⟩ = some (!no47 e.f1) := by
        show some (decide (0 ≤ Lib.indexByte e.f1.data.toList 47)) = _
        unfold no47
        congr 1
        rw [← decide_not]
        apply decide_eq_decide.2
        omega
      rw [hc]
      simp only [Option.bind_some]
      by_cases h4 : no47 e.f1 = true
      · simp only [h4, Bool.not_true, Bool.false_eq_true, if_false, Bool.true_and]
        exact Ev.bind (ident_Is_ev e.f2) (Ev.now _)
      · rw [Bool.not_eq_true] at h4
        simp only [h4, Bool.not_false, if_true, Bool.false_and]
        exact Ev.now _
    · rw [Bool.not_eq_true] at h3
      rw [h3, Bool.false_and]; exact Ev.now _
  · rw [decide_eq_false (show ¬ e.f0 ≤ 4 from h2), Bool.false_and, Bool.and_false]; exact Ev.now _
  · rw [decide_eq_false (show ¬ 1 ≤ e.f0 from h1), Bool.false_and]; exact Ev.now _
theorem May_ev (e : S35) (hs : e.f1.size ≤ 4294967280) : Ev (fun k => graftageref15_May.f k e.f0 e.f1 e.f2) (mayB e) := by
  unfold mayB
  refine ev_ite (fun h1 => ev_ite (fun h2 => ?_) (fun h2 => ?_)) (fun h1 => ?_)
  · rw [decide_eq_true (show 1 ≤ e.f0 from h1), decide_eq_true h2, Bool.true_and, Bool.true_and]
    refine Ev.bind (ref_Is_ev e.f1 hs) (ev_ite (fun h3 => ?_) (fun h3 => ?_))
    · rw [h3, Bool.true_and]
      refine Ev.bind (Find_ev e.f1 (by omega) 47 0 (by omega)) ?_
      have hix : (ixF e.f1.data.toList 47 0 < 0) ↔ (no47 e.f1 = true) := by
        unfold ixF no47
        rw [List.drop_zero, decide_eq_true_eq]
        have := Lib.indexByte_ge e.f1.data.toList 47
        split
        · rename_i h; simp [h]
        · simp
      by_cases h4 : no47 e.f1 = true
      · simp only [if_pos (hix.2 h4), h4, Bool.true_and]
        exact Ev.bind (ref_idIs_ev e.f2) (Ev.now _)
      · simp only [if_neg (fun h => h4 (hix.1 h))]
        rw [Bool.not_eq_true] at h4
        rw [h4, Bool.false_and]
        exact Ev.now _
    · rw [Bool.not_eq_true] at h3
      rw [h3, Bool.false_and]; exact Ev.now _
  · rw [decide_eq_false (show ¬ e.f0 ≤ 4 from h2), Bool.false_and, Bool.and_false]; exact Ev.now _
  · rw [decide_eq_false (show ¬ 1 ≤ e.f0 from h1), Bool.false_and]; exact Ev.now _
/-! ### the order -/
def keyB (m : Int) (s : ByteArray) : ByteArray := if m = 4 then s ++ ⟨#[47]⟩ else s
def lessB (a b : S35) : Bool := Op.bytesLess (keyB a.f0 a.f1).toList (keyB b.f0 b.f1).toList
theorem key_eq (m : Int) (s i : ByteArray) (hs : s.size ≤ 140737488351232) : tree_key.f m s i = some (keyB m s) := by
  unfold tree_key.f keyB
  by_cases h : m = 4
  · rw [if_pos h, if_pos h, if_pos (by omega)]
  · rw [if_neg h, if_neg h]
theorem Less_eq (a b : S35) (ha : a.f1.size ≤ 140737488351232) (hb : b.f1.size ≤ 140737488351232) : tree_Less.f a.f0 a.f1 a.f2 b.f0 b.f1 b.f2 = some (lessB a b) := by
  unfold tree_Less.f lessB
  rw [key_eq _ _ _ ha]
  simp only [Option.bind_some]
  rw [key_eq _ _ _ hb]
  rfl
def at35 (l : List S35) (i : Nat) : S35 := rd_T35 l i
/-- How often a name stands among the first n. -/
def cnt (l : List S35) (x : List UInt8) : Nat → Int
  | 0 => 0
  | n + 1 => cnt l x n + (if (at35 l n).f1.data.toList = x then 1 else 0)
theorem cnt_ge (l : List S35) (x : List UInt8) : ∀ n, 0 ≤ cnt l x n ∧ cnt l x n ≤ n
  | 0 => by simp [cnt]
  | n + 1 => by
    have := cnt_ge l x n
    unfold cnt
    split <;> omega
def dupF (l : List S35) (x : List UInt8) : Nat → Bool
  | 0 => false
  | n + 1 => dupF l x n || decide ((at35 l n).f1.data.toList = x)
theorem cnt_dup (l : List S35) (x : List UInt8) : ∀ n, decide (0 < cnt l x n) = dupF l x n
  | 0 => by simp [cnt, dupF]
  | n + 1 => by
    have ih := cnt_dup l x n
    have := cnt_ge l x n
    rw [cnt, dupF, ← ih]
    by_cases h : (at35 l n).f1.data.toList = x
    · rw [if_pos h, decide_eq_true h, Bool.or_true, decide_eq_true (by omega)]
    · rw [if_neg h, decide_eq_false h, Bool.or_false, Int.add_zero]
def cF (l : List S35) : Nat → Nat → Int
  | 0, _ => 0
  | d + 1, i => if mayB (at35 l i) = false then 1 else if (decide (0 < i) && !lessB (at35 l (i - 1)) (at35 l i)) = true then 150 else if dupF l (at35 l i).f1.data.toList i = true then 6 else cF l d (i + 1)
def checkB (l : List S35) : Int := if l.length > 1024 then 4 else cF l l.length 0
structure MetI (l : List S35) (N : Nat) (m : MSI) : Prop where
  hn : m.n = N
  hf : ∀ x, (m.f x).getD 0 = cnt l x N
theorem MetI.put {l : List S35} {n : Nat} {m : MSI} (h : MetI l n m) (hn : n ≤ 1024) : MetI l (n + 1) (MSI.put m (at35 l n).f1 (wrap64 (MSI.get m (at35 l n).f1 + 1))) := by
  refine ⟨by simp [MSI.put, h.hn], fun x => ?_⟩
  have hc := cnt_ge l x n
  have hg : MSI.get m (at35 l n).f1 = cnt l (at35 l n).f1.data.toList n := h.hf _
  have hc2 := cnt_ge l (at35 l n).f1.data.toList n
  rw [hg, wrap_id (by omega) (by omega)]
  simp only [MSI.put]
  by_cases e : x = (at35 l n).f1.data.toList
  · rw [if_pos e, cnt, if_pos e.symm, e]; rfl
  · rw [if_neg e, cnt, if_neg (fun h => e h.symm), Int.add_zero]; exact h.hf x
theorem at_size (l : List S35) (hs : ∀ x ∈ l, x.f1.size ≤ 4294967280) (hn : l.length ≤ 1024) (i : Nat) (h : i < l.length) : (at35 l i).f1.size ≤ 4294967280 := by
  unfold at35; rw [rd35_get l i h]; exact hs _ (List.getElem_mem h)
section
variable (l : List S35) (hs : ∀ x ∈ l, x.f1.size ≤ 4294967280) (hn : l.length ≤ 1024)
include hs hn
theorem Check_l0 : ∀ (d i : Nat) (m : MSI), i + d = l.length → MetI l i m → Ev (fun k => tree_Check.l0 k l l l.length i m) (cF l d i) := by
  intro d
  induction d with
  | zero =>
    intro i m hi hm
    exact Ev.step (f := fun _ => some 0) (fun k => by rw [tree_Check.l0, if_neg (by omega)]) (Ev.now _)
  | succ d ih =>
    intro i m hi hm
    have hsz := at_size l hs hn i (by omega)
    have e0 : rd_T35 l (i : Int) = at35 l i := rfl
    refine Ev.step (f := fun k => (tree_may.f k (at35 l i).f0 (at35 l i).f1 (at35 l i).f2).bind fun t104 => (if t104 = true then (if (i : Int) > 0 then (if 0 ≤ (wrap64 ((i : Int) - 1)) then (if (wrap64 ((i : Int) - 1)) < (l.length : Int) then ((tree_Less.f ((rd_T35 l (wrap64 ((i : Int) - 1))).f0) ((rd_T35 l (wrap64 ((i : Int) - 1))).f1) ((rd_T35 l (wrap64 ((i : Int) - 1))).f2) (at35 l i).f0 (at35 l i).f1 (at35 l i).f2).bind fun t106 => (tree_Check.j1 k l l l.length i (!t106) (MSI.put m (at35 l i).f1 (wrap64 (MSI.get m (at35 l i).f1 + 1))) (at35 l i).f0 (at35 l i).f1 (at35 l i).f2)) else none) else none) else (tree_Check.j1 k l l l.length i false (MSI.put m (at35 l i).f1 (wrap64 (MSI.get m (at35 l i).f1 + 1))) (at35 l i).f0 (at35 l i).f1 (at35 l i).f2)) else (some 1))) (fun k => ?_) ?_
    · rw [tree_Check.l0, if_pos (by omega), if_pos (by omega), if_pos (by omega), e0, if_pos (by omega), if_pos (by rw [hm.hn]; omega)]
    · refine Ev.bind (may_ev (at35 l i)) ?_
      rw [cF]
      by_cases hmay : mayB (at35 l i) = true
      · simp only [hmay, if_true, Bool.true_eq_false, if_false]
        have hput := hm.put (by omega)
        have hJ : ∀ b : Bool, Ev (fun k => tree_Check.j1 k l l l.length i b (MSI.put m (at35 l i).f1 (wrap64 (MSI.get m (at35 l i).f1 + 1))) (at35 l i).f0 (at35 l i).f1 (at35 l i).f2) (if b = true then 150 else if dupF l (at35 l i).f1.data.toList i = true then 6 else cF l d (i + 1)) := by
          intro b
          refine Ev.step (f := fun k => if b = true then some 150 else (if MSI.get (MSI.put m (at35 l i).f1 (wrap64 (MSI.get m (at35 l i).f1 + 1))) (at35 l i).f1 > 1 then some 6 else tree_Check.l0 k l l l.length ((i : Int) + 1) (MSI.put m (at35 l i).f1 (wrap64 (MSI.get m (at35 l i).f1 + 1))))) (fun k => ?_) ?_
          · rw [tree_Check.j1, if_pos (show (at35 l i).f1.size ≤ 9223372036854775807 by omega), wrap_id (x := (i : Int) + 1) (by omega) (by omega)]
          · have hg : MSI.get (MSI.put m (at35 l i).f1 (wrap64 (MSI.get m (at35 l i).f1 + 1))) (at35 l i).f1 = cnt l (at35 l i).f1.data.toList (i + 1) := hput.hf _
            rw [hg, cnt, if_pos rfl, ← cnt_dup]
            refine ev_ite (fun hb => ?_) (fun hb => ?_)
            · rw [if_pos hb]; exact Ev.now _
            · rw [if_neg hb]
              refine ev_ite (fun hc => ?_) (fun hc => ?_)
              · rw [if_pos (decide_eq_true (by omega))]; exact Ev.now _
              · rw [if_neg (by rw [decide_eq_true_eq]; omega)]
                exact_mod_cast ih (i + 1) _ (by omega) hput
        refine ev_ite (fun h0 => ?_) (fun h0 => ?_)
        · have e1 : wrap64 ((i : Int) - 1) = ((i - 1 : Nat) : Int) := by rw [wrap_id (by omega) (by omega)]; omega
          have hsz1 := at_size l hs hn (i - 1) (by omega)
          rw [e1]
          refine Ev.congr (f := fun k => tree_Check.j1 k l l l.length i (!lessB (at35 l (i - 1)) (at35 l i)) (MSI.put m (at35 l i).f1 (wrap64 (MSI.get m (at35 l i).f1 + 1))) (at35 l i).f0 (at35 l i).f1 (at35 l i).f2) (fun k => ?_) ?_
          · rw [if_pos (by omega), if_pos (by omega)]
            have := Less_eq (at35 l (i - 1)) (at35 l i) (by omega) (by omega)
            unfold at35 at this ⊢
            rw [this]; rfl
          · have := hJ (!lessB (at35 l (i - 1)) (at35 l i))
            rw [decide_eq_true (show 0 < i by omega), Bool.true_and]
            exact this
        · have := hJ false
          rw [decide_eq_false (show ¬ 0 < i by omega), Bool.false_and]
          exact this
      · rw [Bool.not_eq_true] at hmay
        simp only [hmay, Bool.false_eq_true, if_false, if_true]
        exact Ev.now _
end
theorem metI0 (l : List S35) : MetI l 0 MSI.nil := ⟨rfl, fun x => rfl⟩
theorem Check_ev (l : List S35) (hs : ∀ x ∈ l, x.f1.size ≤ 4294967280) : Ev (fun k => tree_Check.f k l) (checkB l) := by
  unfold checkB
  refine ev_ite (fun h => ?_) (fun h => ?_)
  · rw [if_pos (by omega)]; exact Ev.now _
  · rw [if_neg (by omega)]
    exact_mod_cast Check_l0 l hs (by omega) l.length 0 MSI.nil (by omega) (metI0 l)
section
variable (l : List S35) (hs : ∀ x ∈ l, x.f1.size ≤ 4294967280) (hn : l.length ≤ 1024)
include hs hn
end
theorem Check_ev' (l : List S35) (hs : l.length ≤ 1024 → ∀ x ∈ l, x.f1.size ≤ 4294967280) : Ev (fun k => tree_Check.f k l) (checkB l) := by
  by_cases h : l.length ≤ 1024
  · exact Check_ev l (hs h)
  · unfold checkB
    refine ev_ite (fun h => ?_) (fun h => ?_)
    · rw [if_pos (by omega)]; exact Ev.now _
    · omega
/-! ### few, Same -/
def fewF (l : List S35) : Nat → Nat → Bool
  | 0, _ => decide (l.length ≤ 60)
  | d + 1, i => if ((at35 l i).f1.size + (at35 l i).f2.size : Nat) > 500 then false else fewF l d (i + 1)
theorem few_ev (l : List S35) (hs : ∀ x ∈ l, x.f1.size ≤ 140737488351232 ∧ x.f2.size ≤ 140737488351232) (hn : l.length ≤ 140737488351232) : Ev (fun k => graftagelaw15_few.f k l) (fewF l l.length 0) := by
  have key : ∀ (d i : Nat), i + d = l.length → Ev (fun k => graftagelaw15_few.l0 k l l.length i) (fewF l d i) := by
    intro d
    induction d with
    | zero =>
      intro i hi
      refine Ev.step (f := fun _ => some (decide (l.length ≤ 60))) (fun k => ?_) (Ev.now _)
      rw [graftagelaw15_few.l0, if_neg (by omega)]
      congr 1
      apply decide_eq_decide.2
      omega
    | succ d ih =>
      intro i hi
      have h0 : (at35 l i).f1.size ≤ 140737488351232 ∧ (at35 l i).f2.size ≤ 140737488351232 := by unfold at35; rw [rd35_get l i (by omega)]; exact hs _ (List.getElem_mem _)
      have e0 : rd_T35 l (i : Int) = at35 l i := rfl
      refine Ev.step (f := fun k => if (((at35 l i).f1.size : Int) + ((at35 l i).f2.size : Int)) > 500 then some false else graftagelaw15_few.l0 k l l.length ((i : Int) + 1)) (fun k => by rw [graftagelaw15_few.l0, if_pos (by omega), if_pos (by omega), if_pos (by omega), e0, wrap_id (by omega) (by omega), wrap_id (by omega) (by omega)]) ?_
      rw [fewF]
      refine ev_ite (fun h => ?_) (fun h => ?_)
      · rw [if_pos (by omega)]; exact Ev.now _
      · rw [if_neg (by omega)]; exact_mod_cast ih (i + 1) (by omega)
  exact_mod_cast key l.length 0 (by omega)
theorem few_all (l : List S35) : ∀ (d i : Nat), i + d = l.length → fewF l d i = true → l.length ≤ 60 ∧ ∀ j, i ≤ j → j < l.length → (at35 l j).f1.size + (at35 l j).f2.size ≤ 500
  | 0, i, hi, h => ⟨by simpa [fewF] using h, fun j h1 h2 => by omega⟩
  | d + 1, i, hi, h => by
    rw [fewF] at h
    split at h
    · cases h
    · obtain ⟨h1, h2⟩ := few_all l d (i + 1) (by omega) h
      refine ⟨h1, fun j hj hl => ?_⟩
      by_cases e : j = i
      · rw [e]; omega
      · exact h2 j (by omega) hl
theorem few_size {l : List S35} (h : fewF l l.length 0 = true) : ∀ x ∈ l, x.f1.size + x.f2.size ≤ 500 := by
  intro x hx
  obtain ⟨j, hj, rfl⟩ := List.mem_iff_getElem.1 hx
  have := (few_all l l.length 0 (by omega) h).2 j (by omega) hj
  unfold at35 at this
  rwa [rd35_get l j hj] at this
theorem Same35_ev (l : List S35) (hn : l.length ≤ 140737488351232) : Ev (fun k => graftageref15_Same.f k l l) true := by
  have key : ∀ (d i : Nat), i + d = l.length → Ev (fun k => graftageref15_Same.l0 k l l l.length i) true := by
    intro d
    induction d with
    | zero =>
      intro i hi
      exact Ev.step (f := fun _ => some true) (fun k => by rw [graftageref15_Same.l0, if_neg (by omega)]) (Ev.now _)
    | succ d ih =>
      intro i hi
      refine Ev.step (f := fun k => graftageref15_Same.l0 k l l l.length ((i : Int) + 1)) (fun k => by rw [graftageref15_Same.l0, if_pos (by omega), if_pos (by omega), if_pos (by omega), if_pos (by omega), if_neg (by simp), wrap_id (by omega) (by omega)]) ?_
      exact_mod_cast ih (i + 1) (by omega)
  refine Ev.congr (f := fun k => graftageref15_Same.l0 k l l l.length 0) (fun k => by unfold graftageref15_Same.f; rw [if_pos rfl]) ?_
  exact_mod_cast key l.length 0 (by omega)
end Go.Proofs.YtccbpbdfihnlgaaDoor.Q


/- Contracts of Go functions as calls of plain Lean functions, written by a program of this session over the kit's print. -/
namespace Go.Proofs.YtccbpbdfihnlgaaDoor.Q
open Go.RowKit Go.Proofs.YtccbpbdfihnlgaaDoorW.PrintWords Go.Proofs.YtccbpbdfihnlgaaDoorW.PrintLast Go.Proofs.YtccbpbdfihnlgaaDoorW.PrintMore
attribute [local go_sem] max2_int min2_int max_two min_two max_three min_three max_four min_four   -- for this text's walks alone

end Go.Proofs.YtccbpbdfihnlgaaDoor.Q


/- Trees: TreeOrder. -/
namespace Go.Proofs.YtccbpbdfihnlgaaDoor.Q
open Go.RowKit Go.Proofs.YtccbpbdfihnlgaaDoorW.PrintWords Go.Proofs.YtccbpbdfihnlgaaDoorW.PrintLast Go.Proofs.YtccbpbdfihnlgaaDoorW.PrintMore
theorem keyB_data (m : Int) (s : ByteArray) : (keyB m s).toList = if m = 4 then s.data.toList ++ [47] else s.data.toList := by
  unfold keyB
  by_cases h : m = 4
  · rw [if_pos h, if_pos h, Lib.toList_data, append_data]
  · rw [if_neg h, if_neg h, Lib.toList_data]
theorem indexByte_neg : ∀ (l : List UInt8) (c : UInt8), Lib.indexByte l c < 0 → c ∉ l
  | [], _, _ => by simp
  | b :: r, c, h => by
    have hge := Lib.indexByte_ge r c
    rw [Lib.indexByte] at h
    by_cases e : b = c
    · rw [if_pos (by simp [e])] at h; omega
    · rw [if_neg (by simp [e])] at h
      by_cases e2 : Lib.indexByte r c = -1
      · have := indexByte_neg r c (by omega)
        simp only [List.mem_cons, not_or]
        exact ⟨fun x => e x.symm, this⟩
      · rw [if_neg (by simpa using e2)] at h; omega
theorem no47_mem {s : ByteArray} (h : no47 s = true) : (47 : UInt8) ∉ s.data.toList := by
  unfold no47 at h
  exact indexByte_neg _ _ (by simpa using h)
theorem lt_trichotomy : ∀ a b : List UInt8, a < b ∨ a = b ∨ b < a
  | [], [] => .inr (.inl rfl)
  | [], y :: q => .inl (List.nil_lt_cons y q)
  | x :: r, [] => .inr (.inr (List.nil_lt_cons x r))
  | x :: r, y :: q => by
    rcases Nat.lt_trichotomy x.toNat y.toNat with h | h | h
    · exact .inl (List.cons_lt_cons_iff.2 (.inl (UInt8.lt_iff_toNat_lt.2 h)))
    · obtain rfl := UInt8.toNat_inj.1 h
      rcases lt_trichotomy r q with h | h | h
      · exact .inl (List.cons_lt_cons_iff.2 (.inr ⟨rfl, h⟩))
      · exact .inr (.inl (by rw [h]))
      · exact .inr (.inr (List.cons_lt_cons_iff.2 (.inr ⟨rfl, h⟩)))
    · exact .inr (.inr (List.cons_lt_cons_iff.2 (.inl (UInt8.lt_iff_toNat_lt.2 h))))
theorem lessB_eq (a b : S35) : lessB a b = decide ((keyB a.f0 a.f1).toList < (keyB b.f0 b.f1).toList) := Go.Proofs.bytesLess_eq _ _
theorem key_ne {a b : S35} (ha : (47 : UInt8) ∉ a.f1.data.toList) (hb : (47 : UInt8) ∉ b.f1.data.toList) (h : a.f1.data.toList ≠ b.f1.data.toList) : (keyB a.f0 a.f1).toList ≠ (keyB b.f0 b.f1).toList := by
  rw [keyB_data, keyB_data]
  intro e
  split at e <;> split at e
  · exact h (List.append_cancel_right e)
  · exact hb (by rw [← e]; simp)
  · exact ha (by rw [e]; simp)
  · exact h e
end Go.Proofs.YtccbpbdfihnlgaaDoor.Q


/- Contracts of Go functions as calls of plain Lean functions, written by a program of this session over the kit's print. -/
namespace Go.Proofs.YtccbpbdfihnlgaaDoor.Q
open Go.RowKit Go.Proofs.YtccbpbdfihnlgaaDoorW.PrintWords Go.Proofs.YtccbpbdfihnlgaaDoorW.PrintLast Go.Proofs.YtccbpbdfihnlgaaDoorW.PrintMore
attribute [local go_sem] max2_int min2_int max_two min_two max_three min_three max_four min_four   -- for this text's walks alone

/-! ### graftageref15_Find: function 26 -/
def graftageref15_Find.l0 : Nat → List (S35) → ByteArray → Int → Int → Option (Int × ByteArray × ByteArray × Bool)
  | 0, _, _, _, _ => none
  | k + 1, x0, x1, x8, x9 => if x9 < x8 then (if 0 ≤ x9 then (if x9 < (x0.length : Int) then (if ((rd_T35 x0 x9).f1).toList = x1.toList then (some ((rd_T35 x0 x9).f0, (rd_T35 x0 x9).f1, (rd_T35 x0 x9).f2, true)) else (graftageref15_Find.l0 k x0 x1 x8 (wrap64 (x9 + 1)))) else (none)) else (none)) else (some (0, (⟨#[]⟩ : ByteArray), (⟨#[]⟩ : ByteArray), false))
def graftageref15_Find.f (k : Nat) (l0 : List (S35)) (a1 : ByteArray) : Option (Int × ByteArray × ByteArray × Bool) := graftageref15_Find.l0 k l0 a1 (l0.length : Int) 0
end Go.Proofs.YtccbpbdfihnlgaaDoor.Q


/- Contracts of Go functions as calls of plain Lean functions, written by a program of this session over the kit's print. -/
namespace Go.Proofs.YtccbpbdfihnlgaaDoor.Q
open Go.RowKit Go.Proofs.YtccbpbdfihnlgaaDoorW.PrintWords Go.Proofs.YtccbpbdfihnlgaaDoorW.PrintLast Go.Proofs.YtccbpbdfihnlgaaDoorW.PrintMore
attribute [local go_sem] max2_int min2_int max_two min_two max_three min_three max_four min_four   -- for this text's walks alone

/-! ### graftageref15_Drop: function 31 -/
def graftageref15_Drop.l0 : Nat → List (S35) → ByteArray → List (S35) → Int → Int → Option ((List (S35)))
  | 0, _, _, _, _, _ => none
  | k + 1, x0, x1, x5, x8, x9 => if x9 < x8 then (if 0 ≤ x9 then (if x9 < (x0.length : Int) then (if ((rd_T35 x0 x9).f1).toList = x1.toList then (graftageref15_Drop.l0 k x0 x1 x5 x8 (wrap64 (x9 + 1))) else (if x5.length < 3518437208883 then (graftageref15_Drop.l0 k x0 x1 (x5 ++ [(⟨(rd_T35 x0 x9).f0, (rd_T35 x0 x9).f1, (rd_T35 x0 x9).f2⟩ : S35)]) x8 (wrap64 (x9 + 1))) else (none))) else (none)) else (none)) else (some x5)
def graftageref15_Drop.f (k : Nat) (l0 : List (S35)) (a1 : ByteArray) : Option ((List (S35))) := graftageref15_Drop.l0 k l0 a1 ([] : List (S35)) (l0.length : Int) 0
end Go.Proofs.YtccbpbdfihnlgaaDoor.Q


/- Contracts of Go functions as calls of plain Lean functions, written by a program of this session over the kit's print. -/
namespace Go.Proofs.YtccbpbdfihnlgaaDoor.Q
open Go.RowKit Go.Proofs.YtccbpbdfihnlgaaDoorW.PrintWords Go.Proofs.YtccbpbdfihnlgaaDoorW.PrintLast Go.Proofs.YtccbpbdfihnlgaaDoorW.PrintMore
attribute [local go_sem] max2_int min2_int max_two min_two max_three min_three max_four min_four   -- for this text's walks alone

/-! ### graftageref15_Put: function 29 -/
def graftageref15_Put.l0 : Nat → List (S35) → Int → Int → ByteArray → ByteArray → Option ((List (S35)))
  | 0, _, _, _, _, _ => none
  | k + 1, x5, x6, x136000, x136001, x136002 => if x6 < (x5.length : Int) then (if 0 ≤ x6 then ((graftageref15_Less.f x136000 x136001 x136002 ((rd_T35 x5 x6).f0) ((rd_T35 x5 x6).f1) ((rd_T35 x5 x6).f2)).bind fun t140 => (if t140 = true then (if x6 ≤ (x5.length : Int) then ((some (x5.take (x6 : Int).toNat : List (S35))).bind fun y141 => (if ([] : List (S35)).length + y141.length < 3518437208883 then ((some (([] : List (S35)) ++ y141 : List (S35))).bind fun y145 => (if y145.length < 3518437208883 then ((some (y145 ++ [(⟨x136000, x136001, x136002⟩ : S35)] : List (S35))).bind fun y148 => ((some (x5.drop (x6 : Int).toNat : List (S35))).bind fun y151 => (if y148.length + y151.length < 3518437208883 then (some (y148 ++ y151)) else (none)))) else (none))) else (none))) else (none)) else (graftageref15_Put.l0 k x5 (wrap64 (x6 + 1)) x136000 x136001 x136002))) else (none)) else (if 0 ≤ x6 then (if x6 ≤ (x5.length : Int) then ((some (x5.take (x6 : Int).toNat : List (S35))).bind fun y158 => (if ([] : List (S35)).length + y158.length < 3518437208883 then ((some (([] : List (S35)) ++ y158 : List (S35))).bind fun y162 => (if y162.length < 3518437208883 then ((some (y162 ++ [(⟨x136000, x136001, x136002⟩ : S35)] : List (S35))).bind fun y165 => ((some (x5.drop (x6 : Int).toNat : List (S35))).bind fun y168 => (if y165.length + y168.length < 3518437208883 then (some (y165 ++ y168)) else (none)))) else (none))) else (none))) else (none)) else (none))
def graftageref15_Put.f (k : Nat) (l0 : List (S35)) (a1_0 : Int) (a1_1 : ByteArray) (a1_2 : ByteArray) : Option ((List (S35))) := (graftageref15_Drop.f k l0 a1_1).bind fun t136 => (graftageref15_Put.l0 k t136 0 a1_0 a1_1 a1_2)
end Go.Proofs.YtccbpbdfihnlgaaDoor.Q


/- Trees: entries found, dropped and put, over lists. -/
namespace Go.Proofs.YtccbpbdfihnlgaaDoor.Q
open Go.RowKit Go.Proofs.YtccbpbdfihnlgaaDoorW.PrintWords Go.Proofs.YtccbpbdfihnlgaaDoorW.PrintLast Go.Proofs.YtccbpbdfihnlgaaDoorW.PrintMore
def hasN (x : ByteArray) (e : S35) : Bool := e.f1.toList == x.toList
def firstI (p : S35 → Bool) (l : List S35) : Int := if l.findIdx p < l.length then (l.findIdx p : Int) else -1
theorem at35_get (l : List S35) (j : Nat) (h : j < l.length) : at35 l j = l[j] := rd35_get l j h
theorem firstI_none {p : S35 → Bool} {l : List S35} (h : ∀ j, j < l.length → p (at35 l j) = false) : firstI p l = -1 := by
  unfold firstI
  rw [if_neg]
  intro hlt
  have := List.findIdx_getElem (w := hlt)
  have h2 := h _ hlt
  rw [at35_get _ _ hlt] at h2
  rw [h2] at this
  cases this
theorem firstI_at {p : S35 → Bool} {l : List S35} {i : Nat} (hi : i < l.length) (hp : p (at35 l i) = true) (h : ∀ j, j < i → p (at35 l j) = false) : l.findIdx p = i := by
  rw [List.findIdx_eq hi]
  refine ⟨by rwa [at35_get _ _ hi] at hp, fun j hj => ?_⟩
  have := h j hj
  rwa [at35_get _ _ (by omega)] at this
theorem Index_l0 (l : List S35) (f : Int → ByteArray → ByteArray → Option Bool) (p : S35 → Bool) (hf : ∀ e ∈ l, f e.f0 e.f1 e.f2 = some (p e)) (hl : l.length ≤ 1000000) : ∀ (d i : Nat), i + d = l.length → (∀ j, j < i → p (at35 l j) = false) → Ev (fun k => api_Entry_64.l0 k l f l.length i) (firstI p l) := by
  intro d
  induction d with
  | zero =>
    intro i hi h
    rw [firstI_none (fun j hj => h j (by omega))]
    exact Ev.step (f := fun _ => some (-1)) (fun k => by rw [api_Entry_64.l0, if_neg (by omega)]) (Ev.now _)
  | succ d ih =>
    intro i hi h
    have hlt : i < l.length := by omega
    have hm : f (at35 l i).f0 (at35 l i).f1 (at35 l i).f2 = some (p (at35 l i)) := hf _ (by rw [at35_get _ _ hlt]; exact List.getElem_mem hlt)
    have e0 : rd_T35 l (i : Int) = at35 l i := rfl
    refine Ev.step (f := fun k => if p (at35 l i) = true then some (i : Int) else api_Entry_64.l0 k l f l.length ((i : Int) + 1)) (fun k => by rw [api_Entry_64.l0, if_pos (by omega), if_pos (by omega), if_pos (by omega), e0, hm, Option.bind_some, wrap_id (by omega) (by omega)]) ?_
    refine ev_ite (fun hp => ?_) (fun hp => ?_)
    · unfold firstI
      rw [firstI_at hlt hp h, if_pos hlt]
      exact Ev.now _
    · have hp' : p (at35 l i) = false := by simpa using hp
      exact_mod_cast ih (i + 1) (by omega) (fun j hj => by
        by_cases e : j = i
        · rw [e]; exact hp'
        · exact h j (by omega))
theorem Index_ev (l : List S35) (f : Int → ByteArray → ByteArray → Option Bool) (p : S35 → Bool) (hf : ∀ e ∈ l, f e.f0 e.f1 e.f2 = some (p e)) (hl : l.length ≤ 1000000) : Ev (fun k => api_Entry_64.f k l f) (firstI p l) := by
  have := Index_l0 l f p hf hl l.length 0 (by omega) (fun j hj => by omega)
  exact_mod_cast this
def findB (l : List S35) (x : ByteArray) : Int × ByteArray × ByteArray × Bool := if l.findIdx (hasN x) < l.length then ((at35 l (l.findIdx (hasN x))).f0, (at35 l (l.findIdx (hasN x))).f1, (at35 l (l.findIdx (hasN x))).f2, true) else (0, ⟨#[]⟩, ⟨#[]⟩, false)
theorem Find_ev35 (l : List S35) (x : ByteArray) (hl : l.length ≤ 1000000) : Ev (fun k => tree_Find.f k l x) (findB l x) := by
  refine Ev.bind (Index_ev l _ (hasN x) (fun e _ => rfl) hl) ?_
  unfold firstI findB
  by_cases h : l.findIdx (hasN x) < l.length
  · simp only [if_pos h]
    refine Ev.congr (f := fun _ => some ((at35 l (l.findIdx (hasN x))).f0, (at35 l (l.findIdx (hasN x))).f1, (at35 l (l.findIdx (hasN x))).f2, true)) (fun k => by rw [if_neg (by omega), if_pos (by omega), if_pos (by omega)]; rfl) (Ev.now _)
  · simp only [if_neg h]
    refine Ev.congr (f := fun _ => some (0, (⟨#[]⟩ : ByteArray), (⟨#[]⟩ : ByteArray), false)) (fun k => by rw [if_pos (by decide)]) (Ev.now _)
/-! ### drops -/
def dropS (l : List S35) (x : ByteArray) : List S35 := l.filter (fun e => !hasN x e)
theorem Del_l0 (o : List S35) (f : Int → ByteArray → ByteArray → Option Bool) (p : S35 → Bool) (hf : ∀ e ∈ o, f e.f0 e.f1 e.f2 = some (p e)) (hl : o.length ≤ 1000000) : ∀ (d j i : Nat) (x : List S35), j + d = o.length → x.length = o.length → i ≤ j → x.take i = (o.take j).filter (fun e => !p e) → x.drop j = o.drop j → Ev (fun k => api_Entry_69.l0 k x f i j) (o.filter (fun e => !p e)) := by
  intro d
  induction d with
  | zero =>
    intro j i x hj hx hij ht hd
    refine Ev.step (f := fun _ => some ((x.take i ++ List.replicate (x.length - i) z35).take i)) (fun k => by rw [api_Entry_69.l0, if_neg (by omega), if_pos (by omega), if_pos (by omega), Int.toNat_natCast]) ?_
    have : (x.take i ++ List.replicate (x.length - i) z35).take i = o.filter (fun e => !p e) := by
      rw [List.take_left' (by rw [List.length_take]; omega), ht, List.take_of_length_le (by omega)]
    rw [this]
    exact Ev.now _
  | succ d ih =>
    intro j i x hj hx hij ht hd
    have hlt : j < o.length := by omega
    have hxj : at35 x j = o[j] := by
      rw [at35_get _ _ (by omega)]
      have h1 := List.drop_eq_getElem_cons (l := x) (i := j) (by omega)
      rw [hd, List.drop_eq_getElem_cons hlt] at h1
      exact (List.cons.inj h1).1.symm
    have hm : f (at35 x j).f0 (at35 x j).f1 (at35 x j).f2 = some (p (at35 x j)) := hf _ (by rw [hxj]; exact List.getElem_mem hlt)
    have e0 : rd_T35 x (j : Int) = at35 x j := rfl
    have htk : o.take (j + 1) = o.take j ++ [o[j]] := by rw [List.take_succ_eq_append_getElem hlt]
    have hdr : x.drop (j + 1) = o.drop (j + 1) := by rw [← List.drop_drop, hd, List.drop_drop]
    refine Ev.step (f := fun k => if p (at35 x j) = true then api_Entry_69.l0 k x f i ((j : Int) + 1) else api_Entry_69.l0 k (x.set i (at35 x j)) f ((i : Int) + 1) ((j : Int) + 1)) (fun k => ?_) ?_
    · rw [api_Entry_69.l0, if_pos (by omega), if_pos (by omega), e0, hm, Option.bind_some, wrap_id (by omega) (by omega), wrap_id (by omega) (by omega), if_pos (show (0 : Int) ≤ (i : Int) by omega), if_pos (show (i : Int) < (x.length : Int) by omega), Int.toNat_natCast]
    · refine ev_ite (fun hp => ?_) (fun hp => ?_)
      · exact_mod_cast ih (j + 1) i x (by omega) hx (by omega) (by rw [ht, htk, List.filter_append, ← hxj]; simp [hp]) hdr
      · have hp' : p (at35 x j) = false := by simpa using hp
        have := ih (j + 1) (i + 1) (x.set i (at35 x j)) (by omega) (by rw [List.length_set, hx]) (by omega) (by
          rw [List.take_succ_eq_append_getElem (by rw [List.length_set]; omega), List.getElem_set_self, List.take_set_of_le (Nat.le_refl _), ht, htk, List.filter_append, ← hxj]
          simp [hp']) (by rw [List.drop_set_of_lt (by omega), hdr])
        exact_mod_cast this
theorem Del_ev (o : List S35) (f : Int → ByteArray → ByteArray → Option Bool) (p : S35 → Bool) (hf : ∀ e ∈ o, f e.f0 e.f1 e.f2 = some (p e)) (hl : o.length ≤ 1000000) : Ev (fun k => api_Entry_69.f k o f) (o.filter (fun e => !p e)) := by
  refine Ev.bind (Index_ev o f p hf hl) ?_
  unfold firstI
  by_cases h : o.findIdx p < o.length
  · simp only [if_pos h]
    refine Ev.congr (f := fun k => api_Entry_69.l0 k o f (o.findIdx p) ((o.findIdx p + 1 : Nat) : Int)) (fun k => by rw [if_neg (by omega), wrap_id (by omega) (by omega)]; rfl) ?_
    refine Del_l0 o f p hf hl (o.length - (o.findIdx p + 1)) (o.findIdx p + 1) (o.findIdx p) o (by omega) rfl (by omega) ?_ rfl
    have hall : ∀ e ∈ o.take (o.findIdx p), p e = false := by
      intro e he
      obtain ⟨j, hj, rfl⟩ := List.mem_iff_getElem.1 he
      rw [List.length_take] at hj
      rw [List.getElem_take]
      exact List.not_of_lt_findIdx (by omega)
    rw [List.take_succ_eq_append_getElem h, List.filter_append, List.filter_eq_self.2 (fun e he => by rw [hall e he]; rfl)]
    have := List.findIdx_getElem (w := h)
    simp [this]
  · simp only [if_neg h]
    have : o.filter (fun e => !p e) = o := List.filter_eq_self.2 (fun e he => by
      have h1 : o.findIdx p = o.length := Nat.le_antisymm List.findIdx_le_length (by omega)
      rw [List.findIdx_eq_length.1 h1 e he]; rfl)
    rw [this]
    exact Ev.congr (f := fun _ => some o) (fun k => if_pos True.intro) (Ev.now _)
theorem Drop_ev (l : List S35) (x : ByteArray) (hl : l.length ≤ 1000000) : Ev (fun k => tree_Drop.f k l x) (dropS l x) := by
  have h0 : api_Entry_70.f l = some l := by
    unfold api_Entry_70.f
    simp only [Option.bind_some, List.length_nil, List.nil_append]
    rw [if_pos (by omega)]
  unfold tree_Drop.f
  rw [h0]
  simp only [Option.bind_some]
  exact Ev.bind (Del_ev l _ (hasN x) (fun e _ => rfl) hl) (Ev.now _)
/-! ### puts -/
def putS (l : List S35) (e : S35) : List S35 := (dropS l e.f1).take ((dropS l e.f1).findIdx (lessB e)) ++ [e] ++ (dropS l e.f1).drop ((dropS l e.f1).findIdx (lessB e))
theorem dropS_len (l : List S35) (x : ByteArray) : (dropS l x).length ≤ l.length := List.length_filter_le _ _
theorem dropS_mem {l : List S35} {x : ByteArray} {e : S35} (h : e ∈ dropS l x) : e ∈ l := (List.mem_filter.1 h).1
theorem Put_ev (l : List S35) (e : S35) (hl : l.length ≤ 1000000) (hs : ∀ x ∈ l, x.f1.size ≤ 140737488351232) (he : e.f1.size ≤ 140737488351232) : Ev (fun k => tree_Put.f k l e.f0 e.f1 e.f2) (putS l e) := by
  refine Ev.bind (Drop_ev l e.f1 hl) ?_
  have hdl := dropS_len l e.f1
  refine Ev.bind (Index_ev (dropS l e.f1) _ (lessB e) (fun x hx => ?_) (by omega)) ?_
  · unfold tree_Put_1.f
    rw [Less_eq e x he (hs x (dropS_mem hx))]
    rfl
  · have hi : ∀ i : Nat, i ≤ (dropS l e.f1).length → slices_Insert_68.f (dropS l e.f1) (i : Int) [e] = some ((dropS l e.f1).take i ++ [e] ++ (dropS l e.f1).drop i) := fun i hi => by
      simp only [slices_Insert_68.f]
      rw [if_pos (by omega), if_pos (by omega), if_pos (by omega), Int.toNat_natCast]
    have hle : (dropS l e.f1).findIdx (lessB e) ≤ (dropS l e.f1).length := List.findIdx_le_length
    unfold firstI putS
    by_cases h : (dropS l e.f1).findIdx (lessB e) < (dropS l e.f1).length
    · simp only [if_pos h]
      refine Ev.congr (f := fun _ => some ((dropS l e.f1).take ((dropS l e.f1).findIdx (lessB e)) ++ [e] ++ (dropS l e.f1).drop ((dropS l e.f1).findIdx (lessB e)))) (fun k => by rw [if_neg (by omega)]; show (slices_Insert_68.f _ _ [e]).bind _ = _; rw [hi _ hle]; rfl) (Ev.now _)
    · simp only [if_neg h]
      have h1 : (dropS l e.f1).findIdx (lessB e) = (dropS l e.f1).length := by omega
      rw [h1]
      refine Ev.congr (f := fun _ => some ((dropS l e.f1).take (dropS l e.f1).length ++ [e] ++ (dropS l e.f1).drop (dropS l e.f1).length)) (fun k => by rw [if_pos (by decide)]; show (slices_Insert_68.f _ _ [e]).bind _ = _; rw [hi _ (Nat.le_refl _)]; rfl) (Ev.now _)
end Go.Proofs.YtccbpbdfihnlgaaDoor.Q


/- Contracts of Go functions as calls of plain Lean functions, written by a program of this session over the kit's print. -/
namespace Go.Proofs.YtccbpbdfihnlgaaDoor.Q
open Go.RowKit Go.Proofs.YtccbpbdfihnlgaaDoorW.PrintWords Go.Proofs.YtccbpbdfihnlgaaDoorW.PrintLast Go.Proofs.YtccbpbdfihnlgaaDoorW.PrintMore
attribute [local go_sem] max2_int min2_int max_two min_two max_three min_three max_four min_four   -- for this text's walks alone

/-! ### graftageref15_digits: function 54 -/
def graftageref15_digits.f (a0 : Int) : Option (ByteArray) := if a0 = 1 then (some (⟨#[49, 48, 48, 54, 52, 52, 32]⟩ : ByteArray)) else (if a0 = 2 then (some (⟨#[49, 48, 48, 55, 53, 53, 32]⟩ : ByteArray)) else (if a0 = 3 then (some (⟨#[49, 50, 48, 48, 48, 48, 32]⟩ : ByteArray)) else (some (⟨#[52, 48, 48, 48, 48, 32]⟩ : ByteArray))))
end Go.Proofs.YtccbpbdfihnlgaaDoor.Q


/- Contracts of Go functions as calls of plain Lean functions, written by a program of this session over the kit's print. -/
namespace Go.Proofs.YtccbpbdfihnlgaaDoor.Q
open Go.RowKit Go.Proofs.YtccbpbdfihnlgaaDoorW.PrintWords Go.Proofs.YtccbpbdfihnlgaaDoorW.PrintLast Go.Proofs.YtccbpbdfihnlgaaDoorW.PrintMore
attribute [local go_sem] max2_int min2_int max_two min_two max_three min_three max_four min_four   -- for this text's walks alone

end Go.Proofs.YtccbpbdfihnlgaaDoor.Q


/- Contracts of Go functions as calls of plain Lean functions, written by a program of this session over the kit's print. -/
namespace Go.Proofs.YtccbpbdfihnlgaaDoor.Q
open Go.RowKit Go.Proofs.YtccbpbdfihnlgaaDoorW.PrintWords Go.Proofs.YtccbpbdfihnlgaaDoorW.PrintLast Go.Proofs.YtccbpbdfihnlgaaDoorW.PrintMore
attribute [local go_sem] max2_int min2_int max_two min_two max_three min_three max_four min_four   -- for this text's walks alone

/-! ### graftageref15_begins: function 136 -/
def graftageref15_begins.f (a0 : ByteArray) (a1 : ByteArray) : Option (Bool) := if (a0.size : Int) ≥ (a1.size : Int) then (if 0 ≤ (a1.size : Int) then (if (a1.size : Int) ≤ (a0.size : Int) then (some ((a0.extract 0 a1.size).toList == a1.toList)) else (none)) else (none)) else (some false)
end Go.Proofs.YtccbpbdfihnlgaaDoor.Q


/- Contracts of Go functions as calls of plain Lean functions, written by a program of this session over the kit's print. -/
namespace Go.Proofs.YtccbpbdfihnlgaaDoor.Q
open Go.RowKit Go.Proofs.YtccbpbdfihnlgaaDoorW.PrintWords Go.Proofs.YtccbpbdfihnlgaaDoorW.PrintLast Go.Proofs.YtccbpbdfihnlgaaDoorW.PrintMore
attribute [local go_sem] max2_int min2_int max_two min_two max_three min_three max_four min_four   -- for this text's walks alone

/-! ### graftageref15_mode: function 109 -/
mutual
def graftageref15_mode.l0 : Nat → ByteArray → Int → Option (Int)
  | 0, _, _ => none
  | k + 1, x0, x3 => if x3 ≤ 4 then ((graftageref15_digits.f x3).bind fun t137 => ((graftageref15_begins.f x0 t137).bind fun t138 => (if t138 = true then (some x3) else (graftageref15_mode.l0 k x0 (wrap64 (x3 + 1)))))) else (graftageref15_mode.l1 k x0 1)
def graftageref15_mode.l1 : Nat → ByteArray → Int → Option (Int)
  | 0, _, _ => none
  | k + 1, x0, x4 => if x4 ≤ 4 then ((graftageref15_digits.f x4).bind fun t139 => ((graftageref15_begins.f t139 x0).bind fun t140 => (if t140 = true then (some (-1)) else (graftageref15_mode.l1 k x0 (wrap64 (x4 + 1)))))) else (some 0)
end
end Go.Proofs.YtccbpbdfihnlgaaDoor.Q


/- Contracts of Go functions as calls of plain Lean functions, written by a program of this session over the kit's print. -/
namespace Go.Proofs.YtccbpbdfihnlgaaDoor.Q
open Go.RowKit Go.Proofs.YtccbpbdfihnlgaaDoorW.PrintWords Go.Proofs.YtccbpbdfihnlgaaDoorW.PrintLast Go.Proofs.YtccbpbdfihnlgaaDoorW.PrintMore
attribute [local go_sem] max2_int min2_int max_two min_two max_three min_three max_four min_four   -- for this text's walks alone

def graftageref15_one.T10 : Bool × List (List Nat × List Nat) := (true, [([], []), ([], []), ([], []), ([], []), ([1, 2, 3], [1, 2, 3]), ([], []), ([], []), ([6], [6]), ([], []), ([8], [8]), ([5, 7, 9], [5, 7, 9]), ([10], [10]), ([0, 4, 11], [0, 4, 11]), ([], []), ([13], [13]), ([12, 11, 0, 1, 2, 3, 4, 5, 6, 7, 8, 9, 10, 11, 12], [12]), ([14, 15, 0, 1, 2, 3, 4, 5, 6, 7, 8, 9, 10, 11, 12, 13, 14, 15], [14]), ([16, 0, 1, 2, 3, 4, 5, 6, 7, 8, 9, 10, 11, 12, 13, 14, 15, 16], [])])
def graftageref15_one.B10 : List Nat := [0, 0, 0, 0, 14, 0, 0, 64, 0, 256, 992, 2016, 4095, 0, 8192, 8191, 65535, 131071]
theorem graftageref15_one.tab10 : rtab .any (opsOf Tryd.f59 10) = graftageref15_one.T10 := by kernel_rfl
theorem graftageref15_one.bits10 : waitsOk graftageref15_one.T10.2 graftageref15_one.B10 = true := by kernel_rfl
end Go.Proofs.YtccbpbdfihnlgaaDoor.Q


/- Contracts of Go functions as calls of plain Lean functions, written by a program of this session over the kit's print. -/
namespace Go.Proofs.YtccbpbdfihnlgaaDoor.Q
open Go.RowKit Go.Proofs.YtccbpbdfihnlgaaDoorW.PrintWords Go.Proofs.YtccbpbdfihnlgaaDoorW.PrintLast Go.Proofs.YtccbpbdfihnlgaaDoorW.PrintMore
attribute [local go_sem] max2_int min2_int max_two min_two max_three min_three max_four min_four   -- for this text's walks alone

end Go.Proofs.YtccbpbdfihnlgaaDoor.Q


/- Contracts of Go functions as calls of plain Lean functions, written by a program of this session over the kit's print. -/
namespace Go.Proofs.YtccbpbdfihnlgaaDoor.Q
open Go.RowKit Go.Proofs.YtccbpbdfihnlgaaDoorW.PrintWords Go.Proofs.YtccbpbdfihnlgaaDoorW.PrintLast Go.Proofs.YtccbpbdfihnlgaaDoorW.PrintMore
attribute [local go_sem] max2_int min2_int max_two min_two max_three min_three max_four min_four   -- for this text's walks alone

end Go.Proofs.YtccbpbdfihnlgaaDoor.Q


/- Contracts of Go functions as calls of plain Lean functions, written by a program of this session over the kit's print. -/
namespace Go.Proofs.YtccbpbdfihnlgaaDoor.Q
open Go.RowKit Go.Proofs.YtccbpbdfihnlgaaDoorW.PrintWords Go.Proofs.YtccbpbdfihnlgaaDoorW.PrintLast Go.Proofs.YtccbpbdfihnlgaaDoorW.PrintMore
attribute [local go_sem] max2_int min2_int max_two min_two max_three min_three max_four min_four   -- for this text's walks alone

end Go.Proofs.YtccbpbdfihnlgaaDoor.Q


/- Contracts of Go functions as calls of plain Lean functions, written by a program of this session over the kit's print. -/
namespace Go.Proofs.YtccbpbdfihnlgaaDoor.Q
open Go.RowKit Go.Proofs.YtccbpbdfihnlgaaDoorW.PrintWords Go.Proofs.YtccbpbdfihnlgaaDoorW.PrintLast Go.Proofs.YtccbpbdfihnlgaaDoorW.PrintMore
attribute [local go_sem] max2_int min2_int max_two min_two max_three min_three max_four min_four   -- for this text's walks alone

/-! ### graftagelaw15_TreeBack: function 5 -/
mutual
def graftagelaw15_TreeBack.j0 : Nat → List (S35) → ByteArray → Bool → Option (Bool)
  | 0, _, _, _ => none
  | k + 1, x0, x1, x20 => if x20 = true then ((graftagelaw15_lives.f k).bind fun t132 => (some t132)) else ((tree_Body.f k x0).bind fun bt133 => (if bt133.2 = 0 then ((tree_Parse.f k bt133.1).bind fun bt135 => (if bt135.2 = 0 then ((graftageref15_Same.f k x0 bt135.1).bind fun t139 => (if t139 = true then (graftagelaw15_TreeBack.j1 k x1) else (some false))) else (some false))) else (graftagelaw15_TreeBack.j1 k x1)))
def graftagelaw15_TreeBack.j1 : Nat → ByteArray → Option (Bool)
  | 0, _ => none
  | k + 1, x1 => (tree_Parse.f k x1).bind fun bt140 => (if bt140.2 = 0 then ((tree_Body.f k bt140.1).bind fun bt144 => (if bt144.2 = 0 then (if bt144.1.toList = x1.toList then ((graftagelaw15_lives.f k).bind fun t146 => (some t146)) else (some false)) else (some false))) else (if (bt140.1.length : Int) = 0 then ((graftagelaw15_lives.f k).bind fun t147 => (some t147)) else (some false)))
end
end Go.Proofs.YtccbpbdfihnlgaaDoor.Q


/- Trees: bodies and their entries; TreeChecks, TreeParses, TreeBack. -/
namespace Go.Proofs.YtccbpbdfihnlgaaDoor.Q
open Go.RowKit Go.Proofs.YtccbpbdfihnlgaaDoorW.PrintWords Go.Proofs.YtccbpbdfihnlgaaDoorW.PrintLast Go.Proofs.YtccbpbdfihnlgaaDoorW.PrintMore
/-! ### what a test that passes tells -/
theorem cF_zero (l : List S35) : ∀ (d i : Nat), cF l d i = 0 → ∀ j, i ≤ j → j < i + d → mayB (at35 l j) = true ∧ (0 < j → lessB (at35 l (j - 1)) (at35 l j) = true) ∧ dupF l (at35 l j).f1.data.toList j = false := by
  intro d
  induction d with
  | zero => intro i _ j h1 h2; omega
  | succ d ih =>
    intro i h j h1 h2
    rw [cF] at h
    split at h
    · omega
    · rename_i hm
      split at h
      · omega
      · rename_i hl
        split at h
        · omega
        · rename_i hd
          by_cases e : j = i
          · subst e
            refine ⟨by simpa using hm, fun h0 => ?_, by simpa using hd⟩
            rw [decide_eq_true h0] at hl
            simpa using hl
          · exact ih (i + 1) h j (by omega) (by omega)
theorem checkB_zero {l : List S35} (h : checkB l = 0) : l.length ≤ 1024 ∧ ∀ j, j < l.length → mayB (at35 l j) = true ∧ (0 < j → lessB (at35 l (j - 1)) (at35 l j) = true) ∧ dupF l (at35 l j).f1.data.toList j = false := by
  unfold checkB at h
  split at h
  · omega
  · exact ⟨by omega, fun j hj => cF_zero l l.length 0 h j (by omega) (by omega)⟩
theorem mayB_and {e : S35} (h : mayB e = true) : 1 ≤ e.f0 ∧ e.f0 ≤ 4 ∧ isPath e.f1 = true ∧ no47 e.f1 = true ∧ idOk e.f2 = true := by
  unfold mayB at h
  simp only [Bool.and_eq_true, decide_eq_true_eq] at h
  exact ⟨h.1, h.2.1, h.2.2.1, h.2.2.2.1, h.2.2.2.2⟩
theorem checkB_may {l : List S35} (h : checkB l = 0) : ∀ e ∈ l, mayB e = true := by
  intro e he
  obtain ⟨j, hj, rfl⟩ := List.mem_iff_getElem.1 he
  have := (checkB_zero h).2 j hj
  unfold at35 at this
  rw [rd35_get l j hj] at this
  exact this.1
theorem z1 : (⟨#[0]⟩ : ByteArray).size = 1 := rfl
section
variable (l : List S35) (hn : l.length ≤ 1024) (hm : ∀ j, j < l.length → mayB (at35 l j) = true)
include hn hm
end
/-! ### one entry's bytes -/
def pre (a b : ByteArray) : Bool := decide (b.size ≤ a.size) && ((a.extract 0 b.size).toList == b.toList)
end Go.Proofs.YtccbpbdfihnlgaaDoor.Q


/- Contracts of Go functions as calls of plain Lean functions, written by a program of this session over the kit's print. -/
namespace Go.Proofs.YtccbpbdfihnlgaaDoor.Q
open Go.RowKit Go.Proofs.YtccbpbdfihnlgaaDoorW.PrintWords Go.Proofs.YtccbpbdfihnlgaaDoorW.PrintLast Go.Proofs.YtccbpbdfihnlgaaDoorW.PrintMore
attribute [local go_sem] max2_int min2_int max_two min_two max_three min_three max_four min_four   -- for this text's walks alone

attribute [local go_sem high] eqA35
/-! ### graftagelaw15_TreePuts: function 7 -/
mutual
def graftagelaw15_TreePuts.j0 : Nat → List (S35) → ByteArray → Bool → Int → ByteArray → ByteArray → Option (Bool)
  | 0, _, _, _, _, _, _ => none
  | k + 1, x0, x2, x23, x102000, x102001, x102002 => if x23 = true then ((graftagelaw15_lives.f k).bind fun t103 => (some t103)) else ((tree_Find.f k x0 x2).bind fun bt104 => ((graftageref15_Find.f k x0 x2).bind fun bt109 => (graftagelaw15_TreePuts.l0 k x0 x2 bt104.2.2.2 bt109.2.2.2 (x0.length : Int) 0 x102000 x102001 x102002 bt104.1 bt104.2.1 bt104.2.2.1 bt109.1 bt109.2.1 bt109.2.2.1)))
def graftagelaw15_TreePuts.l0 : Nat → List (S35) → ByteArray → Bool → Bool → Int → Int → Int → ByteArray → ByteArray → Int → ByteArray → ByteArray → Int → ByteArray → ByteArray → Option (Bool)
  | 0, _, _, _, _, _, _, _, _, _, _, _, _, _, _, _ => none
  | k + 1, x0, x2, x8, x10, x38, x39, x102000, x102001, x102002, x109000, x109001, x109002, x114000, x114001, x114002 => if x39 < x38 then (if 0 ≤ x39 then (if x39 < (x0.length : Int) then ((tree_Less.f ((rd_T35 x0 x39).f0) ((rd_T35 x0 x39).f1) ((rd_T35 x0 x39).f2) x102000 x102001 x102002).bind fun t115 => ((graftageref15_Less.f ((rd_T35 x0 x39).f0) ((rd_T35 x0 x39).f1) ((rd_T35 x0 x39).f2) x102000 x102001 x102002).bind fun t117 => (if (t115 != t117) = true then (some false) else ((tree_Less.f x102000 x102001 x102002 ((rd_T35 x0 x39).f0) ((rd_T35 x0 x39).f1) ((rd_T35 x0 x39).f2)).bind fun t119 => ((graftageref15_Less.f x102000 x102001 x102002 ((rd_T35 x0 x39).f0) ((rd_T35 x0 x39).f1) ((rd_T35 x0 x39).f2)).bind fun t121 => (if (t119 != t121) = true then (some false) else (graftagelaw15_TreePuts.l0 k x0 x2 x8 x10 x38 (wrap64 (x39 + 1)) x102000 x102001 x102002 x109000 x109001 x109002 x114000 x114001 x114002))))))) else (none)) else (none)) else (if (x109000 == x114000 && (x109001.toList == x114001.toList && (x109002.toList == x114002.toList))) = true then (if (x8 == x10) = true then ((tree_Put.f k x0 x102000 x102001 x102002).bind fun t122 => ((graftageref15_Put.f k x0 x102000 x102001 x102002).bind fun t125 => ((graftageref15_Same.f k t122 t125).bind fun t128 => (if t128 = true then ((tree_Drop.f k x0 x2).bind fun t129 => ((graftageref15_Drop.f k x0 x2).bind fun t132 => ((graftageref15_Same.f k t129 t132).bind fun t135 => (if t135 = true then ((graftagelaw15_lives.f k).bind fun t136 => (some t136)) else (some false))))) else (some false))))) else (some false)) else (some false))
end
end Go.Proofs.YtccbpbdfihnlgaaDoor.Q


/- Trees: TreePuts and TreePut. -/
namespace Go.Proofs.YtccbpbdfihnlgaaDoor.Q
open Go.RowKit Go.Proofs.YtccbpbdfihnlgaaDoorW.PrintWords Go.Proofs.YtccbpbdfihnlgaaDoorW.PrintLast Go.Proofs.YtccbpbdfihnlgaaDoorW.PrintMore
theorem putS_mem {l : List S35} {e x : S35} (h : x ∈ putS l e) : x = e ∨ x ∈ l := by
  unfold putS at h
  simp only [List.mem_append, List.mem_singleton] at h
  rcases h with (h | h) | h
  · exact .inr (dropS_mem (List.mem_of_mem_take h))
  · exact .inl h
  · exact .inr (dropS_mem (List.mem_of_mem_drop h))
theorem putS_len (l : List S35) (e : S35) : (putS l e).length ≤ l.length + 1 := by
  have := dropS_len l e.f1
  unfold putS
  simp only [List.length_append, List.length_take, List.length_drop, List.length_singleton]
  omega
/-! ### the order -/
theorem less_trans {a b c : S35} (h1 : lessB a b = true) (h2 : lessB b c = true) : lessB a c = true := by
  rw [lessB_eq, decide_eq_true_eq] at *
  exact List.lt_trans h1 h2
theorem less_asymm {a b : S35} (h : lessB a b = true) : lessB b a = false := by
  rw [lessB_eq, decide_eq_true_eq] at h
  rw [lessB_eq, decide_eq_false_iff_not]
  exact fun h2 => List.lt_irrefl _ (List.lt_trans h h2)
theorem less_or {a b : S35} (ha : mayB a = true) (hb : mayB b = true) (hn : a.f1.data.toList ≠ b.f1.data.toList) (h : lessB a b = false) : lessB b a = true := by
  rw [lessB_eq, decide_eq_false_iff_not] at h
  rw [lessB_eq, decide_eq_true_eq]
  rcases lt_trichotomy (keyB a.f0 a.f1).toList (keyB b.f0 b.f1).toList with h1 | h1 | h1
  · exact absurd h1 h
  · exact absurd h1 (key_ne (no47_mem (mayB_and ha).2.2.2.1) (no47_mem (mayB_and hb).2.2.2.1) hn)
  · exact h1
def Good (l : List S35) : Prop := l.Pairwise (fun a b => lessB a b = true) ∧ l.Pairwise (fun a b => a.f1.data.toList ≠ b.f1.data.toList) ∧ ∀ e ∈ l, mayB e = true
theorem dupF_false (l : List S35) (x : List UInt8) : ∀ n, dupF l x n = false ↔ ∀ i, i < n → (at35 l i).f1.data.toList ≠ x
  | 0 => by simp [dupF]
  | n + 1 => by
    rw [dupF, Bool.or_eq_false_iff, dupF_false l x n, decide_eq_false_iff_not]
    constructor
    · rintro ⟨h1, h2⟩ i hi
      by_cases e : i = n
      · rw [e]; exact h2
      · exact h1 i (by omega)
    · intro h
      exact ⟨fun i hi => h i (by omega), h n (by omega)⟩
theorem good_of {l : List S35} (h : checkB l = 0) : Good l := by
  obtain ⟨_, hj⟩ := checkB_zero h
  refine ⟨?_, ?_, checkB_may h⟩
  · rw [List.pairwise_iff_getElem]
    intro i j hi hjl hij
    have key : ∀ d, i + 1 + d < l.length → lessB (at35 l i) (at35 l (i + 1 + d)) = true := by
      intro d
      induction d with
      | zero =>
        intro hd
        have := (hj (i + 1) (by omega)).2.1 (by omega)
        simpa using this
      | succ d ih =>
        intro hd
        have h1 := (hj (i + 1 + (d + 1)) (by omega)).2.1 (by omega)
        rw [show i + 1 + (d + 1) - 1 = i + 1 + d by omega] at h1
        exact less_trans (ih (by omega)) h1
    have := key (j - (i + 1)) (by omega)
    rw [show i + 1 + (j - (i + 1)) = j by omega, at35_get _ _ hi, at35_get _ _ hjl] at this
    exact this
  · rw [List.pairwise_iff_getElem]
    intro i j hi hjl hij
    have := (dupF_false l _ j).1 (hj j hjl).2.2 i hij
    rwa [at35_get _ _ hi, at35_get _ _ hjl] at this
theorem of_good {l : List S35} (hl : l.length ≤ 1024) (h : Good l) : checkB l = 0 := by
  unfold checkB
  rw [if_neg (by omega)]
  have key : ∀ d i, i + d = l.length → cF l d i = 0 := by
    intro d
    induction d with
    | zero => intro i hi; rfl
    | succ d ih =>
      intro i hi
      have hlt : i < l.length := by omega
      have hm : mayB (at35 l i) = true := h.2.2 _ (by rw [at35_get _ _ hlt]; exact List.getElem_mem hlt)
      rw [cF, if_neg (by rw [hm]; decide), if_neg ?_, if_neg ?_]
      · exact ih (i + 1) (by omega)
      · rw [Bool.not_eq_true, dupF_false]
        intro j hj
        have := List.pairwise_iff_getElem.1 h.2.1 j i (by omega) hlt hj
        rwa [← at35_get l j (by omega), ← at35_get l i hlt] at this
      · rw [Bool.not_eq_true, Bool.and_eq_false_iff]
        by_cases h0 : 0 < i
        · right
          have := List.pairwise_iff_getElem.1 h.1 (i - 1) i (by omega) hlt (by omega)
          rw [← at35_get l (i - 1) (by omega), ← at35_get l i hlt] at this
          rw [this]; rfl
        · left; exact decide_eq_false h0
  exact key l.length 0 (by omega)
theorem dropS_ne {l : List S35} {x : ByteArray} {e : S35} (h : e ∈ dropS l x) : e.f1.data.toList ≠ x.data.toList := by
  have := (List.mem_filter.1 h).2
  unfold hasN at this
  rw [Lib.toList_data, Lib.toList_data] at this
  simpa using this
theorem good_drop {l : List S35} (h : Good l) (x : ByteArray) : Good (dropS l x) := ⟨h.1.filter _, h.2.1.filter _, fun e he => h.2.2 e (dropS_mem he)⟩
theorem good_put {l : List S35} (h : Good l) {e : S35} (he : mayB e = true) : Good (putS l e) := by
  have hg := good_drop h e.f1
  have hne : ∀ x ∈ dropS l e.f1, x.f1.data.toList ≠ e.f1.data.toList := fun x hx => dropS_ne hx
  unfold putS
  generalize dropS l e.f1 = r at hg hne ⊢
  have hlo : ∀ x ∈ r.take (r.findIdx (lessB e)), lessB x e = true := fun x hx => by
    obtain ⟨j, hj, rfl⟩ := List.mem_iff_getElem.1 hx
    rw [List.length_take] at hj
    rw [List.getElem_take]
    have hmem : r[j]'(by omega) ∈ r := List.getElem_mem _
    have := List.not_of_lt_findIdx (p := lessB e) (xs := r) (i := j) (by omega)
    exact less_or he (hg.2.2 _ hmem) (fun h => hne _ hmem h.symm) (by simpa using this)
  have hhi : ∀ y ∈ r.drop (r.findIdx (lessB e)), lessB e y = true := fun y hy => by
    rcases Nat.lt_or_ge (r.findIdx (lessB e)) r.length with hlt | hge
    · have h1 := List.findIdx_getElem (w := hlt)
      rw [List.drop_eq_getElem_cons hlt] at hy
      rcases List.mem_cons.1 hy with h2 | h2
      · rw [h2]; exact h1
      · have hp := (hg.1.sublist (List.drop_sublist (r.findIdx (lessB e)) r))
        rw [List.drop_eq_getElem_cons hlt, List.pairwise_cons] at hp
        exact less_trans h1 (hp.1 y h2)
    · rw [List.drop_of_length_le hge] at hy
      cases hy
  refine ⟨?_, ?_, ?_⟩
  · rw [List.append_assoc, List.pairwise_append]
    refine ⟨hg.1.sublist (List.take_sublist _ _), List.pairwise_cons.2 ⟨hhi, hg.1.sublist (List.drop_sublist _ _)⟩, fun x hx y hy => ?_⟩
    rcases List.mem_cons.1 hy with h2 | h2
    · rw [h2]; exact hlo x hx
    · exact less_trans (hlo x hx) (hhi y h2)
  · rw [List.append_assoc, List.pairwise_append]
    have hh := hg.2.1
    rw [← List.take_append_drop (r.findIdx (lessB e)) r, List.pairwise_append] at hh
    refine ⟨hh.1, List.pairwise_cons.2 ⟨fun y hy => (hne y (List.mem_of_mem_drop hy)).symm, hh.2.1⟩, fun x hx y hy => ?_⟩
    rcases List.mem_cons.1 hy with h2 | h2
    · rw [h2]; exact hne x (List.mem_of_mem_take hx)
    · exact hh.2.2 x hx y h2
  · intro x hx
    simp only [List.mem_append, List.mem_singleton] at hx
    rcases hx with (hx | hx) | hx
    · exact hg.2.2 x (List.mem_of_mem_take hx)
    · rw [hx]; exact he
    · exact hg.2.2 x (List.mem_of_mem_drop hx)
/-! ### what is found -/
theorem findB_nil (x : ByteArray) : findB [] x = (0, ⟨#[]⟩, ⟨#[]⟩, false) := rfl
theorem findB_cons (a : S35) (l : List S35) (x : ByteArray) : findB (a :: l) x = if hasN x a = true then (a.f0, a.f1, a.f2, true) else findB l x := by
  unfold findB
  rw [List.findIdx_cons]
  by_cases h : hasN x a = true
  · rw [h]
    simp only [cond_true, if_true]
    rw [if_pos (by simp)]
    rfl
  · have h' : hasN x a = false := by simpa using h
    rw [h']
    simp only [cond_false, Bool.false_eq_true, if_false, List.length_cons]
    have e1 : at35 (a :: l) (l.findIdx (hasN x) + 1) = at35 l (l.findIdx (hasN x)) := rfl
    by_cases h2 : l.findIdx (hasN x) < l.length
    · rw [if_pos (by omega), if_pos h2, e1]
    · rw [if_neg (by omega), if_neg h2]
theorem findB_none (x : ByteArray) : ∀ l : List S35, (∀ e ∈ l, hasN x e = false) → findB l x = (0, ⟨#[]⟩, ⟨#[]⟩, false)
  | [], _ => rfl
  | a :: l, h => by rw [findB_cons, h a List.mem_cons_self, if_neg (by decide), findB_none x l (fun e he => h e (List.mem_cons_of_mem _ he))]
theorem findB_skip (x : ByteArray) (b : List S35) : ∀ l : List S35, (∀ e ∈ l, hasN x e = false) → findB (l ++ b) x = findB b x
  | [], _ => rfl
  | a :: l, h => by rw [List.cons_append, findB_cons, h a List.mem_cons_self, if_neg (by decide), findB_skip x b l (fun e he => h e (List.mem_cons_of_mem _ he))]
theorem findB_congr (x : ByteArray) {b c : List S35} (h : findB b x = findB c x) : ∀ l : List S35, findB (l ++ b) x = findB (l ++ c) x
  | [] => h
  | a :: l => by rw [List.cons_append, List.cons_append, findB_cons, findB_cons, findB_congr x h l]
theorem findB_filter (x : ByteArray) (q : S35 → Bool) : ∀ l : List S35, (∀ e, hasN x e = true → q e = true) → findB (l.filter q) x = findB l x
  | [], _ => rfl
  | a :: l, h => by
    have ih := findB_filter x q l h
    by_cases hq : q a = true
    · rw [List.filter_cons_of_pos hq, findB_cons, findB_cons, ih]
    · rw [List.filter_cons_of_neg hq, findB_cons, if_neg (fun hh => hq (h a hh)), ih]
theorem findB_mem (x : ByteArray) : ∀ l : List S35, (findB l x).2.2.2 = true → ∃ e ∈ l, findB l x = (e.f0, e.f1, e.f2, true)
  | [], h => by simp [findB_nil] at h
  | a :: l, h => by
    rw [findB_cons] at h ⊢
    split
    · exact ⟨a, List.mem_cons_self, rfl⟩
    · rename_i hh
      rw [if_neg hh] at h
      obtain ⟨e, he, h2⟩ := findB_mem x l h
      exact ⟨e, List.mem_cons_of_mem _ he, h2⟩
theorem findB_false (x : ByteArray) : ∀ l : List S35, (findB l x).2.2.2 = false → findB l x = (0, ⟨#[]⟩, ⟨#[]⟩, false)
  | [], h => rfl
  | a :: l, h => by
    rw [findB_cons] at h ⊢
    split
    · rename_i hh; rw [if_pos hh] at h; cases h
    · rename_i hh; rw [if_neg hh] at h; exact findB_false x l h
theorem hasN_drop {l : List S35} {x : ByteArray} : ∀ e ∈ dropS l x, hasN x e = false := fun e he => by
  have := (List.mem_filter.1 he).2
  simpa using this
theorem find_put (l : List S35) (e : S35) : findB (putS l e) e.f1 = (e.f0, e.f1, e.f2, true) := by
  unfold putS
  rw [List.append_assoc, findB_skip _ _ _ (fun x hx => hasN_drop x (List.mem_of_mem_take hx)), List.singleton_append, findB_cons, if_pos (by simp [hasN])]
theorem find_put_other (l : List S35) (e : S35) (x : ByteArray) (h : x.toList ≠ e.f1.toList) : findB (putS l e) x = findB l x := by
  have he : hasN x e = false := by simpa [hasN] using fun hh => h hh.symm
  unfold putS
  rw [List.append_assoc, findB_congr x (c := (dropS l e.f1).drop ((dropS l e.f1).findIdx (lessB e))) (by rw [List.singleton_append, findB_cons, he, if_neg (by decide)]), List.take_append_drop]
  exact findB_filter x _ l (fun a ha => by
    have h1 : a.f1.toList = x.toList := by simpa [hasN] using ha
    have : a.f1.toList ≠ e.f1.toList := by rw [h1]; exact h
    simpa [hasN] using this)
theorem put_self {l : List S35} (h : Good l) {e : S35} (he : e ∈ l) : putS l e = l := by
  obtain ⟨a, b, rfl⟩ := List.append_of_mem he
  obtain ⟨h1, h2, _⟩ := h
  rw [List.pairwise_append, List.pairwise_cons] at h1 h2
  have ha : ∀ x ∈ a, hasN e.f1 x = false := fun x hx => by
    have := h2.2.2 x hx e List.mem_cons_self
    unfold hasN
    rw [Lib.toList_data, Lib.toList_data]
    simpa using this
  have hb : ∀ x ∈ b, hasN e.f1 x = false := fun x hx => by
    have := h2.2.1.1 x hx
    unfold hasN
    rw [Lib.toList_data, Lib.toList_data]
    simpa using this.symm
  have hd : dropS (a ++ e :: b) e.f1 = a ++ b := by
    unfold dropS
    rw [List.filter_append, List.filter_eq_self.2 (fun x hx => by rw [ha x hx]; rfl), List.filter_cons_of_neg (by simp [hasN]), List.filter_eq_self.2 (fun x hx => by rw [hb x hx]; rfl)]
  have hf : (a ++ b).findIdx (lessB e) = a.length := by
    rw [List.findIdx_append]
    have h3 : a.findIdx (lessB e) = a.length := List.findIdx_eq_length.2 (fun x hx => less_asymm (h1.2.2 x hx e List.mem_cons_self))
    rw [h3, if_neg (by omega)]
    cases b with
    | nil => simp
    | cons y b =>
      rw [List.findIdx_cons, h1.2.1.1 y List.mem_cons_self]
      simp
  unfold putS
  rw [hd, hf, List.take_left' rfl, List.drop_left' rfl]
  simp
theorem TreePut_ev (l : List S35) (e : S35) (name : ByteArray) (hs : ∀ x ∈ l, x.f1.size ≤ 140737488351232 ∧ x.f2.size ≤ 140737488351232) (hn : l.length ≤ 140737488351232) (he : e.f1.size ≤ 140737488351232) (hx : name.size ≤ 140737488351232) : Ev (fun k => graftagelaw15_TreePut.f k l e.f0 e.f1 e.f2 name) true := by
  have hT : Ev (fun k => graftagelaw15_TreePut.j0 k l name true e.f0 e.f1 e.f2) true :=
    Ev.step (f := fun k => (graftagelaw15_lives.f k).bind fun t => some t) (fun k => by rw [graftagelaw15_TreePut.j0, if_pos rfl]) liveOr15
  refine Ev.bind (few_ev l hs hn) (ev_ite (fun h => ?_) (fun h => hT))
  refine ev_ite (fun hb => hT) (fun hb => ?_)
  rw [wrap_id (by omega) (by omega)] at hb
  have hlen := (few_all l l.length 0 (by omega) h).1
  have hsz := few_size h
  have hs1 : ∀ x ∈ l, x.f1.size ≤ 4294967280 := fun x hx => by have := hsz x hx; omega
  refine Ev.bind (Check_ev' l (fun _ => hs1)) (ev_ite (fun hc => ?_) (fun hc => hT))
  refine Ev.bind (May_ev e (by omega)) ?_
  by_cases hm : mayB e = true
  case neg =>
    have : mayB e = false := by simpa using hm
    rw [this]
    exact hT
  rw [hm]
  have hg := good_of hc
  have hpl := putS_len l e
  have hpg := good_put hg hm
  have hpc := of_good (by omega) hpg
  have hps : ∀ x ∈ putS l e, x.f1.size ≤ 4294967280 := fun x hx => by
    rcases putS_mem hx with h1 | h1
    · rw [h1]; omega
    · exact hs1 x h1
  refine Ev.step (f := ?_) (fun k => by rw [graftagelaw15_TreePut.j0, if_neg (by decide)]) ?_
  refine Ev.bind (Put_ev l e (by omega) (fun x hx => (hs x hx).1) he) ?_
  refine Ev.bind (Check_ev' _ (fun _ => hps)) ?_
  simp only [hpc, if_true]
  have hdl := dropS_len (putS l e) e.f1
  refine Ev.step (f := ?_) (fun k => by rw [graftagelaw15_TreePut.j1, if_neg (by decide)]) ?_
  refine Ev.bind (Find_ev35 (putS l e) e.f1 (by omega)) (Ev.bind (Find_ev35 (putS l e) name (by omega)) (Ev.bind (Find_ev35 l name (by omega)) (Ev.bind (Drop_ev (putS l e) e.f1 (by omega)) (Ev.bind (Find_ev35 _ e.f1 (by omega)) ?_))))
  rw [find_put, findB_none e.f1 (dropS (putS l e) e.f1) hasN_drop]
  simp only [if_true, beq_self_eq_true, Bool.and_true, Bool.false_eq_true, if_false]
  refine ev_ite (fun h1 => ?_) (fun h1 => ?_)
  · refine ev_ite (fun h2 => liveOr15) (fun h2 => ?_)
    have hl : putS l e = l := by
      refine put_self hg ?_
      simp only [Bool.or_eq_true, not_or, Bool.not_eq_true', Bool.not_eq_false, beq_iff_eq] at h2
      by_cases hf : (findB l name).2.2.2 = true
      · obtain ⟨y, hy, h3⟩ := findB_mem name l hf
        rw [h3] at h2
        obtain ⟨q0, q1, q2⟩ := h2
        have : y = e := by
          have e1 : y.f1 = e.f1 := ba_ext (by rw [← Lib.toList_data, ← Lib.toList_data]; exact q1)
          have e2 : y.f2 = e.f2 := ba_ext (by rw [← Lib.toList_data, ← Lib.toList_data]; exact q2)
          cases y; cases e
          simp_all
        rw [← this]; exact hy
      · have hf' : (findB l name).2.2.2 = false := by simpa using hf
        rw [findB_false name l hf'] at h2
        have := (mayB_and hm).1
        have := h2.1
        simp only at this
        omega
    rw [hl]
    refine Ev.bind (Same35_ev l (by omega)) ?_
    simp only [if_true]
    exact liveOr15
  · rw [find_put_other l e name h1]
    simp only [beq_self_eq_true, Bool.and_true, if_true]
    exact liveOr15
end Go.Proofs.YtccbpbdfihnlgaaDoor.Q


/- TreePut, over plain lists and numbers. -/
namespace Go.Proofs.YtccbpbdfihnlgaaDoor.Pure
open Go.Proofs.YtccbpbdfihnlgaaDoor.Q Go.Proofs.YtccbpbdfihnlgaaDoorW.PrintWords

theorem TreePut : ∀ (y0 : List (S35)), ∀ (y1 : S35), ∀ (y2 : ByteArray), (y0.length * 40 ≤ 140737488351232 ∧ ∀ y_y0 ∈ y0, ((Lit.int .i64 y_y0.f0).wf = true ∧ y_y0.f1.size ≤ 140737488351232 ∧ y_y0.f2.size ≤ 140737488351232)) → ((Lit.int .i64 y1.f0).wf = true ∧ y1.f1.size ≤ 140737488351232 ∧ y1.f2.size ≤ 140737488351232) → y2.size ≤ 140737488351232 → ∃ k, graftagelaw15_TreePut.f k y0 y1.f0 y1.f1 y1.f2 y2 = some true :=
  fun y0 y1 y2 h h1 h2 => (TreePut_ev y0 y1 y2 (fun x hx => (h.2 x hx).2) (by omega) h1.2.1 h2).rounds

end Go.Proofs.YtccbpbdfihnlgaaDoor.Pure


/- What a law's argument reads as (numbers, bools, strings, structs, slices, nested) opens into the printed kinds, with the reach's bounds; for the rows of this seat. -/
namespace Go.Proofs.YtccbpbdfihnlgaaDoor.Ro
open Go.RowKit Go.Deep Go.Proofs.YtccbpbdfihnlgaaDoorW.PrintWords

/-- What a reading of type t by the form tells in the words of kind d; S: the bounds. -/
def Opens (P : Program) (t : TypeId) {α : Type} (d : Kd α) (S : α → Prop) : Prop :=
  ∀ {H : Type} (enc : TypeId × Value → H) (w : World) (fuel : Nat) (cs : List Value) (x : DataW H × List MemPlace),
    DataW.trod enc P w 0 (fun _ => true) true fuel t cs = some x → (∀ n ∈ DataW.weights P t x.1, n ≤ reachBytes) → ∃ y : α, d.K w y cs ∧ S y

section
variable {P : Program} {t e : TypeId}

theorem Opens.int {k : IntKind} (ht : P.underlying t = some (.int k)) : Opens P t (Kd.int k) (fun y => (Lit.int k y).wf = true) := by
  intro H enc w fuel cs x h _
  obtain ⟨n, rfl, rfl, hw⟩ := DataW.trod_int ht h
  exact ⟨n, rfl, hw⟩

theorem Opens.bool (ht : P.underlying t = some .bool) : Opens P t Kd.bool (fun _ => True) := by
  intro H enc w fuel cs x h _
  obtain ⟨b, rfl, rfl⟩ := DataW.trod_bool ht h
  exact ⟨b, rfl, trivial⟩

theorem Opens.string (ht : P.underlying t = some .string) : Opens P t Kd.string (fun y => y.size ≤ 140737488351232) := by
  intro H enc w fuel cs x h hn
  obtain ⟨s, rfl, rfl, _⟩ := DataW.trod_string ht h
  refine ⟨s, rfl, ?_⟩
  have := hn s.data.toList.length (by simp [DataW.weights])
  simpa [reachBytes] using this

theorem choose_list {α : Type} {n : Nat} {p : Nat → α → Prop} (h : ∀ i, i < n → ∃ y, p i y) : ∃ l : List α, l.length = n ∧ ∀ i y, l[i]? = some y → p i y := by
  induction n with
  | zero => exact ⟨[], rfl, fun i y hy => by simp at hy⟩
  | succ n ih =>
    obtain ⟨l, hl, hp⟩ := ih (fun i hi => h i (by omega))
    obtain ⟨y, hy⟩ := h n (by omega)
    refine ⟨l ++ [y], by simp [hl], fun i z hz => ?_⟩
    rcases Nat.lt_or_ge i l.length with hi | hi
    · rw [List.getElem?_append_left hi] at hz
      exact hp i z hz
    · rw [List.getElem?_append_right hi] at hz
      have : i - l.length = 0 := by
        have := (List.getElem?_eq_some_iff.1 hz).1
        simpa using this
      rw [this] at hz
      have h1 : i = n := by omega
      subst h1
      have : y = z := by simpa using hz
      subst this
      exact hy

theorem weightsAll_mem {H : Type} {e : TypeId} : ∀ {l : List (DataW H)} {d : DataW H}, d ∈ l → ∀ n ∈ d.weights P e, n ∈ DataW.weightsAll P e l
  | a :: l, d, hd, n, hn => by
    simp only [DataW.weightsAll, List.mem_append]
    rcases List.mem_cons.1 hd with rfl | hd
    · exact .inl hn
    · exact .inr (weightsAll_mem hd n hn)

theorem Opens.slice {α : Type} {d : Kd α} {S : α → Prop} {b : Nat} (ht : P.underlying t = some (.slice e)) (hc : P.cellsOf e = d.sz) (hb : P.bytesOf e = b) (h : Opens P e d S) :
    Opens P t (Kd.slice e d) (fun l => l.length * b ≤ 140737488351232 ∧ ∀ y ∈ l, S y) := by
  intro H enc w fuel cs x hx hn
  rcases open_slice ht hx with ⟨rfl, rfl⟩ | ⟨a, len, cap, m, n, D, Pl, rfl, _, hl, hm, hmm, rfl, hall⟩
  · exact ⟨[], ⟨none, 0, rfl, Nat.le_refl _, rfl, by simp, fun h => absurd h (by simp)⟩, by simp, by simp⟩
  · simp only [if_true] at hmm
    obtain rfl : m = cap := hmm
    have hel : ∀ i, i < len → ∃ y : α, (∃ cs', w.cells? 0 (a.add (i * P.cellsOf e)) (P.cellsOf e) = some cs' ∧ d.K w y cs') ∧ S y := by
      intro i hi
      obtain ⟨cs', h1, h2⟩ := hall i (by omega)
      obtain ⟨y, hy, hs⟩ := h enc w n cs' _ h2 (fun k hk => hn k (by
        simp only [DataW.weights, ht, List.mem_cons, List.mem_append]
        exact .inr (.inl (weightsAll_mem (List.mem_map.2 ⟨i, List.mem_range.2 hi, rfl⟩) k hk))))
      exact ⟨y, ⟨cs', h1, hy⟩, hs⟩
    obtain ⟨l, hll, hp⟩ := choose_list hel
    subst hll
    have hw : (l.length + (m - l.length)) * b ≤ reachBytes := by
      have := hn _ (by simp only [DataW.weights, ht, List.mem_cons]; exact .inl rfl)
      simpa [hb] using this
    refine ⟨l, ⟨some a, m, rfl, hl, rfl, by unfold maxLen at hm; omega, fun _ => ⟨a, rfl, fun j p hj => ?_⟩⟩, ?_, fun y hy => ?_⟩
    · obtain ⟨⟨cs', h1, hk⟩, _⟩ := hp j p hj
      obtain ⟨_, hlen, hcell⟩ := World.cells?_some h1
      refine ⟨cs', by rw [hlen, hc], hk, fun i u hu => ?_⟩
      have hi : i < P.cellsOf e := by
        have := (List.getElem?_eq_some_iff.1 hu).1
        omega
      have := hcell i hi
      rw [Go.Deep.add_add, hu, hc] at this
      exact this
    · have : l.length * b ≤ (l.length + (m - l.length)) * b := Nat.mul_le_mul_right _ (by omega)
      simp only [reachBytes] at hw
      omega
    · obtain ⟨j, hj⟩ := List.mem_iff_getElem?.1 hy
      exact (hp j y hj).2

/-- The fields from one on, in line. -/
def OpensF (P : Program) (fs : List Field) (o : Nat) {α : Type} (d : Kd α) (S : α → Prop) : Prop :=
  ∀ {H : Type} (enc : TypeId × Value → H) (w : World) (n : Nat) (cs : List Value) (ys : List (DataW H × List MemPlace)),
    (∀ (i : Nat) (f : Field), fs[i]? = some f → DataW.trod enc P w 0 (fun _ => true) true n f.type ((cs.drop f.offset).take (P.cellsOf f.type)) = ys[i]?) → ys.length = fs.length →
    (∀ k ∈ DataW.weightsEach P (fs.map (·.type)) (ys.map (·.1)), k ≤ reachBytes) → cs.length = o + d.sz → ∃ y : α, d.K w y (cs.drop o) ∧ S y

theorem OpensF.one {α : Type} {f : Field} {o : Nat} {d : Kd α} {S : α → Prop} (ho : f.offset = o) (hc : P.cellsOf f.type = d.sz) (h : Opens P f.type d S) : OpensF P [f] o d S := by
  intro H enc w n cs ys hf hl hw hlen
  match ys, hl with
  | [y], _ =>
    have h1 := hf 0 f rfl
    rw [ho, hc, List.take_of_length_le (by rw [List.length_drop]; omega)] at h1
    exact h enc w n _ y h1 (fun k hk => hw k (by simp [DataW.weightsEach, hk]))

theorem OpensF.cons {α β : Type} {f : Field} {fs : List Field} {o o' : Nat} {d : Kd α} {d' : Kd β} {S : α → Prop} {S' : β → Prop} (ho : f.offset = o) (hc : P.cellsOf f.type = d.sz) (ho' : o + d.sz = o')
    (h : Opens P f.type d S) (h' : OpensF P fs o' d' S') : OpensF P (f :: fs) o (Kd.pair d d') (fun z => S z.1 ∧ S' z.2) := by
  intro H enc w n cs ys hf hl hw hlen
  match ys, hl with
  | y :: ys, hl =>
    have h1 := hf 0 f rfl
    rw [ho, hc] at h1
    have hlen' : cs.length = o + (d.sz + d'.sz) := hlen
    obtain ⟨a, ha, hs⟩ := h enc w n _ y h1 (fun k hk => hw k (by simp only [List.map_cons, DataW.weightsEach, List.mem_append]; exact .inl hk))
    obtain ⟨b, hb, hs'⟩ := h' enc w n cs ys (fun i g hg => hf (i + 1) g (by simpa using hg)) (by simpa using hl) (fun k hk => hw k (by simp only [List.map_cons, DataW.weightsEach, List.mem_append]; exact .inr hk)) (by omega)
    refine ⟨(a, b), ⟨_, _, ?_, ha, hb⟩, hs, hs'⟩
    rw [← ho', ← List.drop_drop, List.take_append_drop]

theorem Opens.struct {α β : Type} {fs : Array Field} {d : Kd α} {S : α → Prop} {f : β → α} {g : α → β} (ht : P.underlying t = some (.struct fs)) (hc : P.cellsOf t = d.sz) (hfg : ∀ a, f (g a) = a) (h : OpensF P fs.toList 0 d S) :
    Opens P t (Kd.iso d f) (fun y => S (f y)) := by
  intro H enc w fuel cs x hx hn
  obtain ⟨xs, n, _, rfl, hl, hlen, hf⟩ := DataW.trod_struct ht hx
  obtain ⟨a, ha, hs⟩ := h enc w n cs xs (fun i q hq => hf i q (by simpa using hq)) (by simpa using hlen) (fun k hk => hn k (by simpa [DataW.weights, ht] using hk)) (by rw [hl, hc]; omega)
  refine ⟨g a, ?_, by show S (f (g a)); rw [hfg]; exact hs⟩
  show d.K w (f (g a)) cs
  rw [hfg]
  simpa using ha

theorem Opens.imp {α : Type} {d : Kd α} {S S' : α → Prop} (h : Opens P t d S) (hS : ∀ y, S y → S' y) : Opens P t d S' := by
  intro H enc w fuel cs x hx hn
  obtain ⟨y, hy, hs⟩ := h enc w fuel cs x hx hn
  exact ⟨y, hy, hS y hs⟩

/-- An argument: its cells, told. -/
theorem Opens.arg {H : Type} {enc : TypeId × Value → H} {α : Type} {d : Kd α} {S : α → Prop} {w : World} {ts : List TypeId} {ds : List (DataW H)} {j : Nat} {v : Value} {dd : DataW H} {ps : List MemPlace} (h : Opens P t d S)
    (hz : (DataW.weightsEach P ts ds).all (· ≤ reachBytes) = true) (ht : ts[j]? = some t) (hd : ds[j]? = some dd) (hv : DataW.Trod enc P w 0 (fun _ => true) true t v dd ps) : ∃ y : α, d.K w y v.cells.toList ∧ S y := by
  obtain ⟨fuel, hf⟩ := hv
  exact h enc w fuel _ (dd, ps) hf (fun n hn => by simpa using List.all_eq_true.1 hz n (DataW.weights_mem_each ht hd n hn))

theorem arg_lt {H : Type} {enc : TypeId × Value → H} {w : World} {v : Value} {dd : DataW H} {ps : List MemPlace} (hv : DataW.Trod enc P w 0 (fun _ => true) true t v dd ps) : ∀ x ∈ ps, x.block < w.heap.size := by
  obtain ⟨m, hm⟩ := hv
  exact DataW.trod_lt m _ _ _ hm
end
end Go.Proofs.YtccbpbdfihnlgaaDoor.Ro


/- The law TreePut holds: for every input it returns true, and each argument reads afterwards as it read before. -/
namespace Go.Proofs.YtccbpbdfihnlgaaDoor.treePut
open Go.ChangeShapes Go.WideShapes Go.ChangeAt Go.RowKit Go.Proofs.YtccbpbdfihnlgaaDoor.Ro Go.Proofs.YtccbpbdfihnlgaaDoor.Q Go.Proofs.YtccbpbdfihnlgaaDoorW.PrintWords
open Go.ChangeMaps (open_string shut_string)
theorem own : ownKnob Tryd.prog.godebug = none := by kernel_rfl
theorem laidOut : laidOutB Tryd.prog = true := by kernel_rfl
theorem opens9 : Opens Tryd.prog 9 Kd.string (fun y => y.size ≤ 140737488351232) := (Opens.string Tryd.underlying9)
theorem opens22 : Opens Tryd.prog 22 (Kd.slice 35 k35) (fun y => (y.length * 40 ≤ 140737488351232 ∧ ∀ y_y ∈ y, ((Lit.int .i64 y_y.f0).wf = true ∧ y_y.f1.size ≤ 140737488351232 ∧ y_y.f2.size ≤ 140737488351232))) := (Opens.slice Tryd.underlying22 (by kernel_rfl) (by kernel_rfl) (Opens.struct (f := (fun x : S35 => (x.f0, x.f1, x.f2))) (g := (fun a => (⟨a.1, a.2.1, a.2.2⟩ : S35))) Tryd.underlying35 (by kernel_rfl) (fun _ => rfl) (OpensF.cons rfl (by kernel_rfl) rfl (Opens.int Tryd.underlying3) (OpensF.cons rfl (by kernel_rfl) rfl (Opens.string Tryd.underlying9) (OpensF.one rfl (by kernel_rfl) (Opens.string Tryd.underlying9))))))
theorem opens35 : Opens Tryd.prog 35 k35 (fun y => ((Lit.int .i64 y.f0).wf = true ∧ y.f1.size ≤ 140737488351232 ∧ y.f2.size ≤ 140737488351232)) := (Opens.struct (f := (fun x : S35 => (x.f0, x.f1, x.f2))) (g := (fun a => (⟨a.1, a.2.1, a.2.2⟩ : S35))) Tryd.underlying35 (by kernel_rfl) (fun _ => rfl) (OpensF.cons rfl (by kernel_rfl) rfl (Opens.int Tryd.underlying3) (OpensF.cons rfl (by kernel_rfl) rfl (Opens.string Tryd.underlying9) (OpensF.one rfl (by kernel_rfl) (Opens.string Tryd.underlying9)))))
set_option maxRecDepth 100000 in
theorem lifted (os : Os) (started : os.Started) (H : Type) (enc : TypeId × Value → H) :
    ReturnsInHanded {} Tryd.checked os 8 .any (fun w args => (Rows.treePutSpec.pre enc Tryd.prog Tryd.f8 [] false w args ∧ laidMetH Tryd.prog Rows.treePutRow.laid w) ∧ sizedMet enc Tryd.prog Tryd.f8 (OpenSpec.ofChange Rows.treePutSpec) false w args) (Rows.treePutSpec.post enc Tryd.prog Tryd.f8 false true false false) := by
  refine returnsInHanded_of_change_and (C := Tryd.checked) (X := fun w _ => laidMetH Tryd.prog Rows.treePutRow.laid w) (fun _ _ _ hh h => h.of_heap hh) own started (by kernel_rfl) Tryd.func8
    (ChangeSpec.witness_shaped (enc := enc) (C := Tryd.checked) (os := os) (X := fun w _ => laidMetH Tryd.prog Rows.treePutRow.laid w) false (World.laidAll Tryd.prog os Rows.treePutRow.laid) #[.slice none 0 0, .agg #[.int .i64 0, .string ByteArray.empty, .string ByteArray.empty], .string ByteArray.empty] 8 (World.laidAll_os _ _ _)
      (World.shaped_of_ZipB (by kernel_rfl) (by kernel_rfl)) (by kernel_rfl) (by kernel_rfl) (by kernel_rfl)
      (by rw [MakeChecks.laidMetH_plain _ _ _ (by kernel_rfl)]; exact laidMet_laidAll _ (by kernel_rfl) (by kernel_rfl))) ?_
  intro W base args ds gs before hval0 hW hcnd hsz0 _ _
  have hsz : (DataW.weightsEach Tryd.prog (Tryd.f8.params.toList ++ Rows.treePutSpec.plain.varTypes Tryd.prog) (ds ++ gs)).all (· ≤ reachBytes) = true := hsz0
  have hval : ∀ (j : Nat) t v, Tryd.f8.params[j]? = some t → args[j]? = some v → Value.okWide Tryd.prog W .any base t v := hval0
  have hW' := hW
  obtain ⟨p, q, hA0, hV, rfl, hfz, hnd⟩ := hW
  have hA : DataW.TrodAll enc Tryd.prog W 0 (fun _ => true) true Tryd.f8.params.toList args.toList ds p := hA0
  rw [Tryd.params8] at hA hval hsz
  obtain ⟨v0, vs0, d0, ds0, p0, q0, hargs, rfl, rfl, h0, r0⟩ := trodAll_cons hA
  obtain ⟨v1, vs1, d1, ds1, p1, q1, rfl, rfl, rfl, h1, r1⟩ := trodAll_cons r0
  obtain ⟨v2, vs2, d2, ds2, p2, q2, rfl, rfl, rfl, h2, r2⟩ := trodAll_cons r1
  obtain ⟨rfl, rfl, rfl⟩ := trodAll_nil r2
  obtain rfl : args = #[v0, v1, v2] := by cases args; simp_all
  obtain ⟨rfl, rfl⟩ := trodVars_none hV
  have lt0 := arg_lt h0
  obtain ⟨y0, hk0, w0⟩ := opens22.arg hsz (j := 0) rfl rfl h0
  obtain ⟨a0, len0, cap0, rfl⟩ := okWide_slice Tryd.underlying22 (hval 0 22 v0 rfl rfl)
  obtain ⟨A0, c0, e0, hl0, hr0⟩ := hk0
  obtain ⟨rfl, rfl, rfl⟩ : a0 = A0 ∧ len0 = y0.length ∧ cap0 = c0 := by simpa [Value.cells] using e0
  have lt1 := arg_lt h1
  obtain ⟨y1, hk1, w1⟩ := opens35.arg hsz (j := 1) rfl rfl h1
  obtain ⟨cs1, rfl, _⟩ := okWide_struct Tryd.underlying35 (hval 1 35 v1 rfl rfl)
  have hk1' := k35_open hk1
  have e1 := hk1'
  obtain rfl : cs1 = #[.int .i64 y1.f0, .string y1.f1, .string y1.f2] := by cases cs1; simpa [Value.cells] using e1
  have lt2 := arg_lt h2
  obtain ⟨y2, hk2, w2⟩ := opens9.arg hsz (j := 2) rfl rfl h2
  obtain ⟨x2, rfl⟩ := okWide_string Tryd.underlying9 (hval 2 9 v2 rfl rfl)
  obtain rfl : x2 = y2 := by simpa [Kd.string, Kd.scalar, Value.cells] using hk2
  obtain ⟨k, hp⟩ := Pure.TreePut _ _ _ w0 w1 w2
  clear hA0 hval0 hsz0 hsz
  refine (Q.graftagelaw15_TreePut.callsT k _ _ y0 y1.f0 y1.f1 y1.f2 _ true W hr0 hl0 rfl hp).mono ?_
  rintro e W' ⟨rfl, bel0⟩
  have bel : Below W.heap.size W W' := bel0
  exact ⟨_, rfl, _, _, _, [], _, [], hW', trodAll_mk1 (shut_bool Tryd.underlying4 _), (trodAll_cons_mk (Below.trod laidOut (by kernel_rfl) (of_decide_eq_true (by kernel_rfl)) h0 bel lt0) (trodAll_cons_mk (Below.trod laidOut (by kernel_rfl) (of_decide_eq_true (by kernel_rfl)) h1 bel lt1) (trodAll_cons_mk (Below.trod laidOut (by kernel_rfl) (of_decide_eq_true (by kernel_rfl)) h2 bel lt2) trodAll_mk0))), rfl, bel.frame _, fun h => by cases h⟩
theorem over : Rows.treePutRow.holds Tryd.pinned (OpenSpec.ofChange Rows.treePutSpec) :=
  OpenClaim.holds_of_wide 8 Tryd.f8 rfl rfl rfl rfl rfl rfl rfl ⟨rfl, rfl, rfl, rfl, rfl⟩ rfl rfl rfl rfl rfl (by kernel_rfl) Tryd.func8 (by kernel_rfl)
    (of_decide_eq_true (by kernel_rfl)) (by unfold Func.isWrapper; first | (rw [if_pos (by decide +kernel)]; kernel_rfl) | (rw [if_neg (by decide +kernel)]; exact ⟨rfl, rfl⟩))
    (fun os started H enc _ => lifted os started H enc)
theorem proved : Rows.TreePutSaid := over
theorem card_holds : Rows.TreePutCardSaid :=
  Claim7.holds_tied_plain_at .later [] [.data, .pinned] true (true, "f211dbb39e0f8aee4bdc9ae8c5517fa944c5333aa6a5e92b425f441664a6fa8b") false over (fun _ h => by cases h) (by kernel_rfl) (fun _ h => by cases h) treePut_row_tie rfl ⟨rfl, rfl⟩ (by kernel_rfl) rfl
    (fun f fn hf hfn => by
      obtain rfl : f = 8 := Option.some.inj ((show Tryd.prog.funcNamed "graftage/graftagelaw15.TreePut" = some 8 by kernel_rfl).symm.trans hf) |>.symm
      obtain rfl : fn = Tryd.f8 := (Option.some.inj (Tryd.func8.symm.trans hfn)).symm
      exact ⟨by kernel_rfl, fun j t ht => by
        rw [Tryd.params8] at ht
        have hm : t ∈ [22, 35, 9] := by simpa using Array.mem_of_getElem? ht
        have hall : ([22, 35, 9].all fun u => !Tryd.prog.wantsStandIn u) = true := by kernel_rfl
        exact (show Tryd.prog.wantsStandIn t = false by simpa using List.all_eq_true.1 hall t hm)⟩)
    (by kernel_rfl)
#print axioms card_holds
end Go.Proofs.YtccbpbdfihnlgaaDoor.treePut
namespace Go.Proofs.YtccbpbdfihnlgaaDoor
/-- The statement, under a short name, for the claim. -/
theorem treePut_holds : Rows.TreePutCardSaid := treePut.card_holds
end Go.Proofs.YtccbpbdfihnlgaaDoor


