/- The law CommitLinks holds: for every input it returns true, and each argument reads afterwards as it read before. -/
import Derived.Test.YtbhfbbfjdklfgaaGreatDoorMCommitLinks4
set_option linter.unusedVariables false
set_option linter.unusedSimpArgs false
set_option maxHeartbeats 8000000
set_option maxRecDepth 100000
namespace Go.Proofs.YtbhfbbfjdklfgaaGreatDoor.Q
open Go.Proofs.Tryz Go.RowKit YtbhfbbfjdklfgaaGreatDoorW.PrintWords YtbhfbbfjdklfgaaGreatDoorW.PrintLast YtbhfbbfjdklfgaaGreatDoorW.PrintMore
section
theorem qbd_ {x : Int} (h0 : -9223372036854775808 ≤ x) (h1 : x ≤ 9223372036854775807) : wrap64 x = x := by unfold wrap64; omega
theorem qfa_ (l : List ByteArray) (i : Nat) (h : i < l.length) : rdOf ByteArray.empty l i = l[i] := by
  simp [rdOf, List.getD, List.getElem?_eq_getElem h]
theorem ba_ext {a b : ByteArray} (h : a.data.toList = b.data.toList) : a = b := by
  cases a; cases b; simp at h; simp [h]
theorem append_data (a b : ByteArray) : (a ++ b).data.toList = a.data.toList ++ b.data.toList := by simp
def consH (b : UInt8) : List (List UInt8) → List (List UInt8)
  | [] => [[b]]
  | h :: t => (b :: h) :: t
def qdl_ : List UInt8 → List (List UInt8)
  | [] => [[]]
  | b :: r => if b = 47 then [] :: qdl_ r else consH b (qdl_ r)
theorem qfz_ (l : List UInt8) : qdl_ l ≠ [] := by
  cases l with
  | nil => simp [qdl_]
  | cons b r =>
    unfold qdl_
    split
    · simp
    · cases qdl_ r <;> simp [consH]
theorem qhz_ (b c : UInt8) (l : List UInt8) (h : b ≠ c) : Lib.index (b :: l) [c] = if Lib.index l [c] == -1 then -1 else Lib.index l [c] + 1 := by
  have hp : ([c] : List UInt8).isPrefixOf (b :: l) = false := by simp [List.isPrefixOf, Ne.symm h]
  rw [Lib.index, hp]; simp
theorem splitK_cons (b : UInt8) (hb : b ≠ 47) : ∀ (n : Nat) (r : List UInt8), Lib.splitK [47] 0 n (b :: r) = consH b (Lib.splitK [47] 0 n r) := by
  intro n r
  cases n with
  | zero => rfl
  | succ n =>
    have hix := qhz_ b 47 r hb
    by_cases hm : Lib.index r [47] = -1
    · rw [if_pos (beq_iff_eq.2 hm)] at hix
      rw [Lib.splitK, if_pos (beq_iff_eq.2 hix), Lib.splitK, if_pos (beq_iff_eq.2 hm)]
      rfl
    · have hge := Lib.index_ge r [47]
      obtain ⟨j, hj⟩ : ∃ j : Nat, Lib.index r [47] = j := ⟨(Lib.index r [47]).toNat, by omega⟩
      rw [if_neg (fun e => hm (beq_iff_eq.1 e)), hj] at hix
      rw [Lib.splitK, if_neg (fun e => by have := beq_iff_eq.1 e; omega), Lib.splitK, if_neg (fun e => hm (beq_iff_eq.1 e)), hix, hj]
      rw [show ((j : Int) + 1).toNat = j + 1 by omega, show ((j : Int)).toNat = j by omega]
      simp [consH]
theorem qhc_ : ∀ l : List UInt8, Lib.splitK [47] 0 (Lib.count l [47]) l = qdl_ l
  | [] => by rw [Lib.count_miss (by simp [Lib.index])]; rfl
  | b :: r => by
    by_cases h : b = 47
    · subst h
      have hix : Lib.index (47 :: r) [47] = ((0 : Nat) : Int) := by rw [Lib.index]; simp [List.isPrefixOf]
      rw [Lib.count_cons_eq, Nat.add_comm, Lib.splitK, if_neg (by rw [hix]; decide), hix]
      simp [qdl_, qhc_ r]
    · rw [Lib.count_cons_ne b 47 r h, splitK_cons b h, qhc_ r, qdl_, if_neg h]
theorem qhp_ : ∀ (l : List UInt8) (p : List UInt8), p ∈ qdl_ l → (47 : UInt8) ∉ p
  | [], p, hp => by simp [qdl_] at hp; subst hp; simp
  | b :: r, p, hp => by
    unfold qdl_ at hp
    split at hp
    · rcases List.mem_cons.1 hp with rfl | hp
      · simp
      · exact qhp_ r p hp
    · rename_i hb
      have ih := qhp_ r
      cases hq : qdl_ r with
      | nil => exact absurd hq (qfz_ r)
      | cons h t =>
        rw [hq] at hp ih
        rcases List.mem_cons.1 hp with rfl | hp
        · have := ih h List.mem_cons_self
          intro hm
          rcases List.mem_cons.1 hm with e | hm
          · exact hb e.symm
          · exact this hm
        · exact ih p (List.mem_cons_of_mem _ hp)
theorem qha_ : ∀ l : List UInt8, (qdl_ l).length ≤ l.length + 1
  | [] => by simp [qdl_]
  | b :: r => by
    have := qha_ r
    unfold qdl_
    split
    · simp; omega
    · cases hq : qdl_ r with
      | nil => simp [consH]
      | cons h t => rw [hq] at this; simp [consH] at this ⊢; omega
def qdt_ (s : ByteArray) : List ByteArray := (qdl_ s.data.toList).map (fun x => ⟨x.toArray⟩)
theorem qie_ {l l' : List ByteArray} (h : l.map (·.data.toList) = l'.map (·.data.toList)) : l = l' := by
  induction l generalizing l' with
  | nil => cases l' with
           | nil => rfl
           | cons _ _ => simp at h
  | cons x r ih =>
    cases l' with
    | nil => simp at h
    | cons y r' =>
      simp only [List.map_cons, List.cons.injEq] at h
      rw [ba_ext h.1, ih h.2]
theorem partsB_data (s : ByteArray) : (qdt_ s).map (·.data.toList) = qdl_ s.data.toList := by
  simp [qdt_, Function.comp_def]
theorem split_parts (s : ByteArray) : Lib.splitB ⟨#[47]⟩ 0 (Lib.countB s ⟨#[47]⟩) s = qdt_ s := by
  apply qie_
  rw [Lib.splitB_data, partsB_data]
  exact qhc_ s.data.toList
def cutsF : Nat → ByteArray → Nat → Nat → List ByteArray
  | 0, s, fr, _ => [s.extract fr s.size]
  | d + 1, s, fr, i => if bt s i = 47 then s.extract fr i :: cutsF d s (i + 1) (i + 1) else cutsF d s fr (i + 1)
theorem bt_get (s : ByteArray) (i : Nat) (h : i < s.size) : bt s i = ((s.data.toList[i]'(by rw [← Lib.size_eq]; exact h)).toNat : Int) := by
  unfold bt
  simp only [Int.toNat_natCast]
  rw [dif_pos h]
  rfl
def preH (a : List UInt8) : List (List UInt8) → List (List UInt8)
  | [] => []
  | h :: t => (a ++ h) :: t
theorem cutsF_data (s : ByteArray) : ∀ (d fr i : Nat), i + d = s.size → fr ≤ i → (cutsF d s fr i).map (·.data.toList) = preH ((s.data.toList.drop fr).take (i - fr)) (qdl_ (s.data.toList.drop i)) := by
  intro d
  induction d with
  | zero =>
    intro fr i hi hf
    have hsz := Lib.size_eq s
    rw [List.drop_of_length_le (l := s.data.toList) (i := i) (by omega)]
    simp only [cutsF, List.map_cons, List.map_nil, qdl_, preH, List.append_nil]
    rw [Lib.extract_to_end, List.take_of_length_le (by rw [List.length_drop]; omega)]
  | succ d ih =>
    intro fr i hi hf
    have hsz := Lib.size_eq s
    have hlt : i < s.data.toList.length := by omega
    rw [List.drop_eq_getElem_cons hlt]
    have hb := bt_get s i (by omega)
    have htk : (s.data.toList.drop fr).take (i + 1 - fr) = (s.data.toList.drop fr).take (i - fr) ++ [s.data.toList[i]] := by
      rw [show i + 1 - fr = (i - fr) + 1 by omega, List.take_succ_eq_append_getElem (by rw [List.length_drop]; omega)]
      simp [show fr + (i - fr) = i by omega]
    by_cases h : bt s i = 47
    · have h47 : s.data.toList[i] = 47 := by
        apply UInt8.toNat_inj.1
        rw [hb] at h
        show _ = 47
        omega
      rw [cutsF, if_pos h, h47, qdl_, if_pos rfl]
      simp only [List.map_cons, preH, List.append_nil]
      rw [ih (i + 1) (i + 1) (by omega) (Nat.le_refl _), Lib.extract_data]
      have hne := qfz_ (s.data.toList.drop (i + 1))
      cases hq : qdl_ (s.data.toList.drop (i + 1)) with
      | nil => exact absurd hq hne
      | cons a t => simp [preH]
    · have h47 : ¬ s.data.toList[i] = 47 := by
        intro e
        rw [hb, e] at h
        exact h rfl
      rw [cutsF, if_neg h, qdl_, if_neg h47, ih fr (i + 1) (by omega) (by omega), htk]
      have hne := qfz_ (s.data.toList.drop (i + 1))
      cases hq : qdl_ (s.data.toList.drop (i + 1)) with
      | nil => exact absurd hq hne
      | cons a t => simp [preH, consH]
theorem cutsF_parts (s : ByteArray) : cutsF s.size s 0 0 = qdt_ s := by
  apply qie_
  rw [cutsF_data s s.size 0 0 (by omega) (Nat.le_refl _), partsB_data]
  have hne := qfz_ s.data.toList
  cases hq : qdl_ s.data.toList with
  | nil => exact absurd hq hne
  | cons a t => simp [preH, hq]
theorem ref_Parts_l0 (s : ByteArray) (hs : s.size ≤ 4294967280) : ∀ (d k i fr : Nat) (acc : List ByteArray), i + d = s.size → fr ≤ i → acc.length ≤ i → d < k →
    qah_.l0 k s acc fr i = some (acc ++ cutsF d s fr i) := by
  intro d
  induction d with
  | zero =>
    intro k i fr acc hi hf ha hk
    obtain ⟨k, rfl⟩ : ∃ m, k = m + 1 := ⟨k - 1, by omega⟩
    simp only [qah_.l0]
    rw [if_neg (by omega), if_pos (by omega), if_pos (by omega), if_pos (by omega)]
    simp [cutsF]
  | succ d ih =>
    intro k i fr acc hi hf ha hk
    obtain ⟨k, rfl⟩ : ∃ m, k = m + 1 := ⟨k - 1, by omega⟩
    simp only [qah_.l0]
    rw [if_pos (by omega), if_pos (by omega), qbd_ (by omega) (by omega)]
    by_cases h : bt s i = 47
    · rw [if_pos h, if_pos (by omega), if_pos (by omega), if_pos (by omega), if_pos (by omega)]
      have := ih k (i + 1) (i + 1) (acc ++ [s.extract fr i]) (by omega) (Nat.le_refl _) (by simp; omega) (by omega)
      rw [cutsF, if_pos h]
      simpa using this
    · rw [if_neg h]
      have := ih k (i + 1) fr acc (by omega) (by omega) (by omega) (by omega)
      rw [cutsF, if_neg h]
      simpa using this
def pathParts (s : ByteArray) : List ByteArray := if s.toList = [] then [] else qdt_ s
theorem ref_Parts_ev (s : ByteArray) (hs : s.size ≤ 4294967280) : Ev (fun k => qah_.f k s) (pathParts s) := by
  unfold qah_.f pathParts
  by_cases h : s.toList = []
  · simp only [if_pos h]
    exact Ev.now _
  · simp only [if_neg h]
    refine Ev.of (g := fun k => qah_.l0 k s [] 0 0) (fun k => qah_.mono_l k _ _ _ _) (k := s.size + 1) ?_
    have := ref_Parts_l0 s hs s.size (s.size + 1) 0 0 [] (by omega) (Nat.le_refl _) (by simp) (by omega)
    rw [cutsF_parts] at this
    simpa using this
theorem split_eq (s : ByteArray) (hs : s.size ≤ 4294967280) : qec_.f s ⟨#[47]⟩ = some (qdt_ s) := by
  unfold qec_.f
  rw [if_pos ⟨rfl, by omega⟩, split_parts]
def partOK (s : ByteArray) : Bool := decide (1 ≤ s.size) && decide (s.size ≤ 64) && (s.toList != [46]) && (s.toList != [46, 46]) && (s.toList != [46, 103, 114, 97, 102, 116]) && s.data.toList.all (fun b => decide (32 ≤ b.toNat))
theorem all_drop (p : UInt8 → Bool) (l : List UInt8) (i : Nat) (h : i < l.length) : (l.drop i).all p = (p l[i] && (l.drop (i + 1)).all p) := by
  rw [List.drop_eq_getElem_cons h, List.all_cons]
theorem path_part_l0 (s : ByteArray) (hs : s.size ≤ 140737488351232) : ∀ (d k i : Nat), i + d = s.size → d < k → qbe_.l0 k s s.size i = some ((s.data.toList.drop i).all (fun b => decide (32 ≤ b.toNat))) := by
  intro d
  induction d with
  | zero =>
    intro k i hi hk
    obtain ⟨k, rfl⟩ : ∃ m, k = m + 1 := ⟨k - 1, by omega⟩
    have hsz := Lib.size_eq s
    simp only [qbe_.l0]
    rw [if_neg (by omega), List.drop_of_length_le (by omega)]
    rfl
  | succ d ih =>
    intro k i hi hk
    obtain ⟨k, rfl⟩ : ∃ m, k = m + 1 := ⟨k - 1, by omega⟩
    have hsz := Lib.size_eq s
    have := ih k (i + 1) (by omega) (by omega)
    simp only [qbe_.l0]
    rw [if_pos (by omega), if_pos (by omega), if_pos (by omega), qbd_ (by omega) (by omega), all_drop _ _ i (by omega), bt_get s i (by omega)]
    by_cases h : (s.data.toList[i]'(by omega)).toNat < 32
    · rw [if_pos (by omega), decide_eq_false (show ¬ 32 ≤ (s.data.toList[i]'(by omega)).toNat by omega)]
      rfl
    · rw [if_neg (by omega), decide_eq_true (show 32 ≤ (s.data.toList[i]'(by omega)).toNat by omega), Bool.true_and]
      exact_mod_cast this
theorem ref_part_l0 (s : ByteArray) (hs : s.size ≤ 140737488351232) (h47 : (47 : UInt8) ∉ s.data.toList) : ∀ (d k i : Nat), i + d = s.size → d < k → qo_.l0 k s i = some ((s.data.toList.drop i).all (fun b => decide (32 ≤ b.toNat))) := by
  intro d
  induction d with
  | zero =>
    intro k i hi hk
    obtain ⟨k, rfl⟩ : ∃ m, k = m + 1 := ⟨k - 1, by omega⟩
    have hsz := Lib.size_eq s
    simp only [qo_.l0]
    rw [if_neg (by omega), List.drop_of_length_le (by omega)]
    rfl
  | succ d ih =>
    intro k i hi hk
    obtain ⟨k, rfl⟩ : ∃ m, k = m + 1 := ⟨k - 1, by omega⟩
    have hsz := Lib.size_eq s
    have := ih k (i + 1) (by omega) (by omega)
    have hne : ¬ (bt s i = 47) := by
      rw [bt_get s i (by omega)]
      intro e
      apply h47
      have : s.data.toList[i]'(by omega) = 47 := by
        apply UInt8.toNat_inj.1
        show _ = 47
        omega
      rw [← this]
      exact List.getElem_mem _
    simp only [qo_.l0]
    rw [if_pos (by omega), if_pos (by omega), if_neg hne, qbd_ (by omega) (by omega), all_drop _ _ i (by omega), bt_get s i (by omega)]
    by_cases h : (s.data.toList[i]'(by omega)).toNat < 32
    · rw [if_pos (by omega), decide_eq_false (show ¬ 32 ≤ (s.data.toList[i]'(by omega)).toNat by omega)]
      rfl
    · rw [if_neg (by omega), decide_eq_true (show 32 ≤ (s.data.toList[i]'(by omega)).toNat by omega), Bool.true_and]
      exact_mod_cast this
theorem path_part_eq (s : ByteArray) (hs : s.size ≤ 140737488351232) (k : Nat) (hk : s.size + 1 < k) : qbe_.f k s = some (partOK s) := by
  obtain ⟨k, rfl⟩ : ∃ m, k = m + 1 := ⟨k - 1, by omega⟩
  have hl := path_part_l0 s hs s.size k 0 (by omega) (by omega)
  unfold qbe_.f partOK
  by_cases h1 : s.size < 1
  · rw [if_pos (by omega), qbe_.j0, if_pos rfl]; simp [show ¬ (1 ≤ s.size) by omega]
  rw [if_neg (by omega)]
  by_cases h2 : s.size > 64
  · rw [if_pos (by omega), qbe_.j0, if_pos rfl]; simp [show ¬ (s.size ≤ 64) by omega]
  rw [if_neg (by omega)]
  by_cases h3 : s.toList = [46]
  · rw [if_pos h3, qbe_.j0, if_pos rfl]; simp [h3]
  rw [if_neg h3]
  by_cases h4 : s.toList = [46, 46]
  · rw [if_pos h4, qbe_.j0, if_pos rfl]; simp [h4]
  rw [if_neg h4, qbe_.j0]
  by_cases h5 : s.toList = [46, 103, 114, 97, 102, 116]
  · rw [if_pos (by simp [h5])]; simp [h5]
  · rw [if_neg (by simp [h5]), show (0 : Int) = ((0 : Nat) : Int) from rfl, hl]
    simp [h3, h4, h5, show 1 ≤ s.size by omega, show s.size ≤ 64 by omega]
theorem ref_part_eq (s : ByteArray) (hs : s.size ≤ 140737488351232) (h47 : (47 : UInt8) ∉ s.data.toList) (k : Nat) (hk : s.size + 1 < k) : qo_.f k s = some (partOK s) := by
  obtain ⟨k, rfl⟩ : ∃ m, k = m + 1 := ⟨k - 1, by omega⟩
  have hl := ref_part_l0 s hs h47 s.size k 0 (by omega) (by omega)
  unfold qo_.f partOK
  by_cases h1 : s.size < 1
  · rw [if_pos (by omega), qo_.j0, if_pos rfl]; simp [show ¬ (1 ≤ s.size) by omega]
  rw [if_neg (by omega)]
  by_cases h2 : s.size > 64
  · rw [if_pos (by omega), qo_.j0, if_pos rfl]; simp [show ¬ (s.size ≤ 64) by omega]
  rw [if_neg (by omega)]
  by_cases h3 : s.toList = [46]
  · rw [if_pos h3, qo_.j0, if_pos rfl]; simp [h3]
  rw [if_neg h3]
  by_cases h4 : s.toList = [46, 46]
  · rw [if_pos h4, qo_.j0, if_pos rfl]; simp [h4]
  rw [if_neg h4, qo_.j0]
  by_cases h5 : s.toList = [46, 103, 114, 97, 102, 116]
  · rw [if_pos (by simp [h5])]; simp [h5]
  · rw [if_neg (by simp [h5]), show (0 : Int) = ((0 : Nat) : Int) from rfl, hl]
    simp [h3, h4, h5, show 1 ≤ s.size by omega, show s.size ≤ 64 by omega]
theorem all_ext (p : ByteArray → Bool) (l : List ByteArray) (i : Nat) (h : i < l.length) : (l.drop i).all p = (p l[i] && (l.drop (i + 1)).all p) := by
  rw [List.drop_eq_getElem_cons h, List.all_cons]
theorem path_Is_l0 (l : List ByteArray) (B : Nat) (hB : B ≤ 140737488351232) (hl : ∀ x ∈ l, x.size ≤ B) (hn : l.length ≤ 140737488351232) : ∀ (d k i : Nat), i + d = l.length → d + B + 2 ≤ k →
    qcd_.l0 k l l l.length i = some ((l.drop i).all partOK && decide (l.length ≤ 16)) := by
  intro d
  induction d with
  | zero =>
    intro k i hi hk
    obtain ⟨k, rfl⟩ : ∃ m, k = m + 1 := ⟨k - 1, by omega⟩
    simp only [qcd_.l0]
    rw [if_neg (by omega), List.drop_of_length_le (by omega), List.all_nil, Bool.true_and, decide_eq_decide.2 (show ((l.length : Int) ≤ 16) ↔ l.length ≤ 16 by omega)]
  | succ d ih =>
    intro k i hi hk
    obtain ⟨k, rfl⟩ : ∃ m, k = m + 1 := ⟨k - 1, by omega⟩
    have hi' : i < l.length := by omega
    have := ih k (i + 1) (by omega) (by omega)
    have hsz := hl _ (List.getElem_mem hi')
    simp only [qcd_.l0]
    rw [if_pos (by omega), if_pos (by omega), if_pos (by omega), qfa_ l i hi', path_part_eq _ (by omega) k (by omega), qbd_ (by omega) (by omega), all_ext _ _ i hi']
    simp only [Option.bind_some]
    by_cases h : partOK l[i] = true
    · rw [if_pos h, h]
      simpa using this
    · rw [if_neg h]
      simp [h]
theorem partsB_size (s : ByteArray) : ∀ x ∈ qdt_ s, x.size ≤ s.size := by
  have key : ∀ (l : List UInt8), ∀ p ∈ qdl_ l, p.length ≤ l.length := by
    intro l
    induction l with
    | nil => intro p hp; simp [qdl_] at hp; simp [hp]
    | cons b r ih =>
      intro p hp
      unfold qdl_ at hp
      split at hp
      · rcases List.mem_cons.1 hp with rfl | hp
        · simp
        · have := ih p hp; simp; omega
      · cases hq : qdl_ r with
        | nil => exact absurd hq (qfz_ r)
        | cons h t =>
          rw [hq] at hp ih
          rcases List.mem_cons.1 hp with rfl | hp
          · have := ih h List.mem_cons_self; simp; omega
          · have := ih p (List.mem_cons_of_mem _ hp); simp; omega
  intro x hx
  obtain ⟨p, hp, rfl⟩ := List.mem_map.1 hx
  have := key _ p hp
  rw [Lib.size_eq s]
  show p.toArray.size ≤ _
  rw [List.size_toArray]
  exact this
theorem partsB_no47 (s : ByteArray) : ∀ x ∈ qdt_ s, (47 : UInt8) ∉ x.data.toList := by
  intro x hx
  obtain ⟨p, hp, rfl⟩ := List.mem_map.1 hx
  simpa using qhp_ _ p hp
theorem qhf_ (s : ByteArray) : (qdt_ s).length ≤ s.size + 1 := by
  have := qha_ s.data.toList
  rw [Lib.size_eq s]
  simpa [qdt_] using this
def isPath (s : ByteArray) : Bool := (s.toList != []) && decide (s.size ≤ 255) && ((qdt_ s).all partOK && decide ((qdt_ s).length ≤ 16))
theorem path_Is_ev (s : ByteArray) : Ev (fun k => qcd_.f k s) (isPath s) := by
  refine Ev.of (fun k => qcd_.mono s k) (k := 1000) ?_
  show qcd_.f (999 + 1) s = _
  unfold qcd_.f isPath
  by_cases h : s.toList = []
  · rw [if_pos h, qcd_.j0, if_pos rfl]; simp [h]
  · rw [if_neg h, qcd_.j0]
    by_cases h2 : s.size ≤ 255
    · rw [if_neg (by simp; omega), split_eq s (by omega)]
      simp only [Option.bind_some]
      have hn := qhf_ s
      rw [show (0 : Int) = ((0 : Nat) : Int) from rfl, path_Is_l0 (qdt_ s) 255 (by omega) (fun x hx => Nat.le_trans (partsB_size s x hx) h2) (by omega) (qdt_ s).length 999 0 (by omega) (by omega)]
      simp [h, h2]
    · rw [if_pos (by simp; omega)]
      simp [h2]
theorem ref_Is_l0 (l : List ByteArray) (B : Nat) (hB : B ≤ 140737488351232) (hl : ∀ x ∈ l, x.size ≤ B) (h47 : ∀ x ∈ l, (47 : UInt8) ∉ x.data.toList) (hn : l.length ≤ 140737488351232) : ∀ (d k i : Nat), i + d = l.length → d + B + 2 ≤ k →
    qag_.l0 k l i = some ((l.drop i).all partOK) := by
  intro d
  induction d with
  | zero =>
    intro k i hi hk
    obtain ⟨k, rfl⟩ : ∃ m, k = m + 1 := ⟨k - 1, by omega⟩
    simp only [qag_.l0]
    rw [if_neg (by omega), List.drop_of_length_le (by omega)]
    simp
  | succ d ih =>
    intro k i hi hk
    obtain ⟨k, rfl⟩ : ∃ m, k = m + 1 := ⟨k - 1, by omega⟩
    have hi' : i < l.length := by omega
    have := ih k (i + 1) (by omega) (by omega)
    have hsz := hl _ (List.getElem_mem hi')
    simp only [qag_.l0]
    rw [if_pos (by omega), if_pos (by omega), qfa_ l i hi', ref_part_eq _ (by omega) (h47 _ (List.getElem_mem hi')) k (by omega), qbd_ (by omega) (by omega), all_ext _ _ i hi']
    simp only [Option.bind_some]
    by_cases h : partOK l[i] = true
    · rw [if_pos h, h]
      simpa using this
    · rw [if_neg h]
      simp [h]
theorem ref_Is_ev (s : ByteArray) (hs : s.size ≤ 4294967280) : Ev (fun k => qag_.f k s) (isPath s) := by
  refine Ev.bind (ref_Parts_ev s hs) ?_
  unfold isPath pathParts
  by_cases h : s.toList = []
  · have e1 : (([] : List ByteArray).length : Int) < 1 := by simp
    simp only [if_pos h, if_pos e1]
    refine Ev.step (f := fun _ => some false) (fun k => by rw [qag_.j0, if_pos rfl]) ?_
    simp only [h, bne_self_eq_false, Bool.false_and]
    exact Ev.now _
  · have hne : (qdt_ s).length ≠ 0 := by
      simp [qdt_, qfz_]
    have e1 : ¬ ((qdt_ s).length : Int) < 1 := by omega
    simp only [if_neg h, if_neg e1]
    by_cases h16 : (qdt_ s).length > 16
    · have e2 : ((qdt_ s).length : Int) > 16 := by omega
      simp only [if_pos e2]
      refine Ev.step (f := fun _ => some false) (fun k => by rw [qag_.j0, if_pos rfl]) ?_
      simp only [show decide ((qdt_ s).length ≤ 16) = false by simp; omega, Bool.and_false]
      exact Ev.now _
    · have e2 : ¬ ((qdt_ s).length : Int) > 16 := by omega
      simp only [if_neg e2]
      by_cases h2 : s.size ≤ 255
      · refine Ev.step (f := fun k => qag_.l0 k (qdt_ s) 0) (fun k => by rw [qag_.j0, if_neg (by simp; omega)]) ?_
        refine Ev.of (fun k => (qag_.mono_l k).2 _ _) (k := (qdt_ s).length + 255 + 2) ?_
        have hn := qhf_ s
        rw [show (0 : Int) = ((0 : Nat) : Int) from rfl, ref_Is_l0 (qdt_ s) 255 (by omega) (fun x hx => Nat.le_trans (partsB_size s x hx) h2) (partsB_no47 s) (by omega) (qdt_ s).length _ 0 (by omega) (by omega)]
        have b1 : (s.toList != []) = true := by simpa using h
        rw [List.drop_zero, b1, decide_eq_true h2, decide_eq_true (show (qdt_ s).length ≤ 16 by omega)]
        simp
      · refine Ev.step (f := fun _ => some false) (fun k => by rw [qag_.j0, if_pos (by simp; omega)]) ?_
        simp only [show decide (s.size ≤ 255) = false by simp; omega, Bool.and_false, Bool.false_and]
        exact Ev.now _
def hexD : List UInt8 := [48, 49, 50, 51, 52, 53, 54, 55, 56, 57, 97, 98, 99, 100, 101, 102]
def dv (b : Int) : Int := Lib.indexByte hexD b.toNat.toUInt8
theorem dv_table : ∀ n : Fin 256, qat_.f 2 (n.val : Int) = some (dv (n.val : Int)) ∧ -1 ≤ dv (n.val : Int) ∧ dv (n.val : Int) ≤ 15 := by decide +kernel
theorem bt_fin (s : ByteArray) (i : Int) : ∃ n : Fin 256, bt s i = (n.val : Int) := by
 obtain ⟨h0, h1⟩ := bt_range s i
 exact ⟨⟨(bt s i).toNat, by omega⟩, by simp; omega⟩
theorem value_eq (b : Int) : qfd_.f b = some (dv b) := rfl
theorem Digit_bt (s : ByteArray) (i : Int) (k : Nat) (hk : 2 ≤ k) : qat_.f k (bt s i) = some (dv (bt s i)) := by
 obtain ⟨n, hn⟩ := bt_fin s i
 rw [hn]
 exact at_rounds (fun k => qat_.mono _ k) hk (dv_table n).1
def hexF (s : ByteArray) : Nat → Nat → Bool
 | 0, _ => true
 | d + 1, i => decide (0 ≤ dv (bt s i)) && hexF s d (i + 1)
theorem all_l0 (s : ByteArray) (hs : s.size ≤ 140737488351232) : ∀ (d k i : Nat), i + d = s.size → d < k → qct_.l0 k s s.size i = some (hexF s d i) := by
 intro d
 induction d with
 | zero =>
  intro k i hi hk
  obtain ⟨k, rfl⟩ : ∃ m, k = m + 1 := ⟨k - 1, by omega⟩
  simp only [qct_.l0]
  rw [if_neg (by omega)]; rfl
 | succ d ih =>
  intro k i hi hk
  obtain ⟨k, rfl⟩ : ∃ m, k = m + 1 := ⟨k - 1, by omega⟩
  have := ih k (i + 1) (by omega) (by omega)
  simp only [qct_.l0]
  rw [if_pos (by omega), if_pos (by omega), if_pos (by omega), value_eq, qbd_ (by omega) (by omega)]
  simp only [Option.bind_some]
  rw [hexF]
  by_cases h : dv (bt s i) < 0
  ·rw [if_pos h, decide_eq_false (by omega)]; rfl
  ·rw [if_neg h, decide_eq_true (by omega), Bool.true_and]; exact_mod_cast this
theorem digits_l0 (s : ByteArray) (hs : s.size ≤ 140737488351232) : ∀ (d k i : Nat), i + d = s.size → d + 2 < k → qap_.l0 k s i = some (hexF s d i) := by
 intro d
 induction d with
 | zero =>
  intro k i hi hk
  obtain ⟨k, rfl⟩ : ∃ m, k = m + 1 := ⟨k - 1, by omega⟩
  simp only [qap_.l0]
  rw [if_neg (by omega)]; rfl
 | succ d ih =>
  intro k i hi hk
  obtain ⟨k, rfl⟩ : ∃ m, k = m + 1 := ⟨k - 1, by omega⟩
  have := ih k (i + 1) (by omega) (by omega)
  simp only [qap_.l0]
  rw [if_pos (by omega), if_pos (by omega), Digit_bt s i k (by omega), qbd_ (by omega) (by omega)]
  simp only [Option.bind_some]
  rw [hexF]
  by_cases h : dv (bt s i) < 0
  ·rw [if_pos h, decide_eq_false (by omega)]; rfl
  ·rw [if_neg h, decide_eq_true (by omega), Bool.true_and]; exact_mod_cast this
def idOk (s : ByteArray) : Bool := decide (s.size = 40) && hexF s s.size 0
theorem qgn_ (s : ByteArray) : Ev (fun k => qdc_.f k s) (idOk s) := by
 unfold idOk
 by_cases h : s.size = 40
 ·refine Ev.congr (f := fun k => (qct_.f k s).bind fun t => some t) (fun k => by unfold qdc_.f; rw [if_pos (by omega)]) ?_
  refine Ev.bind (Ev.of (fun k => qct_.mono s k) (k := 60) (r := hexF s s.size 0) ?_) ?_
  ·unfold qct_.f
   exact_mod_cast all_l0 s (by omega) s.size 60 0 (by omega) (by omega)
  ·rw [decide_eq_true h, Bool.true_and]; exact Ev.now _
 ·refine Ev.congr (f := fun _ => some false) (fun k => by unfold qdc_.f; rw [if_neg (by omega)]) ?_
  rw [decide_eq_false h, Bool.false_and]; exact Ev.now _
theorem qfe_ (s : ByteArray) : Ev (fun k => qac_.f k s) (idOk s) := by
 unfold idOk
 by_cases h : s.size = 40
 ·refine Ev.congr (f := fun k => (qap_.f k s).bind fun t => some t) (fun k => by unfold qac_.f; rw [if_pos (by omega)]) ?_
  refine Ev.bind (Ev.of (fun k => qap_.mono s k) (k := 60) (r := hexF s s.size 0) ?_) ?_
  ·unfold qap_.f
   exact_mod_cast digits_l0 s (by omega) s.size 60 0 (by omega) (by omega)
  ·rw [decide_eq_true h, Bool.true_and]; exact Ev.now _
 ·refine Ev.congr (f := fun _ => some false) (fun k => by unfold qac_.f; rw [if_neg (by omega)]) ?_
  rw [decide_eq_false h, Bool.false_and]; exact Ev.now _
def hx (n : Int) : Int := bt (⟨#[48, 49, 50, 51, 52, 53, 54, 55, 56, 57, 97, 98, 99, 100, 101, 102]⟩ : ByteArray) n
def hexL (s : ByteArray) : Nat → List Int
 | 0 => []
 | n + 1 => hexL s n ++ [hx (bt s n / 16), hx (bt s n % 16)]
theorem hexL_len (s : ByteArray) : ∀ n, (hexL s n).length = 2 * n
 | 0 => rfl
 | n + 1 => by rw [hexL, List.length_append, hexL_len s n]; simp; omega
def hexB (s : ByteArray) : ByteArray := strOfNums (hexL s s.size)
theorem and_table : ∀ n : Fin 256, Go.bits .and .u8 (n.val : Int) 15 = (n.val : Int) % 16 := by decide +kernel
theorem and_bt (s : ByteArray) (i : Int) : Go.bits .and .u8 (bt s i) 15 = bt s i % 16 := by
 obtain ⟨n, hn⟩ := bt_fin s i
 rw [hn]; exact and_table n
theorem Hex_l0 (s : ByteArray) (hs : s.size ≤ 4294967296) : ∀ (d k i : Nat), i + d = s.size → d < k → qbj_.l0 k s (hexL s i) s.size i = some (hexB s) := by
 intro d
 induction d with
 | zero =>
  intro k i hi hk
  obtain ⟨k, rfl⟩ : ∃ m, k = m + 1 := ⟨k - 1, by omega⟩
  obtain rfl : i = s.size := by omega
  simp only [qbj_.l0]
  rw [if_neg (by omega)]; rfl
 | succ d ih =>
  intro k i hi hk
  obtain ⟨k, rfl⟩ : ∃ m, k = m + 1 := ⟨k - 1, by omega⟩
  have := ih k (i + 1) (by omega) (by omega)
  have hr := bt_range s i
  simp only [qbj_.l0]
  rw [if_pos (by omega), if_pos (by omega), if_pos (by omega), if_pos (by omega), if_pos (by omega), and_bt, if_pos (by omega), if_pos (by omega)]
  simp only [Option.bind_some]
  rw [if_pos (by rw [hexL_len]; simp; omega), qbd_ (by omega) (by omega)]
  exact_mod_cast this
theorem ident_Hex_ev (s : ByteArray) (hs : s.size ≤ 4294967296) : Ev (fun k => qbj_.f k s) (hexB s) := by
 refine Ev.of (fun k => qbj_.mono s k) (k := s.size + 1) ?_
 unfold qbj_.f
 rw [qbd_ (by omega) (by omega), if_pos (by omega), if_pos (by omega)]
 exact_mod_cast Hex_l0 s hs s.size _ 0 (by omega) (by omega)
theorem ref_Hex_l0 (s : ByteArray) (hs : s.size ≤ 4294967296) : ∀ (d k i : Nat), i + d = s.size → d < k → qx_.l0 k s ⟨#[48, 49, 50, 51, 52, 53, 54, 55, 56, 57, 97, 98, 99, 100, 101, 102]⟩ (hexL s i) i = some (hexB s) := by
 intro d
 induction d with
 | zero =>
  intro k i hi hk
  obtain ⟨k, rfl⟩ : ∃ m, k = m + 1 := ⟨k - 1, by omega⟩
  obtain rfl : i = s.size := by omega
  simp only [qx_.l0]
  rw [if_neg (by omega)]; rfl
 | succ d ih =>
  intro k i hi hk
  obtain ⟨k, rfl⟩ : ∃ m, k = m + 1 := ⟨k - 1, by omega⟩
  have := ih k (i + 1) (by omega) (by omega)
  have hr := bt_range s i
  have e1 : Int.tdiv (bt s i) 16 % 256 = bt s i / 16 := by rw [Int.tdiv_eq_ediv_of_nonneg hr.1]; omega
  have e2 : Int.tmod (bt s i) 16 = bt s i % 16 := by rw [Int.tmod_eq_emod_of_nonneg hr.1]
  have hsz : ((⟨#[48, 49, 50, 51, 52, 53, 54, 55, 56, 57, 97, 98, 99, 100, 101, 102]⟩ : ByteArray).size : Int) = 16 := rfl
  simp only [qx_.l0]
  rw [if_pos (by omega), if_pos (by omega), e1, e2, hsz, if_pos (by omega), if_pos (by omega), if_pos (by omega), if_pos (by omega)]
  simp only [Option.bind_some]
  rw [if_pos (by rw [hexL_len]; simp; omega), qbd_ (by omega) (by omega)]
  exact_mod_cast this
theorem ref_Hex_ev (s : ByteArray) (hs : s.size ≤ 4294967296) : Ev (fun k => qx_.f k s) (hexB s) := by
 refine Ev.of (fun k => qx_.mono s k) (k := s.size + 1) ?_
 unfold qx_.f
 exact_mod_cast ref_Hex_l0 s hs s.size _ 0 (by omega) (by omega)
theorem qfg_ (l : List Int) : (strOfNums l).size = l.length := by
 show (l.map fun n => UInt8.ofNat n.toNat).toArray.size = _
 simp
theorem ev_take {α : Type} {g : Nat → Option α} {r : α} (h : Ev g r) : ∃ k, g k = some r := h.rounds
def qcw_.f (a0 : ByteArray) : Option Bool := some (!idOk a0)
theorem qcw_.calls (a0 : ByteArray) (r : Bool) (w : World) (h : qcw_.f a0 = some r) :
    Calls Tryz.prog 64 #[.string a0] w fun e w' => e = .returned (.bool r) ∧ Drawn0 w w' := by
  obtain rfl := Option.some.inj h
  clear h
  obtain ⟨k, hk⟩ := ev_take (qgn_ a0)
  have HK := qa_.mk hk
  clear hk
  obtain ⟨b, hb⟩ : ∃ b, b = idOk a0 := ⟨_, rfl⟩
  rw [← hb] at HK ⊢
  clear hb
  go_enter func64, ntmps64
  go_wp2_with (go_at_call 65; (with_reducible refine (qdc_.calls k a0 b _ HK.out).mono ?_); rintro e w1 ⟨rfl, hb⟩; have HB := qa_.mk hb; clear hb)
  go_ret
  exact ⟨rfl, HB.out⟩
end
section
open Go.Maps
structure MSB where
  n : Nat
  f : List UInt8 → Option Bool
def MSB.nil : MSB := ⟨0, fun _ => none⟩
def MSB.get (m : MSB) (k : ByteArray) : Bool := (m.f k.data.toList).getD false
def MSB.has (m : MSB) (k : ByteArray) : Bool := (m.f k.data.toList).isSome
def MSB.put (m : MSB) (k : ByteArray) (v : Bool) : MSB := ⟨m.n + 1, fun x => if x = k.data.toList then some v else m.f x⟩
def IsS84 (w0 W : World) (g : Nat) (f0 : MSB) : Prop := w0.heap.size ≤ g ∧ ∃ D : DataW Unit, W.ownsMap Tryz.prog 9 (plainElem Tryz.prog 4) g f0.n D ∧
  ∀ s : List UInt8, s.length ≤ maxLen → D.atKey (.string s) (.lit (.bool false)) = .lit (.bool ((f0.f s).getD false)) ∧ Maps.has D (.string s) = (f0.f s).isSome
theorem plainElem_bool_inv {H : Type} {P : Program} {e : TypeId} (he : P.underlying e = some .bool) {v : Value} {z : DataW H × List MemPlace} (h : plainElem P e v = some z) : ∃ a, v = .bool a ∧ z = (.lit (.bool a), []) := by
  unfold plainElem at h
  rw [he] at h
  cases v <;> simp at h
  subst h
  exact ⟨_, rfl, rfl⟩
theorem wpList_lookup_own_bool {H : Type} {P : Program} (w : World) {ops : Array Oper} {rest : List Oper} {o : Oper} {a : Act} {Q : Exit → Act → World → Prop}
    (hg : o.guard = none) (m x : Operand) (t : TypeId) (hop : o.op = Op.lookup t m x false)
    (k e : TypeId) (K : Keyed P k) (ht : P.underlying t = some (.map k e)) (he : P.underlying e = some .bool) (hz : (zeroValue e).run P w = .ok (.bool false) w) (b n : Nat) (D : DataW H)
    (hm : a.eval m = .map (some b)) (hown : w.ownsMap P k (plainElem P e) b n D) (key : Value) (kl : Lit) (hx : a.eval x = key) (hkey : keyOf P k key = some kl)
    (hK : ∀ c : Bool, D.atKey kl (.lit (.bool false)) = .lit (.bool c) → wpList P ops Q rest (a.put o.dst (.bool c)) w) :
    wpList P ops Q (o :: rest) a w := by
  refine wpList_plain hg fun K' hK' => ?_
  obtain ⟨v, ps, hrun, hv⟩ := hown.lookup K ht hz (plainElem_bool he false) hkey
  obtain ⟨c, rfl, hc⟩ := plainElem_bool_inv he hv
  unfold Oper.wp
  simp [execOp, hop, hm, hx, hrun, Result.andThen]
  exact hK' _ _ (hK c (congrArg Prod.fst hc))
theorem mapLawB : Keyed Tryz.prog 9 := string_keyed underlying9
theorem mapZeroB (w : World) : (zeroValue 4).run Tryz.prog w = .ok (.bool false) w := by kernel_rfl
section
variable {w0 W W1 : World} {g : Nat} {f0 : MSB}
theorem IsS84.block (h : IsS84 w0 W g f0) : ∃ es clock, W.heap[g]? = some (.map es clock) := by
  obtain ⟨_, D, ⟨es, c, hb, _⟩, _⟩ := h
  exact ⟨es, c, hb⟩
theorem IsS84.grown {row : Option Nat} (h : IsS84 w0 W g f0) (hw : W.grownBy W1 row) (hne : some g ≠ row) : IsS84 w0 W1 g f0 := by
  obtain ⟨h0, D, h1, h2⟩ := h
  exact ⟨h0, D, h1.kept hw hne, h2⟩
theorem IsS84.below (h : IsS84 w0 W g f0) (hw : Below W.heap.size W W1) : IsS84 w0 W1 g f0 := h.grown (qfu_ hw none) (by simp)
theorem IsS84.alloc (h : IsS84 w0 W g f0) (o : Obj) : IsS84 w0 (W.alloc o) g f0 := h.below (qaw_ (Below.refl _ _) o)
theorem IsS84.drewN (h : IsS84 w0 W g f0) (m : Nat) : IsS84 w0 (W.drewN m) g f0 := h
theorem IsS84.drew (h : IsS84 w0 W g f0) : IsS84 w0 W.drew g f0 := h
theorem IsS84.at_ {m : Nat} (hq : W.drewN m = W1) (h : IsS84 w0 W g f0) : IsS84 w0 W1 g f0 := by subst hq; exact h
theorem IsS84.ge (h : IsS84 w0 W g f0) : w0.heap.size ≤ g := h.1
theorem IsS84.lt (h : IsS84 w0 W g f0) : g < W.heap.size := by
  obtain ⟨_, D, h1, _⟩ := h
  exact h1.lt
theorem IsS84.fresh (h : IsS84 w0 W g f0) : ∀ k, W.heap.size ≤ k → k ≠ g := fun k hk e => by have := h.lt; omega
theorem IsS84.far {p : Addr} (h : IsS84 w0 W g f0) (hne : g ≠ p.block) (u : Value) : IsS84 w0 (W.setCell p u) g f0 := by
  obtain ⟨h0, D, h1, h2⟩ := h
  exact ⟨h0, D, h1.setCell hne u, h2⟩
theorem IsS84.apart {α : Type} {d : Kd α} {e : Nat} {base : Nat} {ok : Nat → Prop} {v : Value} {xs : List α} (h : IsS84 w0 W g f0) (ho : d.R e W base ok v xs) (ht : ∀ q, q ∈ e :: d.E → q ≠ 84) : d.R e W base (fun k => ok k ∧ k ≠ g) v xs := by
  obtain ⟨es, c, hb⟩ := h.block
  refine Kd.R_mono (Kd.R_bound ho) (fun k hk => ⟨hk.1, ?_⟩)
  rintro rfl
  obtain ⟨_, _, _, q, _, cells, hc⟩ := hk
  rw [hc] at hb
  cases hb
theorem IsS84.own_ne {α : Type} {d : Kd α} {e : Nat} {base : Nat} {ok : Nat → Prop} {v : Value} {xs : List α} (h : IsS84 w0 W g f0) (ho : d.R e W base ok v xs) (ht : e ≠ 84) : some g ≠ v.ownBlock := by
  obtain ⟨es, c, hb⟩ := h.block
  intro he
  obtain ⟨_, _, _, q, _, cells, hc⟩ := (Kd.R_bound ho).1 g he.symm
  rw [hc] at hb
  cases hb
theorem IsS84.made (hb : W.ownsMap Tryz.prog 9 (plainElem (H := Unit) Tryz.prog 4) g 0 (.map [])) (hg : w0.heap.size ≤ g) : IsS84 w0 W g MSB.nil :=
  ⟨hg, .map [], hb, fun s hs => ⟨by simp [DataW.atKey, MSB.nil], by simp [Maps.has, MSB.nil]⟩⟩
end
section
variable {ops : Array Oper} {rest : List Oper} {o : Oper} {a : Act} {Q : Exit → Act → World → Prop} {w0 W : World} {g : Nat} {f0 : MSB}
theorem mkmapB_event (hgd : o.guard = none) {N : Tmp} (hd : o.dst = some N) (hop : o.op = .makeMap 84 none)
    (h : ∀ g, g = W.heap.size → ∀ w1, w1.ownsMap Tryz.prog 9 (plainElem (H := Unit) Tryz.prog 4) g 0 (.map []) → Below W.heap.size W w1 → wpList Tryz.prog ops Q rest (a.put o.dst (.map (some g))) w1) : wpList Tryz.prog ops Q (o :: rest) a W := by
  have hmm := @run_makeMap Tryz.prog
  refine Kd.event_run hgd (v := .map (some W.heap.size)) (w1 := W.alloc (.map #[] 0)) ?_ (h _ rfl _ (World.ownsMap_made _ _ _ _) (qaw_ (Below.refl _ _) _))
  simp [execOp, hop, hmm, Result.andThen]
theorem IsS84.look {m x : Operand} {k : ByteArray} (h : IsS84 w0 W g f0) (hgd : o.guard = none) (hop : o.op = .lookup 84 m x false) (hm : a.eval m = .map (some g)) (hx : a.eval x = .string k) (hs : k.size ≤ 9223372036854775807)
    {c_ : Bool} (he_ : MSB.get f0 k = c_) (K : wpList Tryz.prog ops Q rest (a.put o.dst (.bool c_)) W) : wpList Tryz.prog ops Q (o :: rest) a W := by
  subst he_
  obtain ⟨h0, D, h1, h2⟩ := h
  refine wpList_lookup_own_bool _ hgd m x 84 hop 9 4 mapLawB underlying84 underlying4 (mapZeroB _) g f0.n D hm h1 _ _ hx (WideMaps.keyOf_string_mk underlying9 (by unfold maxLen; exact hs)) ?_
  intro c hat
  have := (h2 k.data.toList (by unfold maxLen; exact hs)).1
  rw [this] at hat
  have e : c = MSB.get f0 k := by
    injection hat with hat
    injection hat with hat
    exact hat.symm
  rw [e]
  exact K
theorem IsS84.put_ {m x v : Operand} {k : ByteArray} {n : Bool} (h : IsS84 w0 W g f0) (hgd : o.guard = none) (hop : o.op = .mapUpdate 84 m x v) (hm : a.eval m = .map (some g)) (hx : a.eval x = .string k) (hv : a.eval v = .bool n) (hs : k.size ≤ 9223372036854775807) (hn : f0.n < 4611686018427387904) (hw : True)
    (K : ∀ w1, IsS84 w0 w1 g (MSB.put f0 k n) → W.grownBy w1 (some g) → wpList Tryz.prog ops Q rest (a.put o.dst undef) w1) : wpList Tryz.prog ops Q (o :: rest) a W := by
  obtain ⟨h0, D, h1, h2⟩ := h
  have hk : keyOf Tryz.prog 9 (.string k) = some (.string k.data.toList) := WideMaps.keyOf_string_mk underlying9 (by unfold maxLen; exact hs)
  refine wpList_mapUpdate_own _ hgd m x v 84 hop 9 4 mapLawB underlying84 _ g f0.n D hm h1 (by unfold maxLen; omega) _ _ _ hx hv hk _ [] (plainElem_bool underlying4 n) ?_
  intro w1 hown hg
  refine K w1 ⟨h0, _, hown, fun s hl => ?_⟩ hg
  have hD : IsMap D := by
    obtain ⟨es, c, _, _, _, rfl⟩ := h1
    exact ⟨_, rfl⟩
  have hkl : WideAt.IsKeyLit (.string k.data.toList) := trivial
  by_cases e : s = k.data.toList
  · subst e
    refine ⟨?_, ?_⟩
    · rw [atKey_put_same hD hkl]; simp [MSB.put]
    · rw [has_put_same hD hkl]; simp [MSB.put]
  · have hne : (Lit.string s) ≠ .string k.data.toList := fun h => e (by injection h)
    have := h2 s hl
    refine ⟨?_, ?_⟩
    · rw [atKey_put_other hne, this.1]; simp [MSB.put, e]
    · rw [has_put_other hne, this.2]; simp [MSB.put, e]
end
end
section
attribute [local go_sem] qen_ qem_ qey_ qex_ qee_ qeg_ qel_ qek_
mutual
def qv_.j0 : Nat → Bool → ByteArray → List ByteArray → ByteArray → ByteArray → Int → Int → ByteArray → ByteArray → Int → Int → ByteArray → Option (Int)
 | 0, _, _, _, _, _, _, _, _, _, _, _, _ => none
 | k + 1, x33, x102000, x102001, x102002, x102003, x102004, x102005, x102006, x102007, x102008, x102009, x102010 => if x33 = true then (some 1) else (if (x102010.size : Int) > 4096 then (qv_.j1 k true x102000 x102001 x102002 x102003 x102004 x102005 x102006 x102007 x102008 x102009 x102010) else (qv_.j1 k (decide ((x102001.length : Int) > 8)) x102000 x102001 x102002 x102003 x102004 x102005 x102006 x102007 x102008 x102009 x102010))
def qv_.j1 : Nat → Bool → ByteArray → List ByteArray → ByteArray → ByteArray → Int → Int → ByteArray → ByteArray → Int → Int → ByteArray → Option (Int)
 | 0, _, _, _, _, _, _, _, _, _, _, _, _ => none
 | k + 1, x43, x102000, x102001, x102002, x102003, x102004, x102005, x102006, x102007, x102008, x102009, x102010 => if x43 = true then (some 4) else (qv_.l0 k x102001 (x102001.length : Int) 0 MSB.nil)
def qv_.l0 : Nat → List ByteArray → Int → Int → MSB → Option (Int)
 | 0, _, _, _, _ => none
 | k + 1, x46, x47, x48, x108000 => if x48 < x47 then (if 0 ≤ x48 then (if x48 < (x46.length : Int) then (if (rdOf ByteArray.empty x46 x48).size ≤ 9223372036854775807 then (if MSB.get x108000 (rdOf ByteArray.empty x46 x48) = true then (some 6) else (if x108000.n < 4611686018427387904 then (qv_.l0 k x46 x47 (wrap64 (x48 + 1)) (MSB.put x108000 (rdOf ByteArray.empty x46 x48) true)) else (none))) else (none)) else (none)) else (none)) else (some 0)
end
def qv_.f (k : Nat) (a0_0 : ByteArray) (l0_1 : List ByteArray) (a0_2 : ByteArray) (a0_3 : ByteArray) (a0_4 : Int) (a0_5 : Int) (a0_6 : ByteArray) (a0_7 : ByteArray) (a0_8 : Int) (a0_9 : Int) (a0_10 : ByteArray) : Option (Int) := (qcw_.f a0_0).bind fun t102 => (if t102 = true then (qv_.j0 k true a0_0 l0_1 a0_2 a0_3 a0_4 a0_5 a0_6 a0_7 a0_8 a0_9 a0_10) else ((qam_.f k l0_1 (fun z0 => qcw_.f z0)).bind fun t103 => (if t103 = true then (qv_.j0 k true a0_0 l0_1 a0_2 a0_3 a0_4 a0_5 a0_6 a0_7 a0_8 a0_9 a0_10) else ((qbf_.f k a0_2 a0_3 a0_4 a0_5).bind fun t104 => (if t104 = true then ((qbf_.f k a0_6 a0_7 a0_8 a0_9).bind fun t105 => (if t105 = true then ((qcu_.f a0_10 ⟨#[0]⟩).bind fun t106 => (qv_.j0 k t106 a0_0 l0_1 a0_2 a0_3 a0_4 a0_5 a0_6 a0_7 a0_8 a0_9 a0_10)) else (qv_.j0 k true a0_0 l0_1 a0_2 a0_3 a0_4 a0_5 a0_6 a0_7 a0_8 a0_9 a0_10))) else (qv_.j0 k true a0_0 l0_1 a0_2 a0_3 a0_4 a0_5 a0_6 a0_7 a0_8 a0_9 a0_10))))))
theorem qv_.mono_l : ∀ k, (∀ y0 y1 y2 y3 y4 y5 y6 y7 y8 y9 y10 y11, LeO (qv_.j0 k y0 y1 y2 y3 y4 y5 y6 y7 y8 y9 y10 y11) (qv_.j0 (k + 1) y0 y1 y2 y3 y4 y5 y6 y7 y8 y9 y10 y11)) ∧ (∀ y0 y1 y2 y3 y4 y5 y6 y7 y8 y9 y10 y11, LeO (qv_.j1 k y0 y1 y2 y3 y4 y5 y6 y7 y8 y9 y10 y11) (qv_.j1 (k + 1) y0 y1 y2 y3 y4 y5 y6 y7 y8 y9 y10 y11)) ∧ (∀ y0 y1 y2 y3, LeO (qv_.l0 k y0 y1 y2 y3) (qv_.l0 (k + 1) y0 y1 y2 y3))
 | 0 => ⟨fun _ _ _ _ _ _ _ _ _ _ _ _ r h => by simp [qv_.j0] at h, fun _ _ _ _ _ _ _ _ _ _ _ _ r h => by simp [qv_.j1] at h, fun _ _ _ _ r h => by simp [qv_.l0] at h⟩
 | k + 1 => by
  obtain ⟨ih0, ih1, ih2⟩ := qv_.mono_l k
  refine ⟨?_, ?_, ?_⟩
  ·intro y0 y1 y2 y3 y4 y5 y6 y7 y8 y9 y10 y11
   unfold qv_.j0
   have m0_ := @ih0
   have m1_ := @ih1
   have m2_ := @ih2
   have m3_ := @qbf_.mono
   have m4_ := @qam_.mono
   exact mz_
  ·intro y0 y1 y2 y3 y4 y5 y6 y7 y8 y9 y10 y11
   unfold qv_.j1
   have m0_ := @ih0
   have m1_ := @ih1
   have m2_ := @ih2
   have m3_ := @qbf_.mono
   have m4_ := @qam_.mono
   exact mz_
  ·intro y0 y1 y2 y3
   unfold qv_.l0
   have m0_ := @ih0
   have m1_ := @ih1
   have m2_ := @ih2
   have m3_ := @qbf_.mono
   have m4_ := @qam_.mono
   exact mz_
theorem qv_.mono : ∀ a0 a1 a2 a3 a4 a5 a6 a7 a8 a9 a10 k, LeO (qv_.f k a0 a1 a2 a3 a4 a5 a6 a7 a8 a9 a10) (qv_.f (k + 1) a0 a1 a2 a3 a4 a5 a6 a7 a8 a9 a10) := by
 intro a0 a1 a2 a3 a4 a5 a6 a7 a8 a9 a10 k; obtain ⟨ih0, ih1, ih2⟩ := qv_.mono_l k; unfold qv_.f; have m0_ := @ih0; have m1_ := @ih1; have m2_ := @ih2; have m3_ := @qbf_.mono; have m4_ := @qam_.mono; exact mz_
theorem qv_.calls (k : Nat) (a0_0 : ByteArray) (A0_1 : Option Addr) (c0_1 : Nat) (l0_1 : List ByteArray) (a0_2 : ByteArray) (a0_3 : ByteArray) (a0_4 : Int) (a0_5 : Int) (a0_6 : ByteArray) (a0_7 : ByteArray) (a0_8 : Int) (a0_9 : Int) (a0_10 : ByteArray) (r : Int) (w : World) (hr0_1 : Kd.C Kd.string w A0_1 l0_1.length l0_1) (hc0_1 : l0_1.length ≤ c0_1) (hgv : GV w) (h : qv_.f k a0_0 l0_1 a0_2 a0_3 a0_4 a0_5 a0_6 a0_7 a0_8 a0_9 a0_10 = some r) :
  Calls Tryz.prog 18 #[.agg #[.string a0_0, .slice A0_1 l0_1.length c0_1, .string a0_2, .string a0_3, .int .i64 a0_4, .int .i64 a0_5, .string a0_6, .string a0_7, .int .i64 a0_8, .int .i64 a0_9, .string a0_10]] w fun e w' => e = .returned (.int .i64 r) ∧ Below w.heap.size w w' := by
 have hu26 := underlying26; have hu24 := underlying24; have HR0_1 := qa_.mk hr0_1; have HC0_1 := qa_.mk hc0_1; clear hr0_1 hc0_1; have HB := qa_.mk (Below.refl w.heap.size w); unfold qv_.f at h; have H := h; clear h; have HC2 := qa_.mk H; clear H; go_enter func18, ntmps18; go_upto_region 2 with (first | ((with_reducible refine qh_ (N := 1) rfl ?_); (try (refine qcy_ (by rfl) ?_; dsimp only)); refine be_ (cs := #[.string a0_0, .slice A0_1 l0_1.length c0_1, .string a0_2, .string a0_3, .int .i64 a0_4, .int .i64 a0_5, .string a0_6, .string a0_7, .int .i64 a0_8, .int .i64 a0_9, .string a0_10]) (t := 26) ?_; intro g101 hg w3 hbox hb; have K101 := qa_.mk (hbox); have W101 := ag_ hg HB; have E101 := ag_ hg HB; replace HB := ah_ HB hb; clear hb hbox hg)); (try simp only [Act.put, List.setIfInBounds_toArray, List.set_cons_zero, List.set_cons_succ])
 go_cut [33] (fun v33 wc => ∃ (kq : Nat) (x33_1 : Bool), v33 = .bool x33_1 ∧ qa_ (qv_.j0 kq x33_1 a0_0 l0_1 a0_2 a0_3 a0_4 a0_5 a0_6 a0_7 a0_8 a0_9 a0_10 = some r) ∧ qa_ (kq ≤ k) ∧ qa_ (wc.heap[g101]? = some (.cells #[.string a0_0, (.slice A0_1 l0_1.length c0_1), .string a0_2, .string a0_3, .int .i64 a0_4, .int .i64 a0_5, .string a0_6, .string a0_7, .int .i64 a0_8, .int .i64 a0_9, .string a0_10] 26 (0, 0))) ∧ qa_ (Below w.heap.size w wc))
 case first =>
  have H := HC2.out; clear HC2; obtain ⟨t102, A4, H⟩ := bx_ H; by_cases c5 : t102 = true
  ·subst c5; rw [if_pos rfl] at H; have H' := qa_.mk H; clear H; obtain ⟨Z6_0, Z6_1, Z6_2, Z6_3, Z6_4, Z6_5, Z6_6, Z6_7, Z6_8, Z6_9, Z6_10, F6⟩ := bc11 K101.out; go_wp2_with (first | (refine goesF_ (some 10) rfl rfl (g := 64) (lb := #[]) (fun args w => qfb_ func64 rfl rfl args w) #[.string a0_0] rfl rfl z8_ #[.string a0_0] (by first | rfl | simp) ?_; refine cm_ (qcw_.calls a0_0  true _ A4.out) ?_; rintro w' ⟨nd, rfl⟩)); go_meet
   case rel => exact ⟨_, (true), z1_, H', ⟨z4_⟩, ⟨bk_ K101.out⟩, ⟨hs_⟩⟩
  replace c5 := Bool.eq_false_iff.mpr c5; subst c5; rw [if_neg nft_] at H; obtain ⟨t103, A7, H⟩ := bx_ H; by_cases c8 : t103 = true
  ·subst c8; rw [if_pos rfl] at H; have H' := qa_.mk H; clear H; obtain ⟨Z9_0, Z9_1, Z9_2, Z9_3, Z9_4, Z9_5, Z9_6, Z9_7, Z9_8, Z9_9, Z9_10, F9⟩ := bc11 K101.out; go_wp2_with (first | (refine goesF_ (some 10) rfl rfl (g := 64) (lb := #[]) (fun args w => qfb_ func64 rfl rfl args w) #[.string a0_0] rfl rfl z8_ #[.string a0_0] (by first | rfl | simp) ?_; refine cm_ (qcw_.calls a0_0  false _ A4.out) ?_; rintro w' ⟨nd, rfl⟩) | (go_at_call 66; (with_reducible refine (qam_.calls k _ _ l0_1 64 #[] (fun z0 => qcw_.f z0) true _ ?side1 ?side2 ?side3 ?side4 A7.out).mono ?_); (case side1 => repeat (first | exact (Kd.C_below HR0_1.out (hs_)) | (with_reducible refine Kd.C_alloc ?_ _) | (with_reducible refine Kd.C_drewN ?_ _) | (with_reducible refine Kd.C_drew ?_))); (case side2 => exact HC0_1.out); (case side3 => exact fun args w => qfb_ func64 rfl rfl args w); (case side4 => intro z0_ z1_ W_ hB_ h_; exact (qcw_.calls z0_ z1_ W_  h_).mono (fun e w' hx_ => ⟨hx_.1, hx_.2.below⟩)); rintro e w10 ⟨rfl, hb⟩; replace K101 := ab_ K101 hb; replace HB := hr_ hb; (try clear hb); (try clear hb2); (try clear hk); (try clear hi)))
   go_meet
   case rel => exact ⟨_, (true), z1_, H', ⟨z4_⟩, ⟨bk_ K101.out⟩, ⟨hs_⟩⟩
  replace c8 := Bool.eq_false_iff.mpr c8; subst c8; rw [if_neg nft_] at H; obtain ⟨t104, A11, H⟩ := bx_ H; by_cases c12 : t104 = true; rotate_left
  ·replace c12 := Bool.eq_false_iff.mpr c12; subst c12; rw [if_neg nft_] at H; have H' := qa_.mk H; clear H; obtain ⟨Z29_0, Z29_1, Z29_2, Z29_3, Z29_4, Z29_5, Z29_6, Z29_7, Z29_8, Z29_9, Z29_10, F29⟩ := bc11 K101.out; go_wp2_with (first | (refine goesF_ (some 10) rfl rfl (g := 64) (lb := #[]) (fun args w => qfb_ func64 rfl rfl args w) #[.string a0_0] rfl rfl z8_ #[.string a0_0] (by first | rfl | simp) ?_; refine cm_ (qcw_.calls a0_0  false _ A4.out) ?_; rintro w' ⟨nd, rfl⟩) | (go_at_call 66; (with_reducible refine (qam_.calls k _ _ l0_1 64 #[] (fun z0 => qcw_.f z0) false _ ?side1 ?side2 ?side3 ?side4 A7.out).mono ?_); (case side1 => repeat (first | exact (Kd.C_below HR0_1.out (hs_)) | (with_reducible refine Kd.C_alloc ?_ _) | (with_reducible refine Kd.C_drewN ?_ _) | (with_reducible refine Kd.C_drew ?_))); (case side2 => exact HC0_1.out); (case side3 => exact fun args w => qfb_ func64 rfl rfl args w); (case side4 => intro z0_ z1_ W_ hB_ h_; exact (qcw_.calls z0_ z1_ W_  h_).mono (fun e w' hx_ => ⟨hx_.1, hx_.2.below⟩)); rintro e w30 ⟨rfl, hb⟩; replace K101 := ab_ K101 hb; replace HB := hr_ hb; (try clear hb); (try clear hb2); (try clear hk); (try clear hi); obtain ⟨Z31_0, Z31_1, Z31_2, Z31_3, Z31_4, Z31_5, Z31_6, Z31_7, Z31_8, Z31_9, Z31_10, F31⟩ := bc11 K101.out) | (go_at_call 67; (with_reducible refine (qbf_.calls k a0_2 a0_3 a0_4 a0_5 false _ A11.out).mono ?_); rintro e w32 ⟨rfl, hb⟩; replace K101 := ab_ K101 hb; replace HB := hr_ hb; (try clear hb); (try clear hb2); (try clear hk); (try clear hi)))
   go_meet
   case rel => exact ⟨_, (true), z1_, H', ⟨z4_⟩, ⟨bk_ K101.out⟩, ⟨hs_⟩⟩
  subst c12; rw [if_pos rfl] at H; obtain ⟨t105, A13, H⟩ := bx_ H; by_cases c14 : t105 = true; rotate_left
  ·replace c14 := Bool.eq_false_iff.mpr c14; subst c14; rw [if_neg nft_] at H; have H' := qa_.mk H; clear H; obtain ⟨Z23_0, Z23_1, Z23_2, Z23_3, Z23_4, Z23_5, Z23_6, Z23_7, Z23_8, Z23_9, Z23_10, F23⟩ := bc11 K101.out; have tk3_ : True := trivial; have tk4_ : True := trivial; go_wp2_with (first | (refine goesF_ (some 10) rfl rfl (g := 64) (lb := #[]) (fun args w => qfb_ func64 rfl rfl args w) #[.string a0_0] rfl rfl z8_ #[.string a0_0] (by first | rfl | simp) ?_; refine cm_ (qcw_.calls a0_0  false _ A4.out) ?_; rintro w' ⟨nd, rfl⟩) | (go_at_call 66; (with_reducible refine (qam_.calls k _ _ l0_1 64 #[] (fun z0 => qcw_.f z0) false _ ?side1 ?side2 ?side3 ?side4 A7.out).mono ?_); (case side1 => repeat (first | exact (Kd.C_below HR0_1.out (hs_)) | (with_reducible refine Kd.C_alloc ?_ _) | (with_reducible refine Kd.C_drewN ?_ _) | (with_reducible refine Kd.C_drew ?_))); (case side2 => exact HC0_1.out); (case side3 => exact fun args w => qfb_ func64 rfl rfl args w); (case side4 => intro z0_ z1_ W_ hB_ h_; exact (qcw_.calls z0_ z1_ W_  h_).mono (fun e w' hx_ => ⟨hx_.1, hx_.2.below⟩)); rintro e w24 ⟨rfl, hb⟩; replace K101 := ab_ K101 hb; replace HB := hr_ hb; (try clear hb); (try clear hb2); (try clear hk); (try clear hi); obtain ⟨Z25_0, Z25_1, Z25_2, Z25_3, Z25_4, Z25_5, Z25_6, Z25_7, Z25_8, Z25_9, Z25_10, F25⟩ := bc11 K101.out) | (go_at_call 67; have _t := tk3_; (with_reducible refine (qbf_.calls k a0_2 a0_3 a0_4 a0_5 true _ A11.out).mono ?_); rintro e w26 ⟨rfl, hb⟩; replace K101 := ab_ K101 hb; replace HB := hr_ hb; (try clear hb); (try clear hb2); (try clear hk); (try clear hi); obtain ⟨Z27_0, Z27_1, Z27_2, Z27_3, Z27_4, Z27_5, Z27_6, Z27_7, Z27_8, Z27_9, Z27_10, F27⟩ := bc11 K101.out; clear tk3_) | (go_at_call 67; have _t := tk4_; (with_reducible refine (qbf_.calls k a0_6 a0_7 a0_8 a0_9 false _ A13.out).mono ?_); rintro e w28 ⟨rfl, hb⟩; replace K101 := ab_ K101 hb; replace HB := hr_ hb; (try clear hb); (try clear hb2); (try clear hk); (try clear hi); clear tk4_)); go_meet
   case rel => exact ⟨_, (true), z1_, H', ⟨z4_⟩, ⟨bk_ K101.out⟩, ⟨hs_⟩⟩
  subst c14; rw [if_pos rfl] at H; obtain ⟨t106, A15, H⟩ := bx_ H; have H' := qa_.mk H; clear H; obtain ⟨Z16_0, Z16_1, Z16_2, Z16_3, Z16_4, Z16_5, Z16_6, Z16_7, Z16_8, Z16_9, Z16_10, F16⟩ := bc11 K101.out; have tk1_ : True := trivial; have tk2_ : True := trivial; go_wp2_with (first | (refine goesF_ (some 10) rfl rfl (g := 64) (lb := #[]) (fun args w => qfb_ func64 rfl rfl args w) #[.string a0_0] rfl rfl z8_ #[.string a0_0] (by first | rfl | simp) ?_; refine cm_ (qcw_.calls a0_0  false _ A4.out) ?_; rintro w' ⟨nd, rfl⟩) | (go_at_call 66; (with_reducible refine (qam_.calls k _ _ l0_1 64 #[] (fun z0 => qcw_.f z0) false _ ?side1 ?side2 ?side3 ?side4 A7.out).mono ?_); (case side1 => repeat (first | exact (Kd.C_below HR0_1.out (hs_)) | (with_reducible refine Kd.C_alloc ?_ _) | (with_reducible refine Kd.C_drewN ?_ _) | (with_reducible refine Kd.C_drew ?_))); (case side2 => exact HC0_1.out); (case side3 => exact fun args w => qfb_ func64 rfl rfl args w); (case side4 => intro z0_ z1_ W_ hB_ h_; exact (qcw_.calls z0_ z1_ W_  h_).mono (fun e w' hx_ => ⟨hx_.1, hx_.2.below⟩)); rintro e w17 ⟨rfl, hb⟩; replace K101 := ab_ K101 hb; replace HB := hr_ hb; (try clear hb); (try clear hb2); (try clear hk); (try clear hi); obtain ⟨Z18_0, Z18_1, Z18_2, Z18_3, Z18_4, Z18_5, Z18_6, Z18_7, Z18_8, Z18_9, Z18_10, F18⟩ := bc11 K101.out) | (go_at_call 67; have _t := tk1_; (with_reducible refine (qbf_.calls k a0_2 a0_3 a0_4 a0_5 true _ A11.out).mono ?_); rintro e w19 ⟨rfl, hb⟩; replace K101 := ab_ K101 hb; replace HB := hr_ hb; (try clear hb); (try clear hb2); (try clear hk); (try clear hi); obtain ⟨Z20_0, Z20_1, Z20_2, Z20_3, Z20_4, Z20_5, Z20_6, Z20_7, Z20_8, Z20_9, Z20_10, F20⟩ := bc11 K101.out; clear tk1_) | (go_at_call 67; have _t := tk2_; (with_reducible refine (qbf_.calls k a0_6 a0_7 a0_8 a0_9 true _ A13.out).mono ?_); rintro e w21 ⟨rfl, hb⟩; replace K101 := ab_ K101 hb; replace HB := hr_ hb; (try clear hb); (try clear hb2); (try clear hk); (try clear hi); obtain ⟨Z22_0, Z22_1, Z22_2, Z22_3, Z22_4, Z22_5, Z22_6, Z22_7, Z22_8, Z22_9, Z22_10, F22⟩ := bc11 K101.out; clear tk2_) | (go_at_call 68; (with_reducible refine (qcu_.calls a0_10 ⟨#[0]⟩ t106 _ ?side1 A15.out).mono ?_); (case side1 => exact GV.below hgv (hs_)); rintro e w' ⟨rfl, ⟨nd, rfl⟩⟩)); go_meet
  case rel => exact ⟨_, (t106), z1_, H', ⟨z4_⟩, ⟨bk_ K101.out⟩, ⟨hs_⟩⟩
 case rest =>
  clear HC2; try clear c1
  try clear p2
  try clear c5
  try clear c6
  try clear c8
  try clear c12
  try clear c14
  try clear c18
  try clear Z16_0 Z16_1 Z16_10 Z16_2 Z16_3 Z16_4 Z16_5 Z16_6 Z16_7 Z16_8 Z16_9
  try clear Z18_0 Z18_1 Z18_10 Z18_2 Z18_3 Z18_4 Z18_5 Z18_6 Z18_7 Z18_8 Z18_9
  try clear Z20_0 Z20_1 Z20_10 Z20_2 Z20_3 Z20_4 Z20_5 Z20_6 Z20_7 Z20_8 Z20_9
  try clear Z22_0 Z22_1 Z22_10 Z22_2 Z22_3 Z22_4 Z22_5 Z22_6 Z22_7 Z22_8 Z22_9
  try clear Z23_0 Z23_1 Z23_10 Z23_2 Z23_3 Z23_4 Z23_5 Z23_6 Z23_7 Z23_8 Z23_9
  try clear Z25_0 Z25_1 Z25_10 Z25_2 Z25_3 Z25_4 Z25_5 Z25_6 Z25_7 Z25_8 Z25_9
  try clear Z27_0 Z27_1 Z27_10 Z27_2 Z27_3 Z27_4 Z27_5 Z27_6 Z27_7 Z27_8 Z27_9
  try clear Z29_0 Z29_1 Z29_10 Z29_2 Z29_3 Z29_4 Z29_5 Z29_6 Z29_7 Z29_8 Z29_9
  try clear Z31_0 Z31_1 Z31_10 Z31_2 Z31_3 Z31_4 Z31_5 Z31_6 Z31_7 Z31_8 Z31_9
  try clear Z6_0 Z6_1 Z6_10 Z6_2 Z6_3 Z6_4 Z6_5 Z6_6 Z6_7 Z6_8 Z6_9
  try clear Z9_0 Z9_1 Z9_10 Z9_2 Z9_3 Z9_4 Z9_5 Z9_6 Z9_7 Z9_8 Z9_9
  try clear F16
  try clear F18
  try clear F20
  try clear F22
  try clear F23
  try clear F25
  try clear F27
  try clear F29
  try clear F31
  try clear F6
  try clear F9
  obtain ⟨kq, x33_1, rfl, HA, HJ1, K101, HB⟩ := hcut
  cases kq with
  | zero => exact absurd HA.out (by simp [qv_.j0])
  | succ kj1 =>
   have H := HA.out; clear HA; simp only [qv_.j0] at H; by_cases c33 : x33_1 = true
   ·subst c33; rw [if_pos rfl] at H; obtain rfl := oi_ H; go_wp2
    go_ret
    exact ⟨z3_, hs_⟩
   replace c33 := Bool.eq_false_iff.mpr c33; subst c33; rw [if_neg nft_] at H; have HC34 := qa_.mk H; clear H; go_upto_region 4 with (fail)
   go_cut [43] (fun v43 wc => ∃ (kq : Nat) (x43_33 : Bool), v43 = .bool x43_33 ∧ qa_ (qv_.j1 kq x43_33 a0_0 l0_1 a0_2 a0_3 a0_4 a0_5 a0_6 a0_7 a0_8 a0_9 a0_10 = some r) ∧ qa_ (kq ≤ kj1) ∧ qa_ (wc.heap[g101]? = some (.cells #[.string a0_0, (.slice A0_1 l0_1.length c0_1), .string a0_2, .string a0_3, .int .i64 a0_4, .int .i64 a0_5, .string a0_6, .string a0_7, .int .i64 a0_8, .int .i64 a0_9, .string a0_10] 26 (0, 0))) ∧ qa_ (Below w.heap.size w wc))
   case first =>
    have H := HC34.out; clear HC34; by_cases c35 : (a0_10.size : Int) > 4096
    ·rw [if_pos c35] at H; have c35b0 := dt_ c35; have c35b1 : decide (4096 < a0_10.size) = true := decide_eq_true (by omega); clear c35; (first | rw [c35b0] | (simp only [i64_w, i32_w]; rw [c35b0]) | skip); have H' := qa_.mk H; clear H; obtain ⟨Z36_0, Z36_1, Z36_2, Z36_3, Z36_4, Z36_5, Z36_6, Z36_7, Z36_8, Z36_9, Z36_10, F36⟩ := bc11 K101.out; go_wp2
     go_meet
     case rel => exact ⟨_, (true), z1_, H', ⟨by have := HJ1.out; first | omega | exact Nat.le_refl _⟩, ⟨bk_ K101.out⟩, ⟨hs_⟩⟩
    rw [if_neg c35] at H; have c35b0 := df_ c35; have c35b1 : decide (4096 < a0_10.size) = false := decide_eq_false (by omega); clear c35; (first | rw [c35b0] | (simp only [i64_w, i32_w]; rw [c35b0]) | skip); have H' := qa_.mk H; clear H; obtain ⟨Z37_0, Z37_1, Z37_2, Z37_3, Z37_4, Z37_5, Z37_6, Z37_7, Z37_8, Z37_9, Z37_10, F37⟩ := bc11 K101.out; go_wp2
    go_meet
    case rel => exact ⟨_, (decide ((l0_1.length : Int) > 8)), z1_, H', ⟨by have := HJ1.out; first | omega | exact Nat.le_refl _⟩, ⟨bk_ K101.out⟩, ⟨hs_⟩⟩
   case rest =>
    clear HC34; try clear c1
    try clear p2
    try clear c3
    try clear c5
    try clear c6
    try clear c8
    try clear c12
    try clear c14
    try clear c18
    try clear c33
    try clear c35
    try clear c35b0
    try clear c35b1
    try clear Z16_0 Z16_1 Z16_10 Z16_2 Z16_3 Z16_4 Z16_5 Z16_6 Z16_7 Z16_8 Z16_9
    try clear Z18_0 Z18_1 Z18_10 Z18_2 Z18_3 Z18_4 Z18_5 Z18_6 Z18_7 Z18_8 Z18_9
    try clear Z20_0 Z20_1 Z20_10 Z20_2 Z20_3 Z20_4 Z20_5 Z20_6 Z20_7 Z20_8 Z20_9
    try clear Z22_0 Z22_1 Z22_10 Z22_2 Z22_3 Z22_4 Z22_5 Z22_6 Z22_7 Z22_8 Z22_9
    try clear Z23_0 Z23_1 Z23_10 Z23_2 Z23_3 Z23_4 Z23_5 Z23_6 Z23_7 Z23_8 Z23_9
    try clear Z25_0 Z25_1 Z25_10 Z25_2 Z25_3 Z25_4 Z25_5 Z25_6 Z25_7 Z25_8 Z25_9
    try clear Z27_0 Z27_1 Z27_10 Z27_2 Z27_3 Z27_4 Z27_5 Z27_6 Z27_7 Z27_8 Z27_9
    try clear Z29_0 Z29_1 Z29_10 Z29_2 Z29_3 Z29_4 Z29_5 Z29_6 Z29_7 Z29_8 Z29_9
    try clear Z31_0 Z31_1 Z31_10 Z31_2 Z31_3 Z31_4 Z31_5 Z31_6 Z31_7 Z31_8 Z31_9
    try clear Z36_0 Z36_1 Z36_10 Z36_2 Z36_3 Z36_4 Z36_5 Z36_6 Z36_7 Z36_8 Z36_9
    try clear Z37_0 Z37_1 Z37_10 Z37_2 Z37_3 Z37_4 Z37_5 Z37_6 Z37_7 Z37_8 Z37_9
    try clear Z6_0 Z6_1 Z6_10 Z6_2 Z6_3 Z6_4 Z6_5 Z6_6 Z6_7 Z6_8 Z6_9
    try clear Z9_0 Z9_1 Z9_10 Z9_2 Z9_3 Z9_4 Z9_5 Z9_6 Z9_7 Z9_8 Z9_9
    try clear F16
    try clear F18
    try clear F20
    try clear F22
    try clear F23
    try clear F25
    try clear F27
    try clear F29
    try clear F31
    try clear F36
    try clear F37
    try clear F6
    try clear F9
    try clear p2
    obtain ⟨kq, x43_33, rfl, HA, HJ33, K101, HB⟩ := hcut
    cases kq with
    | zero => exact absurd HA.out (by simp [qv_.j1])
    | succ kj33 =>
     have H := HA.out; clear HA; simp only [qv_.j1] at H; by_cases c38 : x43_33 = true
     ·subst c38; rw [if_pos rfl] at H; obtain rfl := oi_ H; go_wp2
      go_ret
      exact ⟨z3_, hs_⟩
     replace c38 := Bool.eq_false_iff.mpr c38; subst c38; rw [if_neg nft_] at H; have H' := qa_.mk H; clear H; go_wp2_with (first | ((with_reducible refine qh_ (N := 44) rfl ?_); (try (refine qcy_ (by rfl) ?_; dsimp only)); refine mkmapB_event rfl (N := 44) rfl rfl ?_; intro g107 hg w39 hbox hb; have HI107 := qa_.mk (IsS84.made hbox (by rw [hg]; exact (qj_ (hs_)) : w.heap.size ≤ g107)); replace HB := hr_ hb; have N101_107 := qa_.mk (nl2_ hg K101.out); have N107_101 := qa_.mk (ng2_ hg K101.out); replace K101 := ab_ K101 hb; clear hb hbox hg; have hnb40 := N101_107.out; have hnc40 := N107_101.out; obtain ⟨Z41_0, Z41_1, Z41_2, Z41_3, Z41_4, Z41_5, Z41_6, Z41_7, Z41_8, Z41_9, Z41_10, F41⟩ := bc11 K101.out)); go_loopg [48] kj33 (fun kq v48 w' => ∃ (x48_3 : Int) (x108000_3 : MSB), v48 = .int .i64 x48_3 ∧ qa_ (qv_.l0 kq l0_1 (l0_1.length : Int) x48_3 x108000_3 = some r) ∧ qa_ (kq ≤ kj33) ∧ qa_ (w'.heap[g101]? = some (.cells #[.string a0_0, (.slice A0_1 l0_1.length c0_1), .string a0_2, .string a0_3, .int .i64 a0_4, .int .i64 a0_5, .string a0_6, .string a0_7, .int .i64 a0_8, .int .i64 a0_9, .string a0_10] 26 (0, 0))) ∧ qa_ (IsS84 w w' g107 x108000_3) ∧ qa_ (Below w.heap.size w w'))
     case atStart => exact ⟨(0), (MSB.nil), z1_, H', ⟨Nat.le_refl _⟩, ⟨bk_ K101.out⟩, ⟨z25_⟩, ⟨z23_⟩⟩
     case round =>
      clear H'; try clear c1
      try clear p2
      try clear c3
      try clear c4
      try clear c5
      try clear c6
      try clear c8
      try clear c12
      try clear c14
      try clear c18
      try clear c33
      try clear c35
      try clear c35b0
      try clear c35b1
      try clear c38
      try clear c40
      try clear Z16_0 Z16_1 Z16_10 Z16_2 Z16_3 Z16_4 Z16_5 Z16_6 Z16_7 Z16_8 Z16_9
      try clear Z18_0 Z18_1 Z18_10 Z18_2 Z18_3 Z18_4 Z18_5 Z18_6 Z18_7 Z18_8 Z18_9
      try clear Z20_0 Z20_1 Z20_10 Z20_2 Z20_3 Z20_4 Z20_5 Z20_6 Z20_7 Z20_8 Z20_9
      try clear Z22_0 Z22_1 Z22_10 Z22_2 Z22_3 Z22_4 Z22_5 Z22_6 Z22_7 Z22_8 Z22_9
      try clear Z23_0 Z23_1 Z23_10 Z23_2 Z23_3 Z23_4 Z23_5 Z23_6 Z23_7 Z23_8 Z23_9
      try clear Z25_0 Z25_1 Z25_10 Z25_2 Z25_3 Z25_4 Z25_5 Z25_6 Z25_7 Z25_8 Z25_9
      try clear Z27_0 Z27_1 Z27_10 Z27_2 Z27_3 Z27_4 Z27_5 Z27_6 Z27_7 Z27_8 Z27_9
      try clear Z29_0 Z29_1 Z29_10 Z29_2 Z29_3 Z29_4 Z29_5 Z29_6 Z29_7 Z29_8 Z29_9
      try clear Z31_0 Z31_1 Z31_10 Z31_2 Z31_3 Z31_4 Z31_5 Z31_6 Z31_7 Z31_8 Z31_9
      try clear Z36_0 Z36_1 Z36_10 Z36_2 Z36_3 Z36_4 Z36_5 Z36_6 Z36_7 Z36_8 Z36_9
      try clear Z37_0 Z37_1 Z37_10 Z37_2 Z37_3 Z37_4 Z37_5 Z37_6 Z37_7 Z37_8 Z37_9
      try clear Z41_0 Z41_1 Z41_10 Z41_2 Z41_3 Z41_4 Z41_5 Z41_6 Z41_7 Z41_8 Z41_9
      try clear Z6_0 Z6_1 Z6_10 Z6_2 Z6_3 Z6_4 Z6_5 Z6_6 Z6_7 Z6_8 Z6_9
      try clear Z9_0 Z9_1 Z9_10 Z9_2 Z9_3 Z9_4 Z9_5 Z9_6 Z9_7 Z9_8 Z9_9
      try clear F16
      try clear F18
      try clear F20
      try clear F22
      try clear F23
      try clear F25
      try clear F27
      try clear F29
      try clear F31
      try clear F36
      try clear F37
      try clear F41
      try clear F6
      try clear F9
      try clear p2
      obtain ⟨x48_3, x108000_3, rfl, HA, HK3, K101, HI107, HB⟩ := hrel
      cases gk with
      | zero => exact absurd HA.out (by simp [qv_.l0])
      | succ k3 =>
       have H := HA.out; clear HA; simp only [qv_.l0] at H; by_cases c42 : x48_3 < (l0_1.length : Int); rotate_left
       ·rw [if_neg c42] at H; have c42b0 := df_ c42; clear c42; obtain rfl := oi_ H; go_wp2
        go_ret
        exact ⟨z3_, z23_⟩
       rw [if_pos c42] at H; have c42b0 := dt_ c42; clear c42; by_cases c43 : 0 ≤ x48_3; rotate_left
       ·rw [if_neg c43] at H; exact no_ H
       rw [if_pos c43] at H; have c43b0 := dt_ c43; clear c43; by_cases c44 : x48_3 < (l0_1.length : Int); rotate_left
       ·rw [if_neg c44] at H; exact no_ H
       rw [if_pos c44] at H; have c44b0 := dt_ c44; clear c44; by_cases c45 : (rdOf ByteArray.empty l0_1 x48_3).size ≤ 9223372036854775807; rotate_left
       ·rw [if_neg c45] at H; exact no_ H
       rw [if_pos c45] at H; have c45b0 := eq_true c45; have c45b1 := dt_ c45; try have c45b2 := nl_ c45
       clear c45; by_cases c46 : MSB.get x108000_3 (rdOf ByteArray.empty l0_1 x48_3) = true
       ·rw [if_pos c46] at H; have c46b0 : MSB.get x108000_3 (rdOf ByteArray.empty l0_1 x48_3) = true := c46; clear c46; obtain rfl := oi_ H; have p108 : 0 ≤ (x48_3 : Int) := y0_; have q108 : x48_3 < (l0_1.length : Int) := y0_; obtain ⟨ad108, e108, hx108_0⟩ := Kd.at_string HR0_1.out x48_3 p108 q108
        cases e108
        replace hx108_0 := (HB.out.cell (World.block_lt_of_cell? w _ hx108_0)).trans hx108_0; replace p108 := eq_true p108; replace q108 := eq_true q108; go_wp2_with (first | ((with_reducible refine qh_ (N := 54) rfl ?_); (try (refine qcy_ (by rfl) ?_; dsimp only)); refine IsS84.look (show IsS84 w _ g107 x108000_3 from z25_) rfl rfl rfl rfl (y0_ : (rdOf ByteArray.empty l0_1 x48_3).size ≤ 9223372036854775807) (by first | (with_reducible assumption) | exact rfl) ?_)); go_ret
        exact ⟨z3_, z23_⟩
       rw [if_neg c46] at H; have c46b0 : MSB.get x108000_3 (rdOf ByteArray.empty l0_1 x48_3) = false := by simpa using c46
       clear c46; have c47b0 := eq_true (y0_ : (rdOf ByteArray.empty l0_1 x48_3).size ≤ 9223372036854775807); by_cases c48 : x108000_3.n < 4611686018427387904; rotate_left
       ·rw [if_neg c48] at H; exact no_ H
       rw [if_pos c48] at H; have c48b0 := eq_true c48; have c48b1 := dt_ c48; clear c48; have H' := qa_.mk H; clear H; have p108 : 0 ≤ (x48_3 : Int) := y0_; have q108 : x48_3 < (l0_1.length : Int) := y0_; obtain ⟨ad108, e108, hx108_0⟩ := Kd.at_string HR0_1.out x48_3 p108 q108
       cases e108
       replace hx108_0 := (HB.out.cell (World.block_lt_of_cell? w _ hx108_0)).trans hx108_0; replace p108 := eq_true p108; replace q108 := eq_true q108; go_wp2_with (first | ((with_reducible refine qh_ (N := 54) rfl ?_); (try (refine qcy_ (by rfl) ?_; dsimp only)); refine IsS84.look (show IsS84 w _ g107 x108000_3 from z25_) rfl rfl rfl rfl (y0_ : (rdOf ByteArray.empty l0_1 x48_3).size ≤ 9223372036854775807) (by first | (with_reducible assumption) | exact rfl) ?_) | (at_mapUpdate; refine IsS84.put_ (k := (rdOf ByteArray.empty l0_1 x48_3)) (n := true) (show IsS84 w _ g107 x108000_3 from z25_) rfl rfl rfl rfl rfl (y0_ : (rdOf ByteArray.empty l0_1 x48_3).size ≤ 9223372036854775807) (y0_ : x108000_3.n < 4611686018427387904) trivial ?_; intro w49 hi hg; replace K101 := qa_.mk (qdd_ (g := g101) (o := .cells #[.string a0_0, .slice (some ad108) l0_1.length c0_1, .string a0_2, .string a0_3, .int .i64 a0_4, .int .i64 a0_5, .string a0_6, .string a0_7, .int .i64 a0_8, .int .i64 a0_9, .string a0_10] 26 (0, 0)) (bk_ K101.out) hg (fun e_ => N101_107.out (Option.some.inj e_))); replace HB := qa_.mk (Below.grown z23_ hg ((qj_ z23_)) (fun k_ e_ => (Option.some.inj e_) ▸ (IsS84.ge hi))); replace HI107 := qa_.mk (hi); clear hi hg)); go_roundg k3
       case measure => have := HJ1.out; have := HJ33.out; have := HK3.out; omega
       case rel => exact ⟨(wrap64 (x48_3 + 1)), (MSB.put x108000_3 (rdOf ByteArray.empty l0_1 x48_3) true), z1_, H', ⟨by have := HJ1.out; have := HJ33.out; have := HK3.out; omega⟩, ⟨bk_ K101.out⟩, ⟨z25_⟩, ⟨z23_⟩⟩
mutual
def ql_.j1 : Nat → ByteArray → Int → ByteArray → List ByteArray → ByteArray → ByteArray → Int → Int → ByteArray → ByteArray → Int → Int → ByteArray → Option (ByteArray × List ByteArray × ByteArray × ByteArray × Int × Int × ByteArray × ByteArray × Int × Int × ByteArray × Int)
 | 0, _, _, _, _, _, _, _, _, _, _, _, _, _ => none
 | k + 1, x103000, x103001, x107000, x107001, x107002, x107003, x107004, x107005, x107006, x107007, x107008, x107009, x107010 => (qbg_.f k x103000 x103001 ⟨#[97, 117, 116, 104, 111, 114, 32]⟩).bind fun bt114 => ((qbg_.f k bt114.2.2.2.2.1 bt114.2.2.2.2.2 ⟨#[99, 111, 109, 109, 105, 116, 116, 101, 114, 32]⟩).bind fun bt120 => ((qbh_.f bt120.2.2.2.2.1 bt120.2.2.2.2.2 ⟨#[]⟩).bind fun bt126 => (if bt126.1.toList = ([] : List UInt8) then (ql_.j2 k bt126.2.1 bt126.2.2 x107000 x107001 bt114.1 bt114.2.1 bt114.2.2.1 bt114.2.2.2.1 bt120.1 bt120.2.1 bt120.2.2.1 bt120.2.2.2.1 x107010) else ((qbt_.f bt126.2.1 bt126.2.2 2).bind fun bt129 => (ql_.j2 k bt129.1 bt129.2 x107000 x107001 bt114.1 bt114.2.1 bt114.2.2.1 bt114.2.2.2.1 bt120.1 bt120.2.1 bt120.2.2.1 bt120.2.2.2.1 x107010)))))
def ql_.j2 : Nat → ByteArray → Int → ByteArray → List ByteArray → ByteArray → ByteArray → Int → Int → ByteArray → ByteArray → Int → Int → ByteArray → Option (ByteArray × List ByteArray × ByteArray × ByteArray × Int × Int × ByteArray × ByteArray × Int × Int × ByteArray × Int)
 | 0, _, _, _, _, _, _, _, _, _, _, _, _, _ => none
 | k + 1, x103000, x103001, x107000, x107001, x107002, x107003, x107004, x107005, x107006, x107007, x107008, x107009, x107010 => if x103001 = 0 then ((qv_.f k x107000 x107001 x107002 x107003 x107004 x107005 x107006 x107007 x107008 x107009 x103000).bind fun t131 => (if t131 = 0 then (some (x107000, x107001, x107002, x107003, x107004, x107005, x107006, x107007, x107008, x107009, x103000, 0)) else (some ((⟨#[]⟩ : ByteArray), ([] : List ByteArray), (⟨#[]⟩ : ByteArray), (⟨#[]⟩ : ByteArray), 0, 0, (⟨#[]⟩ : ByteArray), (⟨#[]⟩ : ByteArray), 0, 0, (⟨#[]⟩ : ByteArray), t131)))) else (some ((⟨#[]⟩ : ByteArray), ([] : List ByteArray), (⟨#[]⟩ : ByteArray), (⟨#[]⟩ : ByteArray), 0, 0, (⟨#[]⟩ : ByteArray), (⟨#[]⟩ : ByteArray), 0, 0, (⟨#[]⟩ : ByteArray), x103001))
def ql_.l0 : Nat → ByteArray → Int → ByteArray → List ByteArray → ByteArray → ByteArray → Int → Int → ByteArray → ByteArray → Int → Int → ByteArray → Option (ByteArray × List ByteArray × ByteArray × ByteArray × Int × Int × ByteArray × ByteArray × Int × Int × ByteArray × Int)
 | 0, _, _, _, _, _, _, _, _, _, _, _, _, _ => none
 | k + 1, x103000, x103001, x107000, x107001, x107002, x107003, x107004, x107005, x107006, x107007, x107008, x107009, x107010 => if x103001 = 0 then ((qcs_.f x103000 ⟨#[112, 97, 114, 101, 110, 116, 32]⟩).bind fun t107 => (if t107 = true then ((qbq_.f k x103000 x103001 ⟨#[112, 97, 114, 101, 110, 116, 32]⟩).bind fun bt108 => (if x107001.length < 8796093022208 then (ql_.l0 k bt108.2.1 bt108.2.2 x107000 (x107001 ++ [bt108.1]) x107002 x107003 x107004 x107005 x107006 x107007 x107008 x107009 x107010) else (none))) else (ql_.j1 k x103000 x103001 x107000 x107001 x107002 x107003 x107004 x107005 x107006 x107007 x107008 x107009 x107010))) else (ql_.j1 k x103000 x103001 x107000 x107001 x107002 x107003 x107004 x107005 x107006 x107007 x107008 x107009 x107010)
end
def ql_.f (k : Nat) (a0 : ByteArray) : Option (ByteArray × List ByteArray × ByteArray × ByteArray × Int × Int × ByteArray × ByteArray × Int × Int × ByteArray × Int) := (qbq_.f k a0 0 ⟨#[116, 114, 101, 101, 32]⟩).bind fun bt103 => (ql_.l0 k bt103.2.1 bt103.2.2 bt103.1 ([] : List ByteArray) ⟨#[]⟩ ⟨#[]⟩ 0 0 ⟨#[]⟩ ⟨#[]⟩ 0 0 ⟨#[]⟩)
theorem ql_.mono_l : ∀ k, (∀ y0 y1 y2 y3 y4 y5 y6 y7 y8 y9 y10 y11 y12, LeO (ql_.j1 k y0 y1 y2 y3 y4 y5 y6 y7 y8 y9 y10 y11 y12) (ql_.j1 (k + 1) y0 y1 y2 y3 y4 y5 y6 y7 y8 y9 y10 y11 y12)) ∧ (∀ y0 y1 y2 y3 y4 y5 y6 y7 y8 y9 y10 y11 y12, LeO (ql_.j2 k y0 y1 y2 y3 y4 y5 y6 y7 y8 y9 y10 y11 y12) (ql_.j2 (k + 1) y0 y1 y2 y3 y4 y5 y6 y7 y8 y9 y10 y11 y12)) ∧ (∀ y0 y1 y2 y3 y4 y5 y6 y7 y8 y9 y10 y11 y12, LeO (ql_.l0 k y0 y1 y2 y3 y4 y5 y6 y7 y8 y9 y10 y11 y12) (ql_.l0 (k + 1) y0 y1 y2 y3 y4 y5 y6 y7 y8 y9 y10 y11 y12))
 | 0 => ⟨fun _ _ _ _ _ _ _ _ _ _ _ _ _ r h => by simp [ql_.j1] at h, fun _ _ _ _ _ _ _ _ _ _ _ _ _ r h => by simp [ql_.j2] at h, fun _ _ _ _ _ _ _ _ _ _ _ _ _ r h => by simp [ql_.l0] at h⟩
 | k + 1 => by
  obtain ⟨ih0, ih1, ih2⟩ := ql_.mono_l k
  refine ⟨?_, ?_, ?_⟩
  ·intro y0 y1 y2 y3 y4 y5 y6 y7 y8 y9 y10 y11 y12
   unfold ql_.j1
   have m0_ := @ih0
   have m1_ := @ih1
   have m2_ := @ih2
   have m3_ := @qv_.mono
   have m4_ := @qbq_.mono
   have m5_ := @qbg_.mono
   exact mz_
  ·intro y0 y1 y2 y3 y4 y5 y6 y7 y8 y9 y10 y11 y12
   unfold ql_.j2
   have m0_ := @ih0
   have m1_ := @ih1
   have m2_ := @ih2
   have m3_ := @qv_.mono
   have m4_ := @qbq_.mono
   have m5_ := @qbg_.mono
   exact mz_
  ·intro y0 y1 y2 y3 y4 y5 y6 y7 y8 y9 y10 y11 y12
   unfold ql_.l0
   have m0_ := @ih0
   have m1_ := @ih1
   have m2_ := @ih2
   have m3_ := @qv_.mono
   have m4_ := @qbq_.mono
   have m5_ := @qbg_.mono
   exact mz_
theorem ql_.mono : ∀ a0 k, LeO (ql_.f k a0) (ql_.f (k + 1) a0) := by
 intro a0 k; obtain ⟨ih0, ih1, ih2⟩ := ql_.mono_l k; unfold ql_.f; have m0_ := @ih0; have m1_ := @ih1; have m2_ := @ih2; have m3_ := @qv_.mono; have m4_ := @qbq_.mono; have m5_ := @qbg_.mono; exact mz_
def ql_.T4 : Bool × List (List Nat × List Nat) := (true, [([], []), ([0], [0]), ([], []), ([2], [2]), ([3], [3]), ([1, 4, 3], [1, 4]), ([0, 1, 2, 3, 4, 5], []), ([6, 5, 5, 0, 1, 2, 3, 4, 5], [5, 6])])
def ql_.B4 : List Nat := [0, 1, 0, 4, 12, 31, 63, 127]
theorem ql_.tab4 : rtab .any (opsOf Tryz.f20 4) = ql_.T4 := by kernel_rfl
theorem ql_.bits4 : qdu_ ql_.T4.2 ql_.B4 = true := by kernel_rfl
theorem ql_.calls (k : Nat) (a0 : ByteArray) (r1 : ByteArray) (r2 : List ByteArray) (r3 : ByteArray) (r4 : ByteArray) (r5 : Int) (r6 : Int) (r7 : ByteArray) (r8 : ByteArray) (r9 : Int) (r10 : Int) (r11 : ByteArray) (r12 : Int) (w : World) (hgv : GV w) (h : ql_.f k a0 = some (r1, r2, r3, r4, r5, r6, r7, r8, r9, r10, r11, r12)) :
  Calls Tryz.prog 20 #[.string a0] w fun e w' => ∃ v1_ : Value, e = .returned (.tuple #[.agg #[.string r1, v1_, .string r3, .string r4, .int .i64 r5, .int .i64 r6, .string r7, .string r8, .int .i64 r9, .int .i64 r10, .string r11], .int .i64 r12]) ∧ Kd.R Kd.string 9 w' w.heap.size (fun _ => True) v1_ r2 ∧ Below w.heap.size w w' := by
 have hu26 := underlying26; have hu87 := underlying87; have hu24 := underlying24; have HB := qa_.mk (Below.refl w.heap.size w); unfold ql_.f at h; have H := h; clear h; obtain ⟨⟨t103, t104, t105⟩, A2, H⟩ := bx_ H; dsimp only at H; have HC3 := qa_.mk H; clear H; go_enter func20, ntmps20; go_upto_block 0 with (first | ((with_reducible refine qh_ (N := 2) rfl ?_); refine be_ (cs := #[.string ⟨#[]⟩, .slice none 0 0, .string ⟨#[]⟩, .string ⟨#[]⟩, .int .i64 0, .int .i64 0, .string ⟨#[]⟩, .string ⟨#[]⟩, .int .i64 0, .int .i64 0, .string ⟨#[]⟩]) (t := 26) ?_; intro g101 hg w4 hbox hb; have K101 := qa_.mk (hbox); have W101 := ag_ hg HB; have E101 := ag_ hg HB; replace HB := ah_ HB hb; clear hb hbox hg) | ((with_reducible refine qh_ (N := 8) rfl ?_); refine be_ (cs := #[.string a0, .int .i64 0]) (t := 87) ?_; intro g102 hg w5 hbox hb; have K102 := qa_.mk (hbox); have W102 := qa_.mk ((by rw [hg]; exact (qj_ (hs_)) : w.heap.size ≤ g102)); have E102 := qa_.mk ((by rw [hg]; exact (qj_ (hs_)) : w.heap.size ≤ g102)); replace HB := hr_ hb; have N101_102 := qa_.mk (nl2_ hg K101.out); have N102_101 := qa_.mk (ng2_ hg K101.out); replace K101 := ab_ K101 hb; clear hb hbox hg) | ((with_reducible refine qb_ (f := 70) rfl ?_); refine gl_ (some 10) func70 #[.pointer (some ⟨g102, 0, none⟩), .string ⟨#[116, 114, 101, 101, 32]⟩] ?_; (with_reducible refine (qbq_.calls k g102 a0 0 ⟨#[116, 114, 101, 101, 32]⟩ t103 t104 t105 w _ ?side1 ?side2 ?side3 A2.out).mono ?_); (case side1 => exact (show IsS87 w _ g102 a0 0 from ⟨(bk_ K102.out), E102.out⟩)); (case side2 => repeat (first | (with_reducible first | exact HB.out | apply qaw_ | apply qay_ | apply qbu_ | refine qz_ ?_ (IsS87.ge HI102.out) | refine qz_ ?_ E101.out) | exact HB.out)); (case side3 => exact hgv); rintro e w6 ⟨rfl, hi, hb, hk⟩; refine ⟨_, rfl, ?_⟩; replace K101 := qa_.mk (qaj_.blk hk (g' := g101) (o := .cells #[.string ⟨#[]⟩, .slice none 0 0, .string ⟨#[]⟩, .string ⟨#[]⟩, .int .i64 0, .int .i64 0, .string ⟨#[]⟩, .string ⟨#[]⟩, .int .i64 0, .int .i64 0, .string ⟨#[]⟩] 26 (0, 0)) (bk_ K101.out) N101_102.out (by simp)); replace HB := qa_.mk (hb); replace K102 := qa_.mk (hi.1); (try clear hb); (try clear hb2); (try clear hk); (try clear hi)) | ((with_reducible refine qh_ (N := 5) rfl ?_); refine be_ (cs := #[.string ⟨#[]⟩, .slice none 0 0, .string ⟨#[]⟩, .string ⟨#[]⟩, .int .i64 0, .int .i64 0, .string ⟨#[]⟩, .string ⟨#[]⟩, .int .i64 0, .int .i64 0, .string ⟨#[]⟩]) (t := 26) ?_; intro g106 hg w7 hbox hb; have K106 := qa_.mk (hbox); have W106 := qa_.mk ((by rw [hg]; exact (qj_ (hs_)) : w.heap.size ≤ g106)); have E106 := qa_.mk ((by rw [hg]; exact (qj_ (hs_)) : w.heap.size ≤ g106)); replace HB := hr_ hb; have N101_106 := qa_.mk (nl2_ hg K101.out); have N106_101 := qa_.mk (ng2_ hg K101.out); replace K101 := ab_ K101 hb; have N102_106 := qa_.mk (nl2_ hg K102.out); have N106_102 := qa_.mk (ng2_ hg K102.out); replace K102 := ab_ K102 hb; clear hb hbox hg; have hnb8 := N106_101.out; have hnc8 := N101_106.out; have hnb9 := N106_102.out; have hnc9 := N102_106.out; obtain ⟨Z10_0, Z10_1, Z10_2, Z10_3, Z10_4, Z10_5, Z10_6, Z10_7, Z10_8, Z10_9, Z10_10, F10⟩ := bc11 K106.out))
 (try simp only [Act.put, List.setIfInBounds_toArray, List.set_cons_zero, List.set_cons_succ])
 go_cut [] (fun wc => ∃ (kq : Nat) (x103000_2 : ByteArray) (x103001_2 : Int) (x107001_2 : List ByteArray) (u107001 : Value), qa_ (ql_.j1 kq x103000_2 x103001_2 t103 x107001_2 ⟨#[]⟩ ⟨#[]⟩ 0 0 ⟨#[]⟩ ⟨#[]⟩ 0 0 ⟨#[]⟩ = some (r1, r2, r3, r4, r5, r6, r7, r8, r9, r10, r11, r12)) ∧ qa_ (kq ≤ k) ∧ qa_ (Kd.R Kd.string 9 wc w.heap.size (fun _ => True) u107001 x107001_2) ∧ qa_ (wc.heap[g101]? = some (.cells #[.string ⟨#[]⟩, (.slice none 0 0), .string ⟨#[]⟩, .string ⟨#[]⟩, .int .i64 0, .int .i64 0, .string ⟨#[]⟩, .string ⟨#[]⟩, .int .i64 0, .int .i64 0, .string ⟨#[]⟩] 26 (0, 0))) ∧ qa_ (wc.heap[g102]? = some (.cells #[.string x103000_2, .int .i64 x103001_2] 87 (0, 0))) ∧ qa_ (wc.heap[g106]? = some (.cells #[.string t103, u107001, .string ⟨#[]⟩, .string ⟨#[]⟩, .int .i64 0, .int .i64 0, .string ⟨#[]⟩, .string ⟨#[]⟩, .int .i64 0, .int .i64 0, .string ⟨#[]⟩] 26 (0, 0))) ∧ qa_ (Below w.heap.size w wc))
 case first =>
  have H := HC3.out; clear HC3; have H' := qa_.mk H; clear H; go_wp2
  go_loopg [] k (fun kq w' => ∃ (x103000_1 : ByteArray) (x103001_1 : Int) (x107001_1 : List ByteArray) (u107001 : Value), qa_ (ql_.l0 kq x103000_1 x103001_1 t103 x107001_1 ⟨#[]⟩ ⟨#[]⟩ 0 0 ⟨#[]⟩ ⟨#[]⟩ 0 0 ⟨#[]⟩ = some (r1, r2, r3, r4, r5, r6, r7, r8, r9, r10, r11, r12)) ∧ qa_ (kq ≤ k) ∧ qa_ (Kd.R Kd.string 9 w' w.heap.size (fun _ => True) u107001 x107001_1) ∧ qa_ (w'.heap[g101]? = some (.cells #[.string ⟨#[]⟩, (.slice none 0 0), .string ⟨#[]⟩, .string ⟨#[]⟩, .int .i64 0, .int .i64 0, .string ⟨#[]⟩, .string ⟨#[]⟩, .int .i64 0, .int .i64 0, .string ⟨#[]⟩] 26 (0, 0))) ∧ qa_ (w'.heap[g102]? = some (.cells #[.string x103000_1, .int .i64 x103001_1] 87 (0, 0))) ∧ qa_ (w'.heap[g106]? = some (.cells #[.string t103, u107001, .string ⟨#[]⟩, .string ⟨#[]⟩, .int .i64 0, .int .i64 0, .string ⟨#[]⟩, .string ⟨#[]⟩, .int .i64 0, .int .i64 0, .string ⟨#[]⟩] 26 (0, 0))) ∧ qa_ (Below w.heap.size w w'))
  case atStart => exact ⟨(t104), (t105), (([] : List ByteArray)), (.slice none 0 0), H', ⟨Nat.le_refl _⟩, ⟨z6_⟩, ⟨by have b_ := K101; have f_ := N101_106; exact zb_⟩, ⟨by have b_ := K102; have f_ := N102_106; exact zb_⟩, ⟨by have b_ := K106; exact zb_⟩, ⟨hs_⟩⟩
  case round =>
   clear H'; try clear c2
   try clear p2
   try clear c7
   try clear c8
   try clear c9
   try clear Z10_0 Z10_1 Z10_10 Z10_2 Z10_3 Z10_4 Z10_5 Z10_6 Z10_7 Z10_8 Z10_9 F10_0 F10_1 F10_10 F10_2 F10_3 F10_4 F10_5 F10_6 F10_7 F10_8 F10_9
   obtain ⟨x103000_1, x103001_1, x107001_1, u107001, HA, HK1, HO_107001, K101, K102, K106, HB⟩ := hrel
   cases gk with
   | zero => exact absurd HA.out (by simp [ql_.l0])
   | succ k1 =>
    have H := HA.out; clear HA; simp only [ql_.l0] at H; by_cases c11 : x103001_1 = 0; rotate_left
    ·rw [if_neg c11] at H; have c11b0 := ef_ c11; have c11b1 := nt_ c11; (first | rw [c11b0] | (simp only [i64_w, i32_w]; rw [c11b0]) | skip); (try rw [c11b8])
     have H' := qa_.mk H; clear H; have hnb27 := N102_101.out; have hnc27 := N101_102.out; have hnb28 := N102_106.out; have hnc28 := N106_102.out; obtain ⟨Z29_0, Z29_1, F29⟩ := bc2 K102.out; go_wp2
     go_meet
     case rel => exact ⟨_, (x103000_1), (x103001_1), (x107001_1), (u107001), H', ⟨by have := HK1.out; first | omega | exact Nat.le_refl _⟩, ⟨z28_⟩, ⟨bk_ K101.out⟩, ⟨bk_ K102.out⟩, ⟨bk_ K106.out⟩, ⟨hs_⟩⟩
    rw [if_pos c11] at H; have c11b0 := et_ c11; have c11b1 := nf_ c11; clear c11; (first | rw [c11b0] | (simp only [i64_w, i32_w]; rw [c11b0]) | skip); (try rw [c11b8])
    obtain ⟨t107, A12, H⟩ := bx_ H; by_cases c13 : t107 = true; rotate_left
    ·replace c13 := Bool.eq_false_iff.mpr c13; subst c13; rw [if_neg nft_] at H; have H' := qa_.mk H; clear H; have hnb24 := N102_101.out; have hnc24 := N101_102.out; have hnb25 := N102_106.out; have hnc25 := N106_102.out; obtain ⟨Z26_0, Z26_1, F26⟩ := bc2 K102.out; go_wp2_with (first | (go_at_call 71; (with_reducible refine (qcs_.calls x103000_1 ⟨#[112, 97, 114, 101, 110, 116, 32]⟩ false _ A12.out).mono ?_); rintro e w' ⟨rfl, ⟨nd, rfl⟩⟩)); go_meet
     case rel => exact ⟨_, (x103000_1), (x103001_1), (x107001_1), (u107001), H', ⟨by have := HK1.out; first | omega | exact Nat.le_refl _⟩, ⟨z28_⟩, ⟨bk_ K101.out⟩, ⟨bk_ K102.out⟩, ⟨bk_ K106.out⟩, ⟨hs_⟩⟩
    subst c13; rw [if_pos rfl] at H; obtain ⟨⟨t108, t109, t110⟩, A14, H⟩ := bx_ H; dsimp only at H; by_cases c15 : x107001_1.length < 8796093022208; rotate_left
    ·rw [if_neg c15] at H; exact no_ H
    rw [if_pos c15] at H; have LMc15 := qa_.mk c15; clear c15; obtain ⟨y111, hy111⟩ : ∃ y_ : List ByteArray, y_ = (x107001_1 ++ [t108]) := ⟨_, rfl⟩; replace H : (ql_.l0 k1 t109 t110 t103 y111 ⟨#[]⟩ ⟨#[]⟩ 0 0 ⟨#[]⟩ ⟨#[]⟩ 0 0 ⟨#[]⟩) = some (r1, r2, r3, r4, r5, r6, r7, r8, r9, r10, r11, r12) := by first | (rw [hy111]; with_reducible exact H) | (have H2_ := (Option.bind_some _ _).symm.trans H; rw [hy111]; with_reducible exact H2_) | (have H2_ := (Option.bind_some _ _).symm.trans H; with_reducible exact H2_) | with_reducible exact H | (rw [hy111]; exact H) | exact H
    have Ny111 := qa_.mk hy111; clear hy111; have H' := qa_.mk H; clear H; have hnb16 := N102_101.out; have hnc16 := N101_102.out; have hnb17 := N102_106.out; have hnc17 := N106_102.out; obtain ⟨Z18_0, Z18_1, F18⟩ := bc2 K102.out; try go_wp2_with (first | (go_at_call 71; (with_reducible refine (qcs_.calls x103000_1 ⟨#[112, 97, 114, 101, 110, 116, 32]⟩ true _ A12.out).mono ?_); rintro e w' ⟨rfl, ⟨nd, rfl⟩⟩; (try (rw [qce_ wr]; generalize hq_ : World.drewN wr _ = wr; have n0_ : qa_ (Kd.R Kd.string 9 wr w.heap.size (fun _ => True) u107001 x107001_1) := ⟨by rw [← hq_]; exact (rk_ HO_107001.out)⟩; have n1_ : qa_ (wr.heap[g101]? = some (.cells #[.string ⟨#[]⟩, .slice none 0 0, .string ⟨#[]⟩, .string ⟨#[]⟩, .int .i64 0, .int .i64 0, .string ⟨#[]⟩, .string ⟨#[]⟩, .int .i64 0, .int .i64 0, .string ⟨#[]⟩] 26 (0, 0))) := ⟨by rw [← hq_]; exact (bk_ K101.out)⟩; have n2_ : qa_ (wr.heap[g102]? = some (.cells #[.string x103000_1, .int .i64 x103001_1] 87 (0, 0))) := ⟨by rw [← hq_]; exact (bk_ K102.out)⟩; have n3_ : qa_ (wr.heap[g106]? = some (.cells #[.string t103, u107001, .string ⟨#[]⟩, .string ⟨#[]⟩, .int .i64 0, .int .i64 0, .string ⟨#[]⟩, .string ⟨#[]⟩, .int .i64 0, .int .i64 0, .string ⟨#[]⟩] 26 (0, 0))) := ⟨by rw [← hq_]; exact (bk_ K106.out)⟩; have n4_ : qa_ (Below w.heap.size w wr) := ⟨by rw [← hq_]; exact (hs_)⟩; clear HO_107001 K101 K102 K106 HB hq_; have HO_107001 := n0_; have K101 := n1_; have K102 := n2_; have K106 := n3_; have HB := n4_; clear n0_ n1_ n2_ n3_ n4_)))); replace HO_107001 := qa_.mk (Kd.R_drew HO_107001.out); replace K101 := ad_ K101; replace K102 := ad_ K102; replace K106 := ad_ K106; replace HB := hd_ HB; refine qdm_ (n := 8) (S := fun w' => w'.cell? ⟨g106, 0, none⟩ = some (.string t103) ∧ w'.cell? ⟨g106, 1, none⟩ = some (u107001) ∧ w'.cell? ⟨g106, 2, none⟩ = some (.string ⟨#[]⟩) ∧ w'.cell? ⟨g106, 3, none⟩ = some (.string ⟨#[]⟩) ∧ w'.cell? ⟨g106, 4, none⟩ = some (.int .i64 0) ∧ w'.cell? ⟨g106, 5, none⟩ = some (.int .i64 0) ∧ w'.cell? ⟨g106, 6, none⟩ = some (.string ⟨#[]⟩) ∧ w'.cell? ⟨g106, 7, none⟩ = some (.string ⟨#[]⟩) ∧ w'.cell? ⟨g106, 8, none⟩ = some (.int .i64 0) ∧ w'.cell? ⟨g106, 9, none⟩ = some (.int .i64 0) ∧ w'.cell? ⟨g106, 10, none⟩ = some (.string ⟨#[]⟩)) (ds := [7]) (bs 8 0) (by kernel_rfl) rfl rfl (bc11o K106.out) (fun qn_ => ?_); refine qdg_ ql_.tab4 ql_.bits4 (fun HT_ HW_ => ?_); generalize wr.drew = w19 at HO_107001 K101 K102 K106 HB qn_ ⊢; refine pun_ 0 24 8 1 ?_; refine pun_ 2 26 8 5 ?_; refine tkW11n_ 1 25 8 7 qn_ ?_; refine on_ 3 27 8 15 (fun K hK => ?_); refine goes_ func70 (by kernel_rfl) rfl #[.pointer (some ⟨g102, 0, none⟩), .string ⟨#[112, 97, 114, 101, 110, 116, 32]⟩] (by rfl) rfl rfl z5_ ?_
    with_reducible refine (qbq_.calls k1 g102 x103000_1 x103001_1 ⟨#[112, 97, 114, 101, 110, 116, 32]⟩ t108 t109 t110 w _ ?side1 ?side2 ?side3 A14.out).mono ?_
    (case side1 => exact (show IsS87 w _ g102 x103000_1 x103001_1 from ⟨(bk_ K102.out), E102.out⟩))
    (case side2 => repeat (first | (with_reducible first | exact HB.out | apply qaw_ | apply qay_ | apply qbu_ | refine qz_ ?_ (IsS87.ge HI102.out) | refine qz_ ?_ E101.out | refine qz_ ?_ E106.out) | exact HB.out))
    (case side3 => exact hgv)
    rintro e w20 ⟨rfl, hi, hb, hk⟩; refine ⟨_, rfl, ?_⟩; replace HO_107001 := qa_.mk (Kd.R_mono (Kd.R_keep (IsS87.apart (show IsS87 w _ g102 x103000_1 x103001_1 from by exact (show IsS87 w _ g102 x103000_1 x103001_1 from ⟨(bk_ K102.out), E102.out⟩)) (rk_ HO_107001.out) (by decide)) hk (fun _ h => h.2)) (fun _ h => h.1)); replace K101 := qa_.mk (qaj_.blk hk (g' := g101) (o := .cells #[.string ⟨#[]⟩, .slice none 0 0, .string ⟨#[]⟩, .string ⟨#[]⟩, .int .i64 0, .int .i64 0, .string ⟨#[]⟩, .string ⟨#[]⟩, .int .i64 0, .int .i64 0, .string ⟨#[]⟩] 26 (0, 0)) (bk_ K101.out) N101_102.out (by simp)); replace K106 := qa_.mk (qaj_.blk hk (g' := g106) (o := .cells #[.string t103, u107001, .string ⟨#[]⟩, .string ⟨#[]⟩, .int .i64 0, .int .i64 0, .string ⟨#[]⟩, .string ⟨#[]⟩, .int .i64 0, .int .i64 0, .string ⟨#[]⟩] 26 (0, 0)) (bk_ K106.out) N106_102.out (by simp)); replace HB := qa_.mk (hb); replace K102 := qa_.mk (hi.1); (try clear hb)
    (try clear hb2)
    (try clear hk)
    (try clear hi)
    refine hK.out _ _ (bc11o K106.out) (fun qn_ => ?_); clear hK K; refine nrm_ 27 ?_
    refine on_ 4 28 8 31 (fun K hK => ?_); refine value_ (w1 := ?_) (v := ?_) (by rfl) rfl ?_ ?_; rotate_left 2
    ·go_simp
     constructor
     ·rfl
     ·rfl
    refine hK.out _ _ ⟨(qc_ (qei_ K106.out _) 0).trans rfl, (qc_ (qei_ K106.out _) 1).trans rfl, (qc_ (qei_ K106.out _) 2).trans rfl, (qc_ (qei_ K106.out _) 3).trans rfl, (qc_ (qei_ K106.out _) 4).trans rfl, (qc_ (qei_ K106.out _) 5).trans rfl, (qc_ (qei_ K106.out _) 6).trans rfl, (qc_ (qei_ K106.out _) 7).trans rfl, (qc_ (qei_ K106.out _) 8).trans rfl, (qc_ (qei_ K106.out _) 9).trans rfl, (qc_ (qei_ K106.out _) 10).trans rfl⟩ (fun qn_ => ?_); clear hK K; refine nrm_ 28 ?_
    refine on_ 5 29 8 63 (fun K hK => ?_); refine Kd.R_append_step Kd.string (w0 := w) w.heap.size (by rfl) (.tmp 25) (.tmp 28) 22 9 (.string ⟨#[]⟩) 16 rfl underlying22 info9 rfl (by decide) (by omega) u107001 x107001_1 t108 [.string t108] (fun _ => True) (fun _ => False) rfl rfl ?aP (fun _ hk => hk.elim) ?aF ?aO ?aB ?aS ?aL ?_; (case aP => exact rfl)
    (case aB => exact (hs_))
    (case aF => exact (fun _ _ => trivial))
    (case aO => exact (rk_ HO_107001.out))
    (case aS => exact (qj_ (hs_)))
    (case aL => have := LMc15.out; omega)
    intro v112 w21 ho hb hg hat; rw [← Ny111.out] at ho; have n0_ := qa_.mk (qdd_ (g := g101) (o := .cells #[.string ⟨#[]⟩, .slice none 0 0, .string ⟨#[]⟩, .string ⟨#[]⟩, .int .i64 0, .int .i64 0, .string ⟨#[]⟩, .string ⟨#[]⟩, .int .i64 0, .int .i64 0, .string ⟨#[]⟩] 26 (0, 0)) (bk_ K101.out) hg (Kd.R_ne HO_107001.out K101.out (by decide))); have n1_ := qa_.mk (qdd_ (g := g102) (o := .cells #[.string t109, .int .i64 t110] 87 (0, 0)) (bk_ K102.out) hg (Kd.R_ne HO_107001.out K102.out (by decide))); have n2_ := qa_.mk (qdd_ (g := g106) (o := .cells #[.string t103, u107001, .string ⟨#[]⟩, .string ⟨#[]⟩, .int .i64 0, .int .i64 0, .string ⟨#[]⟩, .string ⟨#[]⟩, .int .i64 0, .int .i64 0, .string ⟨#[]⟩] 26 (0, 0)) (bk_ K106.out) hg (Kd.R_ne HO_107001.out K106.out (by decide))); have n3_ := qa_.mk (hb); have n4_ := qa_.mk (ho); clear K101; clear K102; clear K106; clear HB; clear HO_107001; have K101 := n0_; have K102 := n1_; have K106 := n2_; have HB := n3_; have HO113 := n4_; clear n0_ n1_ n2_ n3_ n4_; clear ho hb hg hat; obtain ⟨Ao22, co22, eo22⟩ := Kd.R_slice HO113.out; (first | subst eo22 | (injection eo22 with f1_ f2_ f3_; have f4_ := f1_.symm; have f5_ := f3_.symm; clear f1_ f2_ f3_; subst f4_; subst f5_)); refine hK.out _ _ (bc11o K106.out) (fun qn_ => ?_); clear hK K; refine nrm_ 29 ?_
    refine pun_ 6 30 8 127 ?_; refine last_ (i := 7) (N := none) (bs 8 255) rfl rfl (one_of HT_.out (by kernel_rfl)) (by decide) (fun K hK => ?_); have hs23 : w21.cell? ⟨g106, 1, none⟩ = some (u107001) := (qc_ K106.out 1).trans rfl; have hfs23 := qp_ K106.out 1; have hns23_0 := N101_106.out; have hns23_1 := N102_106.out; have hms23_0 := N106_101.out; have hms23_1 := N106_102.out; refine skip_ (w1 := ?_) (by rfl) rfl ?_ ?_; rotate_left
    ·go_simp
     rfl
    refine hK.out _ _ ?_; clear hK K; refine dn_ ?_; try go_wp2
    go_roundg k1
    case measure => have := HK1.out; omega
    case rel => exact ⟨(t109), (t110), (y111), (.slice Ao22 y111.length co22), H', ⟨by have := HK1.out; omega⟩, ⟨by (with_reducible repeat (first | apply Kd.R_alloc | apply Kd.R_drewN | apply Kd.R_drew)); exact Kd.R_mono (Kd.R_far (p := ⟨g106, 1, none⟩) (Kd.R_types HO113.out K106.out (by decide)) (fun _ hk => hk.2) (.slice Ao22 y111.length co22)) (fun _ hk => trivial)⟩, ⟨by have b_ := K101; have f_ := N101_106; exact zb_⟩, ⟨by have b_ := K102; have f_ := N102_106; exact zb_⟩, ⟨by have b_ := K106; exact zb_⟩, ⟨hs_⟩⟩
 case rest =>
  clear HC3; try clear c1
  try clear c2
  try clear p2
  try clear c7
  try clear c8
  try clear c9
  try clear c11
  try clear c11b0
  try clear c11b1
  try clear c13
  try clear c15
  try clear c16
  try clear c17
  try clear c20
  try clear c24
  try clear c25
  try clear c27
  try clear c28
  try clear Z10_0 Z10_1 Z10_10 Z10_2 Z10_3 Z10_4 Z10_5 Z10_6 Z10_7 Z10_8 Z10_9
  try clear Z18_0 Z18_1
  try clear Z26_0 Z26_1
  try clear Z29_0 Z29_1
  try clear F10
  try clear F18
  try clear F26
  try clear F29
  try clear p2
  obtain ⟨kq, x103000_2, x103001_2, x107001_2, u107001, HA, HJ2, HO_107001, K101, K102, K106, HB⟩ := hcut
  cases kq with
  | zero => exact absurd HA.out (by simp [ql_.j1])
  | succ kj2 =>
   have H := HA.out; clear HA; simp only [ql_.j1] at H; obtain ⟨⟨t114, t115, t116, t117, t118, t119⟩, A30, H⟩ := bx_ H; dsimp only at H; obtain ⟨⟨t120, t121, t122, t123, t124, t125⟩, A31, H⟩ := bx_ H; dsimp only at H; obtain ⟨⟨t126, t127, t128⟩, A32, H⟩ := bx_ H; dsimp only at H; have HC33 := qa_.mk H; clear H; go_upto_if 39 with (first | ((with_reducible refine qb_ (f := 72) rfl ?_); refine gl_ (some 32) func72 #[.pointer (some ⟨g102, 0, none⟩), .string ⟨#[97, 117, 116, 104, 111, 114, 32]⟩] ?_; (with_reducible refine (qbg_.calls kj2 g102 x103000_2 x103001_2 ⟨#[97, 117, 116, 104, 111, 114, 32]⟩ t114 t115 t116 t117 t118 t119 w _ ?side1 ?side2 ?side3 A30.out).mono ?_); (case side1 => exact (show IsS87 w _ g102 x103000_2 x103001_2 from ⟨(bk_ K102.out), E102.out⟩)); (case side2 => repeat (first | (with_reducible first | exact HB.out | apply qaw_ | apply qay_ | apply qbu_ | refine qz_ ?_ (IsS87.ge HI102.out) | refine qz_ ?_ E101.out | refine qz_ ?_ E106.out) | exact HB.out)); (case side3 => exact hgv); rintro e w34 ⟨rfl, hi, hb, hk⟩; refine ⟨_, rfl, ?_⟩; replace HO_107001 := qa_.mk (Kd.R_mono (Kd.R_keep (IsS87.apart (show IsS87 w _ g102 x103000_2 x103001_2 from by exact (show IsS87 w _ g102 x103000_2 x103001_2 from ⟨(bk_ K102.out), E102.out⟩)) (rk_ HO_107001.out) (by decide)) hk (fun _ h => h.2)) (fun _ h => h.1)); replace K101 := qa_.mk (qaj_.blk hk (g' := g101) (o := .cells #[.string ⟨#[]⟩, .slice none 0 0, .string ⟨#[]⟩, .string ⟨#[]⟩, .int .i64 0, .int .i64 0, .string ⟨#[]⟩, .string ⟨#[]⟩, .int .i64 0, .int .i64 0, .string ⟨#[]⟩] 26 (0, 0)) (bk_ K101.out) N101_102.out (by simp)); replace K106 := qa_.mk (qaj_.blk hk (g' := g106) (o := .cells #[.string t103, u107001, .string ⟨#[]⟩, .string ⟨#[]⟩, .int .i64 0, .int .i64 0, .string ⟨#[]⟩, .string ⟨#[]⟩, .int .i64 0, .int .i64 0, .string ⟨#[]⟩] 26 (0, 0)) (bk_ K106.out) N106_102.out (by simp)); replace HB := qa_.mk (hb); replace K102 := qa_.mk (hi.1); (try clear hb); (try clear hb2); (try clear hk); (try clear hi)) | ((with_reducible refine qb_ (f := 72) rfl ?_); refine gl_ (some 34) func72 #[.pointer (some ⟨g102, 0, none⟩), .string ⟨#[99, 111, 109, 109, 105, 116, 116, 101, 114, 32]⟩] ?_; (with_reducible refine (qbg_.calls kj2 g102 t118 t119 ⟨#[99, 111, 109, 109, 105, 116, 116, 101, 114, 32]⟩ t120 t121 t122 t123 t124 t125 w _ ?side1 ?side2 ?side3 A31.out).mono ?_); (case side1 => exact (show IsS87 w _ g102 t118 t119 from ⟨(bk_ K102.out), E102.out⟩)); (case side2 => repeat (first | (with_reducible first | exact HB.out | apply qaw_ | apply qay_ | apply qbu_ | refine qz_ ?_ (IsS87.ge HI102.out) | refine qz_ ?_ E101.out | refine qz_ ?_ E106.out) | exact HB.out)); (case side3 => exact hgv); rintro e w35 ⟨rfl, hi, hb, hk⟩; refine ⟨_, rfl, ?_⟩; replace HO_107001 := qa_.mk (Kd.R_mono (Kd.R_keep (IsS87.apart (show IsS87 w _ g102 t118 t119 from by exact (show IsS87 w _ g102 t118 t119 from ⟨(bk_ K102.out), E102.out⟩)) (rk_ HO_107001.out) (by decide)) hk (fun _ h => h.2)) (fun _ h => h.1)); replace K101 := qa_.mk (qaj_.blk hk (g' := g101) (o := .cells #[.string ⟨#[]⟩, .slice none 0 0, .string ⟨#[]⟩, .string ⟨#[]⟩, .int .i64 0, .int .i64 0, .string ⟨#[]⟩, .string ⟨#[]⟩, .int .i64 0, .int .i64 0, .string ⟨#[]⟩] 26 (0, 0)) (bk_ K101.out) N101_102.out (by simp)); replace K106 := qa_.mk (qaj_.blk hk (g' := g106) (o := .cells #[.string t103, u107001, .string ⟨#[]⟩, .string ⟨#[]⟩, .int .i64 0, .int .i64 0, .string ⟨#[]⟩, .string ⟨#[]⟩, .int .i64 0, .int .i64 0, .string ⟨#[]⟩] 26 (0, 0)) (bk_ K106.out) N106_102.out (by simp)); replace HB := qa_.mk (hb); replace K102 := qa_.mk (hi.1); (try clear hb); (try clear hb2); (try clear hk); (try clear hi); have hnb36 := N106_101.out; have hnc36 := N101_106.out; have hnb37 := N106_102.out; have hnc37 := N102_106.out; obtain ⟨Z38_0, Z38_1, Z38_2, Z38_3, Z38_4, Z38_5, Z38_6, Z38_7, Z38_8, Z38_9, Z38_10, F38⟩ := bc11 K106.out) | ((with_reducible refine qb_ (f := 73) rfl ?_); refine gl_ (some 38) func73 #[.pointer (some ⟨g102, 0, none⟩), .string ⟨#[]⟩] ?_; (with_reducible refine (qbh_.calls g102 t124 t125 ⟨#[]⟩ t126 t127 t128 w _ ?side1 ?side2 ?side3 A32.out).mono ?_); (case side1 => exact (show IsS87 w _ g102 t124 t125 from ⟨(by have b_ := K102; have f_ := N102_106; exact zb_), E102.out⟩)); (case side2 => repeat (first | (with_reducible first | exact HB.out | apply qaw_ | apply qay_ | apply qbu_ | refine qz_ ?_ (IsS87.ge HI102.out) | refine qz_ ?_ E101.out | refine qz_ ?_ E106.out) | exact HB.out)); (case side3 => exact hgv); rintro e w39 ⟨rfl, hi, hb, hk⟩; refine ⟨_, rfl, ?_⟩; replace HO_107001 := qa_.mk (Kd.R_mono (Kd.R_keep (IsS87.apart (show IsS87 w _ g102 t124 t125 from by exact (show IsS87 w _ g102 t124 t125 from ⟨(by have b_ := K102; have f_ := N102_106; exact zb_), E102.out⟩)) (by (with_reducible repeat (first | apply Kd.R_alloc | apply Kd.R_drewN | apply Kd.R_drew)); exact (Kd.R_mono (Kd.R_far (p := ⟨g106, 9, none⟩) (Kd.R_far (p := ⟨g106, 8, none⟩) (Kd.R_far (p := ⟨g106, 7, none⟩) (Kd.R_far (p := ⟨g106, 6, none⟩) (Kd.R_far (p := ⟨g106, 5, none⟩) (Kd.R_far (p := ⟨g106, 4, none⟩) (Kd.R_far (p := ⟨g106, 3, none⟩) (Kd.R_far (p := ⟨g106, 2, none⟩) (Kd.R_types HO_107001.out K106.out (by decide)) (fun _ hk => hk.2) (.string t114)) (fun _ hk => hk.2) (.string t115)) (fun _ hk => hk.2) (.int .i64 t116)) (fun _ hk => hk.2) (.int .i64 t117)) (fun _ hk => hk.2) (.string t120)) (fun _ hk => hk.2) (.string t121)) (fun _ hk => hk.2) (.int .i64 t122)) (fun _ hk => hk.2) (.int .i64 t123)) (fun _ h_ => h_.1))) (by decide)) hk (fun _ h => h.2)) (fun _ h => h.1)); replace K101 := qa_.mk (qaj_.blk hk (g' := g101) (o := .cells #[.string ⟨#[]⟩, .slice none 0 0, .string ⟨#[]⟩, .string ⟨#[]⟩, .int .i64 0, .int .i64 0, .string ⟨#[]⟩, .string ⟨#[]⟩, .int .i64 0, .int .i64 0, .string ⟨#[]⟩] 26 (0, 0)) (by have b_ := K101; have f_ := N101_106; exact zb_) N101_102.out (by simp)); replace K106 := qa_.mk (qaj_.blk hk (g' := g106) (o := .cells #[.string t103, u107001, .string t114, .string t115, .int .i64 t116, .int .i64 t117, .string t120, .string t121, .int .i64 t122, .int .i64 t123, .string ⟨#[]⟩] 26 (0, 0)) (by have b_ := K106; exact zb_) N106_102.out (by simp)); replace HB := qa_.mk (hb); replace K102 := qa_.mk (hi.1); (try clear hb); (try clear hb2); (try clear hk); (try clear hi)))
   (try simp only [Act.put, List.setIfInBounds_toArray, List.set_cons_zero, List.set_cons_succ])
   go_cut [] (fun wc => ∃ (kq : Nat) (x103000_32 : ByteArray) (x103001_32 : Int), qa_ (ql_.j2 kq x103000_32 x103001_32 t103 x107001_2 t114 t115 t116 t117 t120 t121 t122 t123 ⟨#[]⟩ = some (r1, r2, r3, r4, r5, r6, r7, r8, r9, r10, r11, r12)) ∧ qa_ (kq ≤ kj2) ∧ qa_ (Kd.R Kd.string 9 wc w.heap.size (fun _ => True) u107001 x107001_2) ∧ qa_ (wc.heap[g101]? = some (.cells #[.string ⟨#[]⟩, (.slice none 0 0), .string ⟨#[]⟩, .string ⟨#[]⟩, .int .i64 0, .int .i64 0, .string ⟨#[]⟩, .string ⟨#[]⟩, .int .i64 0, .int .i64 0, .string ⟨#[]⟩] 26 (0, 0))) ∧ qa_ (wc.heap[g102]? = some (.cells #[.string x103000_32, .int .i64 x103001_32] 87 (0, 0))) ∧ qa_ (wc.heap[g106]? = some (.cells #[.string t103, u107001, .string t114, .string t115, .int .i64 t116, .int .i64 t117, .string t120, .string t121, .int .i64 t122, .int .i64 t123, .string ⟨#[]⟩] 26 (0, 0))) ∧ qa_ (Below w.heap.size w wc))
   case first =>
    have H := HC33.out; clear HC33; by_cases c40 : t126.toList = ([] : List UInt8)
    ·rw [if_pos c40] at H; have c40b0 := et_ c40; have c40b1 := nf_ c40; (try (have c40b8 : (!t126.toList.isEmpty) = false := (by have h_ := c40b1; rw [qby_] at h_; exact h_))); (try (have c40b9 : t126.toList.isEmpty = true := (by have h_ := c40b1; rw [qby_] at h_; simpa using h_)))
     clear c40; (first | rw [c40b0] | (simp only [i64_w, i32_w]; rw [c40b0]) | skip); (try rw [c40b8])
     have H' := qa_.mk H; clear H; go_wp2
     go_meet
     case rel => exact ⟨_, (t127), (t128), H', ⟨by have := HJ2.out; first | omega | exact Nat.le_refl _⟩, ⟨z28_⟩, ⟨bk_ K101.out⟩, ⟨bk_ K102.out⟩, ⟨bk_ K106.out⟩, ⟨hs_⟩⟩
    rw [if_neg c40] at H; have c40b0 := ef_ c40; have c40b1 := nt_ c40; (try (have c40b8 : (!t126.toList.isEmpty) = true := (by have h_ := c40b1; rw [qby_] at h_; exact h_))); (try (have c40b9 : t126.toList.isEmpty = false := (by have h_ := c40b1; rw [qby_] at h_; simpa using h_)))
    (first | rw [c40b0] | (simp only [i64_w, i32_w]; rw [c40b0]) | skip)
    (try rw [c40b8])
    obtain ⟨⟨t129, t130⟩, A41, H⟩ := bx_ H; dsimp only at H; have H' := qa_.mk H; clear H; go_wp2_with (first | ((with_reducible refine qb_ (f := 74) rfl ?_); refine gl_ (some 41) func74 #[.pointer (some ⟨g102, 0, none⟩), .int .i64 2] ?_; (with_reducible refine (qbt_.calls g102 t127 t128 2 t129 t130 w _ ?side1 ?side2 A41.out).mono ?_); (case side1 => exact (show IsS87 w _ g102 t127 t128 from ⟨(bk_ K102.out), E102.out⟩)); (case side2 => repeat (first | (with_reducible first | exact HB.out | apply qaw_ | apply qay_ | apply qbu_ | refine qz_ ?_ (IsS87.ge HI102.out) | refine qz_ ?_ E101.out | refine qz_ ?_ E106.out) | exact HB.out)); rintro e w42 ⟨rfl, hi, hb, hk⟩; refine ⟨_, rfl, ?_⟩; replace HO_107001 := qa_.mk (Kd.R_mono (Kd.R_keep (IsS87.apart (show IsS87 w _ g102 t127 t128 from by exact (show IsS87 w _ g102 t127 t128 from ⟨(bk_ K102.out), E102.out⟩)) (rk_ HO_107001.out) (by decide)) hk (fun _ h => h.2)) (fun _ h => h.1)); replace K101 := qa_.mk (qaj_.blk hk (g' := g101) (o := .cells #[.string ⟨#[]⟩, .slice none 0 0, .string ⟨#[]⟩, .string ⟨#[]⟩, .int .i64 0, .int .i64 0, .string ⟨#[]⟩, .string ⟨#[]⟩, .int .i64 0, .int .i64 0, .string ⟨#[]⟩] 26 (0, 0)) (bk_ K101.out) N101_102.out (by simp)); replace K106 := qa_.mk (qaj_.blk hk (g' := g106) (o := .cells #[.string t103, u107001, .string t114, .string t115, .int .i64 t116, .int .i64 t117, .string t120, .string t121, .int .i64 t122, .int .i64 t123, .string ⟨#[]⟩] 26 (0, 0)) (bk_ K106.out) N106_102.out (by simp)); replace HB := qa_.mk (hb); replace K102 := qa_.mk (hi.1); (try clear hb); (try clear hb2); (try clear hk); (try clear hi)))
    go_meet
    case rel => exact ⟨_, (t129), (t130), H', ⟨by have := HJ2.out; first | omega | exact Nat.le_refl _⟩, ⟨z28_⟩, ⟨bk_ K101.out⟩, ⟨bk_ K102.out⟩, ⟨bk_ K106.out⟩, ⟨hs_⟩⟩
   case rest =>
    clear HC33; try clear c1
    try clear c2
    try clear p2
    try clear c3
    try clear c4
    try clear c7
    try clear c8
    try clear c9
    try clear c11
    try clear c11b0
    try clear c11b1
    try clear c13
    try clear c15
    try clear c16
    try clear c17
    try clear c20
    try clear c24
    try clear c25
    try clear c27
    try clear c28
    try clear c36
    try clear c37
    try clear c40
    try clear c40b0
    try clear c40b1
    try clear Z10_0 Z10_1 Z10_10 Z10_2 Z10_3 Z10_4 Z10_5 Z10_6 Z10_7 Z10_8 Z10_9
    try clear Z18_0 Z18_1
    try clear Z26_0 Z26_1
    try clear Z29_0 Z29_1
    try clear Z38_0 Z38_1 Z38_10 Z38_2 Z38_3 Z38_4 Z38_5 Z38_6 Z38_7 Z38_8 Z38_9
    try clear F10
    try clear F18
    try clear F26
    try clear F29
    try clear F38
    try clear p2
    obtain ⟨kq, x103000_32, x103001_32, HA, HJ32, HO_107001, K101, K102, K106, HB⟩ := hcut
    cases kq with
    | zero => exact absurd HA.out (by simp [ql_.j2])
    | succ kj32 =>
     have H := HA.out; clear HA; simp only [ql_.j2] at H; by_cases c43 : x103001_32 = 0; rotate_left
     ·rw [if_neg c43] at H; have c43b0 := ef_ c43; have c43b1 := nt_ c43; obtain ⟨rfl, rfl, rfl, rfl, rfl, rfl, rfl, rfl, rfl, rfl, rfl, rfl⟩ := pj12_ H; have hnb77 := N102_101.out; have hnc77 := N101_102.out; have hnb78 := N102_106.out; have hnc78 := N106_102.out; obtain ⟨Z79_0, Z79_1, F79⟩ := bc2 K102.out; have hnb80 := N106_101.out; have hnc80 := N101_106.out; obtain ⟨Z81_0, Z81_1, Z81_2, Z81_3, Z81_4, Z81_5, Z81_6, Z81_7, Z81_8, Z81_9, Z81_10, F81⟩ := bc11 K106.out; try go_wp2
      have n0_ : qa_ (Kd.R Kd.string 9 (wc.setCell ⟨g106, 10, none⟩ (.string x103000_32)) w.heap.size (fun _ => True) u107001 x107001_2) := ⟨by (with_reducible repeat (first | apply Kd.R_alloc | apply Kd.R_drewN | apply Kd.R_drew)); exact Kd.R_mono (Kd.R_far (p := ⟨g106, 10, none⟩) (Kd.R_types HO_107001.out K106.out (by decide)) (fun _ hk => hk.2) (.string x103000_32)) (fun _ hk => trivial)⟩; have n1_ : qa_ ((wc.setCell ⟨g106, 10, none⟩ (.string x103000_32)).heap[g101]? = some (.cells #[.string ⟨#[]⟩, .slice none 0 0, .string ⟨#[]⟩, .string ⟨#[]⟩, .int .i64 0, .int .i64 0, .string ⟨#[]⟩, .string ⟨#[]⟩, .int .i64 0, .int .i64 0, .string ⟨#[]⟩] 26 (0, 0))) := ⟨by have b_ := K101; have f_ := N101_106; exact zb_⟩; have n2_ : qa_ ((wc.setCell ⟨g106, 10, none⟩ (.string x103000_32)).heap[g102]? = some (.cells #[.string x103000_32, .int .i64 x103001_32] 87 (0, 0))) := ⟨by have b_ := K102; have f_ := N102_106; exact zb_⟩; have n3_ : qa_ ((wc.setCell ⟨g106, 10, none⟩ (.string x103000_32)).heap[g106]? = some (.cells #[.string t103, u107001, .string t114, .string t115, .int .i64 t116, .int .i64 t117, .string t120, .string t121, .int .i64 t122, .int .i64 t123, .string x103000_32] 26 (0, 0))) := ⟨by have b_ := K106; exact zb_⟩; have n4_ : qa_ (Below w.heap.size w (wc.setCell ⟨g106, 10, none⟩ (.string x103000_32))) := ⟨hs_⟩; (try clear HO_107001)
      (try clear K101)
      (try clear K102)
      (try clear K106)
      (try clear HB)
      generalize (wc.setCell ⟨g106, 10, none⟩ (.string x103000_32)) = w82 at n0_ n1_ n2_ n3_ n4_ ⊢; have HO_107001 := n0_; have K101 := n1_; have K102 := n2_; have K106 := n3_; have HB := n4_; clear n0_ n1_ n2_ n3_ n4_; replace HO_107001 := qa_.mk (Kd.R_drew HO_107001.out); replace K101 := ad_ K101; replace K102 := ad_ K102; replace K106 := ad_ K106; replace HB := hd_ HB; refine qdm_ (n := 7) (S := fun w' => w'.cell? ⟨g102, 0, none⟩ = some (.string x103000_32) ∧ w'.cell? ⟨g102, 1, none⟩ = some (.int .i64 x103001_32)) (ds := []) (bs 7 0) (by kernel_rfl) rfl rfl (bc2o K102.out) (fun qn_ => ?_); generalize w82.drew = w83 at HO_107001 K101 K102 K106 HB qn_ ⊢; refine pkn_ 0 62 7 1 ?_; refine pkn_ 1 63 7 3 ?_; refine pkn_ 2 64 7 7 ?_; refine pkn_ 3 65 7 15 ?_; refine tkK2n_ 4 66 7 31 qn_ ?_; refine one_ (i := 5) (N := none) (bs 7 63) rfl rfl (by kernel_rfl) (by decide) (fun K hK => ?_); have hs84 : w83.cell? ⟨g101, 0, none⟩ = some (.string ⟨#[]⟩) := (qc_ K101.out 0).trans rfl; have hfs84 := qp_ K101.out 0; have hns84_1 := N102_101.out; have hns84_2 := N106_101.out; have hms84_1 := N101_102.out; have hms84_2 := N101_106.out; have hs85 : w83.cell? ⟨g101, 1, none⟩ = some (.slice none 0 0) := (qc_ K101.out 1).trans rfl; have hfs85 := qp_ K101.out 1; have hns85_1 := N102_101.out; have hns85_2 := N106_101.out; have hms85_1 := N101_102.out; have hms85_2 := N101_106.out; have hs86 : w83.cell? ⟨g101, 2, none⟩ = some (.string ⟨#[]⟩) := (qc_ K101.out 2).trans rfl; have hfs86 := qp_ K101.out 2; have hns86_1 := N102_101.out; have hns86_2 := N106_101.out; have hms86_1 := N101_102.out; have hms86_2 := N101_106.out; have hs87 : w83.cell? ⟨g101, 3, none⟩ = some (.string ⟨#[]⟩) := (qc_ K101.out 3).trans rfl; have hfs87 := qp_ K101.out 3; have hns87_1 := N102_101.out; have hns87_2 := N106_101.out; have hms87_1 := N101_102.out; have hms87_2 := N101_106.out; have hs88 : w83.cell? ⟨g101, 4, none⟩ = some (.int .i64 0) := (qc_ K101.out 4).trans rfl; have hfs88 := qp_ K101.out 4; have hns88_1 := N102_101.out; have hns88_2 := N106_101.out; have hms88_1 := N101_102.out; have hms88_2 := N101_106.out; have hs89 : w83.cell? ⟨g101, 5, none⟩ = some (.int .i64 0) := (qc_ K101.out 5).trans rfl; have hfs89 := qp_ K101.out 5; have hns89_1 := N102_101.out; have hns89_2 := N106_101.out; have hms89_1 := N101_102.out; have hms89_2 := N101_106.out; have hs90 : w83.cell? ⟨g101, 6, none⟩ = some (.string ⟨#[]⟩) := (qc_ K101.out 6).trans rfl; have hfs90 := qp_ K101.out 6; have hns90_1 := N102_101.out; have hns90_2 := N106_101.out; have hms90_1 := N101_102.out; have hms90_2 := N101_106.out; have hs91 : w83.cell? ⟨g101, 7, none⟩ = some (.string ⟨#[]⟩) := (qc_ K101.out 7).trans rfl; have hfs91 := qp_ K101.out 7; have hns91_1 := N102_101.out; have hns91_2 := N106_101.out; have hms91_1 := N101_102.out; have hms91_2 := N101_106.out
      have hs92 : w83.cell? ⟨g101, 8, none⟩ = some (.int .i64 0) := (qc_ K101.out 8).trans rfl; have hfs92 := qp_ K101.out 8; have hns92_1 := N102_101.out; have hns92_2 := N106_101.out; have hms92_1 := N101_102.out; have hms92_2 := N101_106.out; have hs93 : w83.cell? ⟨g101, 9, none⟩ = some (.int .i64 0) := (qc_ K101.out 9).trans rfl; have hfs93 := qp_ K101.out 9; have hns93_1 := N102_101.out; have hns93_2 := N106_101.out; have hms93_1 := N101_102.out; have hms93_2 := N101_106.out; have hs94 : w83.cell? ⟨g101, 10, none⟩ = some (.string ⟨#[]⟩) := (qc_ K101.out 10).trans rfl; have hfs94 := qp_ K101.out 10; have hns94_1 := N102_101.out; have hns94_2 := N106_101.out; have hms94_1 := N101_102.out; have hms94_2 := N101_106.out; refine skip_ (w1 := ?_) (by rfl) rfl ?_ ?_; rotate_left
      ·go_simp
       rfl
      refine hK.out _ _ ⟨((qq_ (p := ⟨g101, _, none⟩) N102_101.out _).trans (((qq_ (p := ⟨g101, _, none⟩) N102_101.out _).trans (((qq_ (p := ⟨g101, _, none⟩) N102_101.out _).trans (((qq_ (p := ⟨g101, _, none⟩) N102_101.out _).trans (((qq_ (p := ⟨g101, _, none⟩) N102_101.out _).trans (((qq_ (p := ⟨g101, _, none⟩) N102_101.out _).trans (((qq_ (p := ⟨g101, _, none⟩) N102_101.out _).trans (((qq_ (p := ⟨g101, _, none⟩) N102_101.out _).trans (((qq_ (p := ⟨g101, _, none⟩) N102_101.out _).trans (((qq_ (p := ⟨g101, _, none⟩) N102_101.out _).trans (((qq_ (p := ⟨g101, _, none⟩) N102_101.out _).trans (qn_.1)))))))))))))))))))))), ((qq_ (p := ⟨g101, _, none⟩) N102_101.out _).trans (((qq_ (p := ⟨g101, _, none⟩) N102_101.out _).trans (((qq_ (p := ⟨g101, _, none⟩) N102_101.out _).trans (((qq_ (p := ⟨g101, _, none⟩) N102_101.out _).trans (((qq_ (p := ⟨g101, _, none⟩) N102_101.out _).trans (((qq_ (p := ⟨g101, _, none⟩) N102_101.out _).trans (((qq_ (p := ⟨g101, _, none⟩) N102_101.out _).trans (((qq_ (p := ⟨g101, _, none⟩) N102_101.out _).trans (((qq_ (p := ⟨g101, _, none⟩) N102_101.out _).trans (((qq_ (p := ⟨g101, _, none⟩) N102_101.out _).trans (((qq_ (p := ⟨g101, _, none⟩) N102_101.out _).trans (qn_.2))))))))))))))))))))))⟩ (fun qn_ => ?_); clear hK K; refine pkn_ 6 3 7 127 ?_; refine done_ (by kernel_rfl) ?_; try go_wp2
      refine bodyPost_ret (qcq_ rfl _ _ g101 26 #[.string ⟨#[]⟩, .slice none 0 0, .string ⟨#[]⟩, .string ⟨#[]⟩, .int .i64 0, .int .i64 0, .string ⟨#[]⟩, .string ⟨#[]⟩, .int .i64 0, .int .i64 0, .string ⟨#[]⟩] (0, 0) _ rfl (by have b_ := K101; exact zb_) underlying26 rfl (by kernel_rfl)) rfl ?_; exact ⟨_, z3_, z6_, hs_⟩
     rw [if_pos c43] at H; have c43b0 := et_ c43; have c43b1 := nf_ c43; clear c43; obtain ⟨t131, A44, H⟩ := bx_ H; by_cases c45 : t131 = 0
     ·rw [if_pos c45] at H; have c45b0 := et_ c45; have c45b1 := nf_ c45; clear c45; obtain ⟨rfl, rfl, rfl, rfl, rfl, rfl, rfl, rfl, rfl, rfl, rfl, rfl⟩ := pj12_ H; have hnb46 := N102_101.out; have hnc46 := N101_102.out; have hnb47 := N102_106.out; have hnc47 := N106_102.out; obtain ⟨Z48_0, Z48_1, F48⟩ := bc2 K102.out; have hnb49 := N106_101.out; have hnc49 := N101_106.out; obtain ⟨Z50_0, Z50_1, Z50_2, Z50_3, Z50_4, Z50_5, Z50_6, Z50_7, Z50_8, Z50_9, Z50_10, F50⟩ := bc11 K106.out; obtain ⟨Ao51, co51, eo51⟩ := Kd.R_slice HO_107001.out; subst eo51; go_wp2_with (first | ((with_reducible refine qb_ (f := 18) rfl ?_); refine gl_ (some 54) func18 #[.agg #[.string t103, .slice Ao51 x107001_2.length co51, .string t114, .string t115, .int .i64 t116, .int .i64 t117, .string t120, .string t121, .int .i64 t122, .int .i64 t123, .string x103000_32]] ?_; (with_reducible refine (qv_.calls kj32 t103 _ _ x107001_2 t114 t115 t116 t117 t120 t121 t122 t123 x103000_32 t131 _ ?side1 ?side2 ?side3 A44.out).mono ?_); (case side1 => refine (Kd.R_reads' (e := 9) (base := w.heap.size) (ok := fun k_ => True) (n := x107001_2.length) (c := co51) ?_).2.2; exact (by (with_reducible repeat (first | apply Kd.R_alloc | apply Kd.R_drewN | apply Kd.R_drew)); exact (Kd.R_mono (Kd.R_far (p := ⟨g106, 10, none⟩) (Kd.R_types HO_107001.out K106.out (by decide)) (fun _ hk => hk.2) (.string x103000_32)) (fun _ h_ => h_.1)))); (case side2 => exact (Kd.R_reads' HO_107001.out).2.1); (case side3 => exact GV.below hgv (hs_)); rintro e w52 ⟨rfl, hb⟩; refine ⟨_, rfl, ?_⟩; replace HO_107001 := qa_.mk (Kd.R_below (by (with_reducible repeat (first | apply Kd.R_alloc | apply Kd.R_drewN | apply Kd.R_drew)); exact (Kd.R_mono (Kd.R_far (p := ⟨g106, 10, none⟩) (Kd.R_types HO_107001.out K106.out (by decide)) (fun _ hk => hk.2) (.string x103000_32)) (fun _ h_ => h_.1))) hb); replace K101 := qa_.mk (qbk_ (g := g101) (o := .cells #[.string ⟨#[]⟩, .slice none 0 0, .string ⟨#[]⟩, .string ⟨#[]⟩, .int .i64 0, .int .i64 0, .string ⟨#[]⟩, .string ⟨#[]⟩, .int .i64 0, .int .i64 0, .string ⟨#[]⟩] 26 (0, 0)) (by have b_ := K101; have f_ := N101_106; exact zb_) hb); replace K102 := qa_.mk (qbk_ (g := g102) (o := .cells #[.string x103000_32, .int .i64 x103001_32] 87 (0, 0)) (by have b_ := K102; have f_ := N102_106; exact zb_) hb); replace K106 := qa_.mk (qbk_ (g := g106) (o := .cells #[.string t103, .slice Ao51 x107001_2.length co51, .string t114, .string t115, .int .i64 t116, .int .i64 t117, .string t120, .string t121, .int .i64 t122, .int .i64 t123, .string x103000_32] 26 (0, 0)) (by have b_ := K106; exact zb_) hb); replace HB := hr_ hb; (try clear hb); (try clear hb2); (try clear hk); (try clear hi); obtain ⟨Z53_0, Z53_1, F53⟩ := bc2 K102.out; obtain ⟨Z54_0, Z54_1, Z54_2, Z54_3, Z54_4, Z54_5, Z54_6, Z54_7, Z54_8, Z54_9, Z54_10, F54⟩ := bc11 K106.out; obtain ⟨Z55_0, Z55_1, Z55_2, Z55_3, Z55_4, Z55_5, Z55_6, Z55_7, Z55_8, Z55_9, Z55_10, F55⟩ := bc11 K101.out))
      refine bodyPost_ret (qcq_ rfl _ _ g101 26 #[.string t103, .slice Ao51 x107001_2.length co51, .string t114, .string t115, .int .i64 t116, .int .i64 t117, .string t120, .string t121, .int .i64 t122, .int .i64 t123, .string x103000_32] (0, 0) _ rfl (by have b_ := K101; have f_ := N101_102; exact zb_) underlying26 rfl (by kernel_rfl)) rfl ?_; exact ⟨_, z3_, by (with_reducible repeat (first | apply Kd.R_alloc | apply Kd.R_drewN | apply Kd.R_drew)); exact Kd.R_mono (Kd.R_far (p := ⟨g101, 10, none⟩) (Kd.R_far (p := ⟨g101, 9, none⟩) (Kd.R_far (p := ⟨g101, 8, none⟩) (Kd.R_far (p := ⟨g101, 7, none⟩) (Kd.R_far (p := ⟨g101, 6, none⟩) (Kd.R_far (p := ⟨g101, 5, none⟩) (Kd.R_far (p := ⟨g101, 4, none⟩) (Kd.R_far (p := ⟨g101, 3, none⟩) (Kd.R_far (p := ⟨g101, 2, none⟩) (Kd.R_far (p := ⟨g101, 1, none⟩) (Kd.R_far (p := ⟨g101, 0, none⟩) (Kd.R_far (p := ⟨g102, 1, none⟩) (Kd.R_types (Kd.R_types HO_107001.out K102.out (by decide)) K101.out (by decide)) (fun _ hk => hk.1.2) (.int .i64 t131)) (fun _ hk => hk.2) (.string t103)) (fun _ hk => hk.2) (.slice Ao51 x107001_2.length co51)) (fun _ hk => hk.2) (.string t114)) (fun _ hk => hk.2) (.string t115)) (fun _ hk => hk.2) (.int .i64 t116)) (fun _ hk => hk.2) (.int .i64 t117)) (fun _ hk => hk.2) (.string t120)) (fun _ hk => hk.2) (.string t121)) (fun _ hk => hk.2) (.int .i64 t122)) (fun _ hk => hk.2) (.int .i64 t123)) (fun _ hk => hk.2) (.string x103000_32)) (fun _ hk => trivial), hs_⟩
     rw [if_neg c45] at H; have c45b0 := ef_ c45; have c45b1 := nt_ c45; obtain ⟨rfl, rfl, rfl, rfl, rfl, rfl, rfl, rfl, rfl, rfl, rfl, rfl⟩ := pj12_ H; have hnb56 := N102_101.out; have hnc56 := N101_102.out; have hnb57 := N102_106.out; have hnc57 := N106_102.out; obtain ⟨Z58_0, Z58_1, F58⟩ := bc2 K102.out; have hnb59 := N106_101.out; have hnc59 := N101_106.out; obtain ⟨Z60_0, Z60_1, Z60_2, Z60_3, Z60_4, Z60_5, Z60_6, Z60_7, Z60_8, Z60_9, Z60_10, F60⟩ := bc11 K106.out; obtain ⟨Ao61, co61, eo61⟩ := Kd.R_slice HO_107001.out; subst eo61; try go_wp2_with (first | ((with_reducible refine qb_ (f := 18) rfl ?_); refine gl_ (some 54) func18 #[.agg #[.string t103, .slice Ao61 x107001_2.length co61, .string t114, .string t115, .int .i64 t116, .int .i64 t117, .string t120, .string t121, .int .i64 t122, .int .i64 t123, .string x103000_32]] ?_; (with_reducible refine (qv_.calls kj32 t103 _ _ x107001_2 t114 t115 t116 t117 t120 t121 t122 t123 x103000_32 t131 _ ?side1 ?side2 ?side3 A44.out).mono ?_); (case side1 => refine (Kd.R_reads' (e := 9) (base := w.heap.size) (ok := fun k_ => True) (n := x107001_2.length) (c := co61) ?_).2.2; exact (by (with_reducible repeat (first | apply Kd.R_alloc | apply Kd.R_drewN | apply Kd.R_drew)); exact (Kd.R_mono (Kd.R_far (p := ⟨g106, 10, none⟩) (Kd.R_types HO_107001.out K106.out (by decide)) (fun _ hk => hk.2) (.string x103000_32)) (fun _ h_ => h_.1)))); (case side2 => exact (Kd.R_reads' HO_107001.out).2.1); (case side3 => exact GV.below hgv (hs_)); rintro e w62 ⟨rfl, hb⟩; refine ⟨_, rfl, ?_⟩; replace HO_107001 := qa_.mk (Kd.R_below (by (with_reducible repeat (first | apply Kd.R_alloc | apply Kd.R_drewN | apply Kd.R_drew)); exact (Kd.R_mono (Kd.R_far (p := ⟨g106, 10, none⟩) (Kd.R_types HO_107001.out K106.out (by decide)) (fun _ hk => hk.2) (.string x103000_32)) (fun _ h_ => h_.1))) hb); replace K101 := qa_.mk (qbk_ (g := g101) (o := .cells #[.string ⟨#[]⟩, .slice none 0 0, .string ⟨#[]⟩, .string ⟨#[]⟩, .int .i64 0, .int .i64 0, .string ⟨#[]⟩, .string ⟨#[]⟩, .int .i64 0, .int .i64 0, .string ⟨#[]⟩] 26 (0, 0)) (by have b_ := K101; have f_ := N101_106; exact zb_) hb); replace K102 := qa_.mk (qbk_ (g := g102) (o := .cells #[.string x103000_32, .int .i64 x103001_32] 87 (0, 0)) (by have b_ := K102; have f_ := N102_106; exact zb_) hb); replace K106 := qa_.mk (qbk_ (g := g106) (o := .cells #[.string t103, .slice Ao61 x107001_2.length co61, .string t114, .string t115, .int .i64 t116, .int .i64 t117, .string t120, .string t121, .int .i64 t122, .int .i64 t123, .string x103000_32] 26 (0, 0)) (by have b_ := K106; exact zb_) hb); replace HB := hr_ hb; (try clear hb); (try clear hb2); (try clear hk); (try clear hi); obtain ⟨Z63_0, Z63_1, F63⟩ := bc2 K102.out)); have n0_ : qa_ (Kd.R Kd.string 9 (w62.setCell ⟨g102, 1, none⟩ (.int .i64 t131)) w.heap.size (fun _ => True) (.slice Ao61 x107001_2.length co61) x107001_2) := ⟨by (with_reducible repeat (first | apply Kd.R_alloc | apply Kd.R_drewN | apply Kd.R_drew)); exact Kd.R_mono (Kd.R_far (p := ⟨g102, 1, none⟩) (Kd.R_types HO_107001.out K102.out (by decide)) (fun _ hk => hk.2) (.int .i64 t131)) (fun _ hk => trivial)⟩
     have n1_ : qa_ ((w62.setCell ⟨g102, 1, none⟩ (.int .i64 t131)).heap[g101]? = some (.cells #[.string ⟨#[]⟩, .slice none 0 0, .string ⟨#[]⟩, .string ⟨#[]⟩, .int .i64 0, .int .i64 0, .string ⟨#[]⟩, .string ⟨#[]⟩, .int .i64 0, .int .i64 0, .string ⟨#[]⟩] 26 (0, 0))) := ⟨by have b_ := K101; have f_ := N101_102; exact zb_⟩; have n2_ : qa_ ((w62.setCell ⟨g102, 1, none⟩ (.int .i64 t131)).heap[g102]? = some (.cells #[.string x103000_32, .int .i64 t131] 87 (0, 0))) := ⟨by have b_ := K102; exact zb_⟩; have n3_ : qa_ ((w62.setCell ⟨g102, 1, none⟩ (.int .i64 t131)).heap[g106]? = some (.cells #[.string t103, .slice Ao61 x107001_2.length co61, .string t114, .string t115, .int .i64 t116, .int .i64 t117, .string t120, .string t121, .int .i64 t122, .int .i64 t123, .string x103000_32] 26 (0, 0))) := ⟨by have b_ := K106; have f_ := N106_102; exact zb_⟩; have n4_ : qa_ (Below w.heap.size w (w62.setCell ⟨g102, 1, none⟩ (.int .i64 t131))) := ⟨hs_⟩; (try clear HO_107001)
     (try clear K101)
     (try clear K102)
     (try clear K106)
     (try clear HB)
     generalize (w62.setCell ⟨g102, 1, none⟩ (.int .i64 t131)) = w64 at n0_ n1_ n2_ n3_ n4_ ⊢; have HO_107001 := n0_; have K101 := n1_; have K102 := n2_; have K106 := n3_; have HB := n4_; clear n0_ n1_ n2_ n3_ n4_; replace HO_107001 := qa_.mk (Kd.R_drew HO_107001.out); replace K101 := ad_ K101; replace K102 := ad_ K102; replace K106 := ad_ K106; replace HB := hd_ HB; refine qdm_ (n := 7) (S := fun w' => w'.cell? ⟨g102, 0, none⟩ = some (.string x103000_32) ∧ w'.cell? ⟨g102, 1, none⟩ = some (.int .i64 t131)) (ds := []) (bs 7 0) (by kernel_rfl) rfl rfl (bc2o K102.out) (fun qn_ => ?_); generalize w64.drew = w65 at HO_107001 K101 K102 K106 HB qn_ ⊢; refine pkn_ 0 62 7 1 ?_; refine pkn_ 1 63 7 3 ?_; refine pkn_ 2 64 7 7 ?_; refine pkn_ 3 65 7 15 ?_; refine tkK2n_ 4 66 7 31 qn_ ?_; refine one_ (i := 5) (N := none) (bs 7 63) rfl rfl (by kernel_rfl) (by decide) (fun K hK => ?_); have hs66 : w65.cell? ⟨g101, 0, none⟩ = some (.string ⟨#[]⟩) := (qc_ K101.out 0).trans rfl; have hfs66 := qp_ K101.out 0; have hns66_1 := N102_101.out; have hns66_2 := N106_101.out; have hms66_1 := N101_102.out; have hms66_2 := N101_106.out; have hs67 : w65.cell? ⟨g101, 1, none⟩ = some (.slice none 0 0) := (qc_ K101.out 1).trans rfl; have hfs67 := qp_ K101.out 1; have hns67_1 := N102_101.out; have hns67_2 := N106_101.out; have hms67_1 := N101_102.out; have hms67_2 := N101_106.out; have hs68 : w65.cell? ⟨g101, 2, none⟩ = some (.string ⟨#[]⟩) := (qc_ K101.out 2).trans rfl; have hfs68 := qp_ K101.out 2; have hns68_1 := N102_101.out; have hns68_2 := N106_101.out; have hms68_1 := N101_102.out; have hms68_2 := N101_106.out; have hs69 : w65.cell? ⟨g101, 3, none⟩ = some (.string ⟨#[]⟩) := (qc_ K101.out 3).trans rfl; have hfs69 := qp_ K101.out 3; have hns69_1 := N102_101.out; have hns69_2 := N106_101.out; have hms69_1 := N101_102.out; have hms69_2 := N101_106.out; have hs70 : w65.cell? ⟨g101, 4, none⟩ = some (.int .i64 0) := (qc_ K101.out 4).trans rfl; have hfs70 := qp_ K101.out 4; have hns70_1 := N102_101.out; have hns70_2 := N106_101.out; have hms70_1 := N101_102.out; have hms70_2 := N101_106.out; have hs71 : w65.cell? ⟨g101, 5, none⟩ = some (.int .i64 0) := (qc_ K101.out 5).trans rfl; have hfs71 := qp_ K101.out 5; have hns71_1 := N102_101.out; have hns71_2 := N106_101.out; have hms71_1 := N101_102.out; have hms71_2 := N101_106.out; have hs72 : w65.cell? ⟨g101, 6, none⟩ = some (.string ⟨#[]⟩) := (qc_ K101.out 6).trans rfl; have hfs72 := qp_ K101.out 6; have hns72_1 := N102_101.out; have hns72_2 := N106_101.out; have hms72_1 := N101_102.out; have hms72_2 := N101_106.out; have hs73 : w65.cell? ⟨g101, 7, none⟩ = some (.string ⟨#[]⟩) := (qc_ K101.out 7).trans rfl; have hfs73 := qp_ K101.out 7; have hns73_1 := N102_101.out; have hns73_2 := N106_101.out; have hms73_1 := N101_102.out; have hms73_2 := N101_106.out; have hs74 : w65.cell? ⟨g101, 8, none⟩ = some (.int .i64 0) := (qc_ K101.out 8).trans rfl
     have hfs74 := qp_ K101.out 8; have hns74_1 := N102_101.out; have hns74_2 := N106_101.out; have hms74_1 := N101_102.out; have hms74_2 := N101_106.out; have hs75 : w65.cell? ⟨g101, 9, none⟩ = some (.int .i64 0) := (qc_ K101.out 9).trans rfl; have hfs75 := qp_ K101.out 9; have hns75_1 := N102_101.out; have hns75_2 := N106_101.out; have hms75_1 := N101_102.out; have hms75_2 := N101_106.out; have hs76 : w65.cell? ⟨g101, 10, none⟩ = some (.string ⟨#[]⟩) := (qc_ K101.out 10).trans rfl; have hfs76 := qp_ K101.out 10; have hns76_1 := N102_101.out; have hns76_2 := N106_101.out; have hms76_1 := N101_102.out; have hms76_2 := N101_106.out; refine skip_ (w1 := ?_) (by rfl) rfl ?_ ?_; rotate_left
     ·go_simp
      rfl
     refine hK.out _ _ ⟨((qq_ (p := ⟨g101, _, none⟩) N102_101.out _).trans (((qq_ (p := ⟨g101, _, none⟩) N102_101.out _).trans (((qq_ (p := ⟨g101, _, none⟩) N102_101.out _).trans (((qq_ (p := ⟨g101, _, none⟩) N102_101.out _).trans (((qq_ (p := ⟨g101, _, none⟩) N102_101.out _).trans (((qq_ (p := ⟨g101, _, none⟩) N102_101.out _).trans (((qq_ (p := ⟨g101, _, none⟩) N102_101.out _).trans (((qq_ (p := ⟨g101, _, none⟩) N102_101.out _).trans (((qq_ (p := ⟨g101, _, none⟩) N102_101.out _).trans (((qq_ (p := ⟨g101, _, none⟩) N102_101.out _).trans (((qq_ (p := ⟨g101, _, none⟩) N102_101.out _).trans (qn_.1)))))))))))))))))))))), ((qq_ (p := ⟨g101, _, none⟩) N102_101.out _).trans (((qq_ (p := ⟨g101, _, none⟩) N102_101.out _).trans (((qq_ (p := ⟨g101, _, none⟩) N102_101.out _).trans (((qq_ (p := ⟨g101, _, none⟩) N102_101.out _).trans (((qq_ (p := ⟨g101, _, none⟩) N102_101.out _).trans (((qq_ (p := ⟨g101, _, none⟩) N102_101.out _).trans (((qq_ (p := ⟨g101, _, none⟩) N102_101.out _).trans (((qq_ (p := ⟨g101, _, none⟩) N102_101.out _).trans (((qq_ (p := ⟨g101, _, none⟩) N102_101.out _).trans (((qq_ (p := ⟨g101, _, none⟩) N102_101.out _).trans (((qq_ (p := ⟨g101, _, none⟩) N102_101.out _).trans (qn_.2))))))))))))))))))))))⟩ (fun qn_ => ?_); clear hK K; refine pkn_ 6 3 7 127 ?_; refine done_ (by kernel_rfl) ?_; try go_wp2
     refine bodyPost_ret (qcq_ rfl _ _ g101 26 #[.string ⟨#[]⟩, .slice none 0 0, .string ⟨#[]⟩, .string ⟨#[]⟩, .int .i64 0, .int .i64 0, .string ⟨#[]⟩, .string ⟨#[]⟩, .int .i64 0, .int .i64 0, .string ⟨#[]⟩] (0, 0) _ rfl (by have b_ := K101; exact zb_) underlying26 rfl (by kernel_rfl)) rfl ?_; exact ⟨_, z3_, z6_, hs_⟩
def qbn_.l0 : Nat → ByteArray → Int → Int → Option (Bool)
 | 0, _, _, _ => none
 | k + 1, x0, x5, x6 => if x6 < x5 then (if 0 ≤ x6 then (if x6 < (x0.size : Int) then (if (bt x0 x6) ≤ 32 then (some false) else (qbn_.l0 k x0 x5 (wrap64 (x6 + 1)))) else (none)) else (none)) else (if (x0.size : Int) ≥ 1 then (some (decide ((x0.size : Int) ≤ 64))) else (some false))
def qbn_.f (k : Nat) (a0 : ByteArray) : Option (Bool) := qbn_.l0 k a0 (a0.size : Int) 0
theorem qbn_.mono_l : ∀ k, (∀ y0 y1 y2, LeO (qbn_.l0 k y0 y1 y2) (qbn_.l0 (k + 1) y0 y1 y2))
 | 0 => fun _ _ _ r h => by simp [qbn_.l0] at h
 | k + 1 => by
  have ih0 := qbn_.mono_l k
  ·intro y0 y1 y2
   unfold qbn_.l0
   have m0_ := @ih0
   exact mz_
theorem qbn_.mono : ∀ a0 k, LeO (qbn_.f k a0) (qbn_.f (k + 1) a0) := by
 intro a0 k; have ih0 := qbn_.mono_l k; unfold qbn_.f; have m0_ := @ih0; exact mz_
theorem qbn_.calls (k : Nat) (a0 : ByteArray) (r : Bool) (w : World) (h : qbn_.f k a0 = some r) :
  Calls Tryz.prog 81 #[.string a0] w fun e w' => e = .returned (.bool r) ∧ Drawn0 w w' := by
 unfold qbn_.f at h; have H := h; clear h; have H' := qa_.mk H; clear H; go_enter func81, ntmps81; go_wp2
 go_loopg [6] k (fun kq v6 w' => ∃ (x6_1 : Int), v6 = .int .i64 x6_1 ∧ qa_ (qbn_.l0 kq a0 (a0.size : Int) x6_1 = some r) ∧ qa_ (kq ≤ k) ∧ Drawn0 w w')
 case atStart => exact ⟨(0), z1_, H', ⟨Nat.le_refl _⟩, z2_⟩
 case round =>
  clear H'; obtain ⟨x6_1, rfl, HA, HK1, ⟨m1, rfl⟩⟩ := hrel
  cases gk with
  | zero => exact absurd HA.out (by simp [qbn_.l0])
  | succ k1 =>
   have H := HA.out; clear HA; simp only [qbn_.l0] at H; by_cases c2 : x6_1 < (a0.size : Int); rotate_left
   ·rw [if_neg c2] at H; have c2b0 := df_ c2; clear c2; by_cases c7 : (a0.size : Int) ≥ 1
    ·rw [if_pos c7] at H; have c7b0 := dt_ c7; have c7b1 : decide (1 ≤ a0.size) = true := decide_eq_true (by omega); clear c7; obtain rfl := oi_ H; go_wp2
     go_ret
     exact ⟨z1_, z2_⟩
    rw [if_neg c7] at H; have c7b0 := df_ c7; have c7b1 : decide (1 ≤ a0.size) = false := decide_eq_false (by omega); clear c7; obtain rfl := oi_ H; go_wp2
    go_ret
    exact ⟨z1_, z2_⟩
   rw [if_pos c2] at H; have c2b0 := dt_ c2; clear c2; by_cases c3 : 0 ≤ x6_1; rotate_left
   ·rw [if_neg c3] at H; exact no_ H
   rw [if_pos c3] at H; have c3b0 := dt_ c3; clear c3; by_cases c4 : x6_1 < (a0.size : Int); rotate_left
   ·rw [if_neg c4] at H; exact no_ H
   rw [if_pos c4] at H; have c4b0 := dt_ c4; clear c4; by_cases c6 : (bt a0 x6_1) ≤ 32
   ·rw [if_pos c6] at H; have c6b0 := dt_ c6; clear c6; obtain rfl := oi_ H; have p5 : 0 ≤ (x6_1 : Int) := y0_; have q5 : x6_1 < (a0.size : Int) := y0_; have hx5 := bt_at a0 x6_1; replace p5 := eq_true p5; replace q5 := eq_true q5; go_wp2
    go_ret
    exact ⟨z1_, z2_⟩
   rw [if_neg c6] at H; have c6b0 := df_ c6; clear c6; have H' := qa_.mk H; clear H; have p5 : 0 ≤ (x6_1 : Int) := y0_; have q5 : x6_1 < (a0.size : Int) := y0_; have hx5 := bt_at a0 x6_1; replace p5 := eq_true p5; replace q5 := eq_true q5; go_wp2
   go_roundg k1
   case measure => have := HK1.out; omega
   case rel => exact ⟨(wrap64 (x6_1 + 1)), z1_, H', ⟨by have := HK1.out; omega⟩, z2_⟩
def qar_.j0 : Nat → Bool → ByteArray → Int → ByteArray → ByteArray → ByteArray → Int → Int → ByteArray → Option (Int)
 | 0, _, _, _, _, _, _, _, _, _ => none
 | k + 1, x29, x141000, x141001, x141002, x141003, x141004, x141005, x141006, x141007 => if x29 = true then (some 1) else (if (x141007.size : Int) > 4096 then (some 4) else (some 0))
def qar_.f (k : Nat) (a0_0 : ByteArray) (a0_1 : Int) (a0_2 : ByteArray) (a0_3 : ByteArray) (a0_4 : ByteArray) (a0_5 : Int) (a0_6 : Int) (a0_7 : ByteArray) : Option (Int) := (qdc_.f k a0_0).bind fun t141 => (if t141 = true then ((qdn_.f a0_1).bind fun t142 => (if t142.toList = ([] : List UInt8) then (qar_.j0 k true a0_0 a0_1 a0_2 a0_3 a0_4 a0_5 a0_6 a0_7) else ((qbn_.f k a0_2).bind fun t143 => (if t143 = true then ((qbf_.f k a0_3 a0_4 a0_5 a0_6).bind fun t144 => (if t144 = true then ((qcu_.f a0_7 ⟨#[0]⟩).bind fun t145 => (qar_.j0 k t145 a0_0 a0_1 a0_2 a0_3 a0_4 a0_5 a0_6 a0_7)) else (qar_.j0 k true a0_0 a0_1 a0_2 a0_3 a0_4 a0_5 a0_6 a0_7))) else (qar_.j0 k true a0_0 a0_1 a0_2 a0_3 a0_4 a0_5 a0_6 a0_7))))) else (qar_.j0 k true a0_0 a0_1 a0_2 a0_3 a0_4 a0_5 a0_6 a0_7))
theorem qar_.mono_l : ∀ k, (∀ y0 y1 y2 y3 y4 y5 y6 y7 y8, LeO (qar_.j0 k y0 y1 y2 y3 y4 y5 y6 y7 y8) (qar_.j0 (k + 1) y0 y1 y2 y3 y4 y5 y6 y7 y8))
 | 0 => fun _ _ _ _ _ _ _ _ _ r h => by simp [qar_.j0] at h
 | k + 1 => by
  have ih0 := qar_.mono_l k
  ·intro y0 y1 y2 y3 y4 y5 y6 y7 y8
   unfold qar_.j0
   have m0_ := @ih0
   have m1_ := @qbf_.mono
   have m2_ := @qbn_.mono
   have m3_ := @qdc_.mono
   exact mz_
theorem qar_.mono : ∀ a0 a1 a2 a3 a4 a5 a6 a7 k, LeO (qar_.f k a0 a1 a2 a3 a4 a5 a6 a7) (qar_.f (k + 1) a0 a1 a2 a3 a4 a5 a6 a7) := by
 intro a0 a1 a2 a3 a4 a5 a6 a7 k; have ih0 := qar_.mono_l k; unfold qar_.f; have m0_ := @ih0; have m1_ := @qbf_.mono; have m2_ := @qbn_.mono; have m3_ := @qdc_.mono; exact mz_
theorem qar_.calls (k : Nat) (a0_0 : ByteArray) (a0_1 : Int) (a0_2 : ByteArray) (a0_3 : ByteArray) (a0_4 : ByteArray) (a0_5 : Int) (a0_6 : Int) (a0_7 : ByteArray) (r : Int) (w : World) (hgv : GV w) (h : qar_.f k a0_0 a0_1 a0_2 a0_3 a0_4 a0_5 a0_6 a0_7 = some r) :
  Calls Tryz.prog 27 #[.agg #[.string a0_0, .int .i64 a0_1, .string a0_2, .string a0_3, .string a0_4, .int .i64 a0_5, .int .i64 a0_6, .string a0_7]] w fun e w' => e = .returned (.int .i64 r) ∧ Below w.heap.size w w' := by
 have hu37 := underlying37; have hu24 := underlying24; have HB := qa_.mk (Below.refl w.heap.size w); unfold qar_.f at h; have H := h; clear h; have HC2 := qa_.mk H; clear H; go_enter func27, ntmps27; go_upto_region 1 with (first | ((with_reducible refine qh_ (N := 1) rfl ?_); refine be_ (cs := #[.string a0_0, .int .i64 a0_1, .string a0_2, .string a0_3, .string a0_4, .int .i64 a0_5, .int .i64 a0_6, .string a0_7]) (t := 37) ?_; intro g140 hg w3 hbox hb; have K140 := qa_.mk (hbox); have W140 := ag_ hg HB; have E140 := ag_ hg HB; replace HB := ah_ HB hb; clear hb hbox hg)); (try simp only [Act.put, List.setIfInBounds_toArray, List.set_cons_zero, List.set_cons_succ])
 go_cut [29] (fun v29 wc => ∃ (kq : Nat) (x29_1 : Bool), v29 = .bool x29_1 ∧ qa_ (qar_.j0 kq x29_1 a0_0 a0_1 a0_2 a0_3 a0_4 a0_5 a0_6 a0_7 = some r) ∧ qa_ (kq ≤ k) ∧ qa_ (wc.heap[g140]? = some (.cells #[.string a0_0, .int .i64 a0_1, .string a0_2, .string a0_3, .string a0_4, .int .i64 a0_5, .int .i64 a0_6, .string a0_7] 37 (0, 0))) ∧ qa_ (Below w.heap.size w wc))
 case first =>
  have H := HC2.out; clear HC2; obtain ⟨t141, A4, H⟩ := bx_ H; by_cases c5 : t141 = true; rotate_left
  ·replace c5 := Bool.eq_false_iff.mpr c5; subst c5; rw [if_neg nft_] at H; have H' := qa_.mk H; clear H; obtain ⟨Z27_0, Z27_1, Z27_2, Z27_3, Z27_4, Z27_5, Z27_6, Z27_7, F27⟩ := bc8 K140.out; go_wp2_with (first | ((with_reducible refine qb_ (f := 65) rfl ?_); refine gl_ (some 5) func65 #[.string a0_0] ?_; refine cm_ (qdc_.calls k a0_0 false _ A4.out) ?_; rintro w' ⟨nd, rfl⟩)); go_meet
   case rel => exact ⟨_, (true), z1_, H', ⟨z4_⟩, ⟨bk_ K140.out⟩, ⟨hs_⟩⟩
  subst c5; rw [if_pos rfl] at H; obtain ⟨t142, A6, H⟩ := bx_ H; by_cases c7 : t142.toList = ([] : List UInt8)
  ·rw [if_pos c7] at H; have c7b0 := et_ c7; have c7b1 := nf_ c7; clear c7; (first | rw [c7b0] | (simp only [i64_w, i32_w]; rw [c7b0]) | skip); have H' := qa_.mk H; clear H; obtain ⟨Z8_0, Z8_1, Z8_2, Z8_3, Z8_4, Z8_5, Z8_6, Z8_7, F8⟩ := bc8 K140.out; go_wp2_with (first | ((with_reducible refine qb_ (f := 65) rfl ?_); refine gl_ (some 5) func65 #[.string a0_0] ?_; refine cm_ (qdc_.calls k a0_0 true _ A4.out) ?_; rintro w' ⟨nd, rfl⟩) | (go_at_call 79; (with_reducible refine (qdn_.calls a0_1 t142 _ A6.out).mono ?_); rintro e w9 ⟨rfl, hb⟩; replace K140 := ab_ K140 hb; replace HB := hr_ hb; (try clear hb); (try clear hb2); (try clear hk); (try clear hi)))
   go_meet
   case rel => exact ⟨_, (true), z1_, H', ⟨z4_⟩, ⟨bk_ K140.out⟩, ⟨hs_⟩⟩
  rw [if_neg c7] at H; have c7b0 := ef_ c7; have c7b1 := nt_ c7; (first | rw [c7b0] | (simp only [i64_w, i32_w]; rw [c7b0]) | skip); obtain ⟨t143, A10, H⟩ := bx_ H; by_cases c11 : t143 = true; rotate_left
  ·replace c11 := Bool.eq_false_iff.mpr c11; subst c11; rw [if_neg nft_] at H; have H' := qa_.mk H; clear H; obtain ⟨Z24_0, Z24_1, Z24_2, Z24_3, Z24_4, Z24_5, Z24_6, Z24_7, F24⟩ := bc8 K140.out; go_wp2_with (first | ((with_reducible refine qb_ (f := 65) rfl ?_); refine gl_ (some 5) func65 #[.string a0_0] ?_; refine cm_ (qdc_.calls k a0_0 true _ A4.out) ?_; rintro w' ⟨nd, rfl⟩) | (go_at_call 79; (with_reducible refine (qdn_.calls a0_1 t142 _ A6.out).mono ?_); rintro e w25 ⟨rfl, hb⟩; replace K140 := ab_ K140 hb; replace HB := hr_ hb; (try clear hb); (try clear hb2); (try clear hk); (try clear hi); obtain ⟨Z26_0, Z26_1, Z26_2, Z26_3, Z26_4, Z26_5, Z26_6, Z26_7, F26⟩ := bc8 K140.out) | (go_at_call 81; (with_reducible refine (qbn_.calls k a0_2 false _ A10.out).mono ?_); rintro e w' ⟨rfl, ⟨nd, rfl⟩⟩)); go_meet
   case rel => exact ⟨_, (true), z1_, H', ⟨z4_⟩, ⟨bk_ K140.out⟩, ⟨hs_⟩⟩
  subst c11; rw [if_pos rfl] at H; obtain ⟨t144, A12, H⟩ := bx_ H; by_cases c13 : t144 = true; rotate_left
  ·replace c13 := Bool.eq_false_iff.mpr c13; subst c13; rw [if_neg nft_] at H; have H' := qa_.mk H; clear H; obtain ⟨Z20_0, Z20_1, Z20_2, Z20_3, Z20_4, Z20_5, Z20_6, Z20_7, F20⟩ := bc8 K140.out; go_wp2_with (first | ((with_reducible refine qb_ (f := 65) rfl ?_); refine gl_ (some 5) func65 #[.string a0_0] ?_; refine cm_ (qdc_.calls k a0_0 true _ A4.out) ?_; rintro w' ⟨nd, rfl⟩) | (go_at_call 79; (with_reducible refine (qdn_.calls a0_1 t142 _ A6.out).mono ?_); rintro e w21 ⟨rfl, hb⟩; replace K140 := ab_ K140 hb; replace HB := hr_ hb; (try clear hb); (try clear hb2); (try clear hk); (try clear hi); obtain ⟨Z22_0, Z22_1, Z22_2, Z22_3, Z22_4, Z22_5, Z22_6, Z22_7, F22⟩ := bc8 K140.out) | (go_at_call 81; (with_reducible refine (qbn_.calls k a0_2 true _ A10.out).mono ?_); rintro e w' ⟨rfl, ⟨nd, rfl⟩⟩) | (go_at_call 67; (with_reducible refine (qbf_.calls k a0_3 a0_4 a0_5 a0_6 false _ A12.out).mono ?_); rintro e w23 ⟨rfl, hb⟩; replace K140 := ab_ K140 hb; replace HB := hr_ hb; (try clear hb); (try clear hb2); (try clear hk); (try clear hi)))
   go_meet
   case rel => exact ⟨_, (true), z1_, H', ⟨z4_⟩, ⟨bk_ K140.out⟩, ⟨hs_⟩⟩
  subst c13; rw [if_pos rfl] at H; obtain ⟨t145, A14, H⟩ := bx_ H; have H' := qa_.mk H; clear H; obtain ⟨Z15_0, Z15_1, Z15_2, Z15_3, Z15_4, Z15_5, Z15_6, Z15_7, F15⟩ := bc8 K140.out; go_wp2_with (first | ((with_reducible refine qb_ (f := 65) rfl ?_); refine gl_ (some 5) func65 #[.string a0_0] ?_; refine cm_ (qdc_.calls k a0_0 true _ A4.out) ?_; rintro w' ⟨nd, rfl⟩) | (go_at_call 79; (with_reducible refine (qdn_.calls a0_1 t142 _ A6.out).mono ?_); rintro e w16 ⟨rfl, hb⟩; replace K140 := ab_ K140 hb; replace HB := hr_ hb; (try clear hb); (try clear hb2); (try clear hk); (try clear hi); obtain ⟨Z17_0, Z17_1, Z17_2, Z17_3, Z17_4, Z17_5, Z17_6, Z17_7, F17⟩ := bc8 K140.out) | (go_at_call 81; (with_reducible refine (qbn_.calls k a0_2 true _ A10.out).mono ?_); rintro e w' ⟨rfl, ⟨nd, rfl⟩⟩) | (go_at_call 67; (with_reducible refine (qbf_.calls k a0_3 a0_4 a0_5 a0_6 true _ A12.out).mono ?_); rintro e w18 ⟨rfl, hb⟩; replace K140 := ab_ K140 hb; replace HB := hr_ hb; (try clear hb); (try clear hb2); (try clear hk); (try clear hi); obtain ⟨Z19_0, Z19_1, Z19_2, Z19_3, Z19_4, Z19_5, Z19_6, Z19_7, F19⟩ := bc8 K140.out) | (go_at_call 68; (with_reducible refine (qcu_.calls a0_7 ⟨#[0]⟩ t145 _ ?side1 A14.out).mono ?_); (case side1 => exact GV.below hgv (hs_)); rintro e w' ⟨rfl, ⟨nd, rfl⟩⟩)); go_meet
  case rel => exact ⟨_, (t145), z1_, H', ⟨z4_⟩, ⟨bk_ K140.out⟩, ⟨hs_⟩⟩
 case rest =>
  clear HC2; try clear c1
  try clear c2
  try clear p2
  try clear c5
  try clear c6
  try clear c7
  try clear c7b0
  try clear c7b1
  try clear c11
  try clear c13
  try clear c27
  try clear Z15_0 Z15_1 Z15_2 Z15_3 Z15_4 Z15_5 Z15_6 Z15_7
  try clear Z17_0 Z17_1 Z17_2 Z17_3 Z17_4 Z17_5 Z17_6 Z17_7
  try clear Z19_0 Z19_1 Z19_2 Z19_3 Z19_4 Z19_5 Z19_6 Z19_7
  try clear Z20_0 Z20_1 Z20_2 Z20_3 Z20_4 Z20_5 Z20_6 Z20_7
  try clear Z22_0 Z22_1 Z22_2 Z22_3 Z22_4 Z22_5 Z22_6 Z22_7
  try clear Z24_0 Z24_1 Z24_2 Z24_3 Z24_4 Z24_5 Z24_6 Z24_7
  try clear Z26_0 Z26_1 Z26_2 Z26_3 Z26_4 Z26_5 Z26_6 Z26_7
  try clear Z27_0 Z27_1 Z27_2 Z27_3 Z27_4 Z27_5 Z27_6 Z27_7
  try clear Z8_0 Z8_1 Z8_2 Z8_3 Z8_4 Z8_5 Z8_6 Z8_7
  try clear F15
  try clear F17
  try clear F19
  try clear F20
  try clear F22
  try clear F24
  try clear F26
  try clear F27
  try clear F8
  obtain ⟨kq, x29_1, rfl, HA, HJ1, K140, HB⟩ := hcut
  cases kq with
  | zero => exact absurd HA.out (by simp [qar_.j0])
  | succ kj1 =>
   have H := HA.out; clear HA; simp only [qar_.j0] at H; by_cases c28 : x29_1 = true
   ·subst c28; rw [if_pos rfl] at H; obtain rfl := oi_ H; go_wp2
    go_ret
    exact ⟨z3_, hs_⟩
   replace c28 := Bool.eq_false_iff.mpr c28; subst c28; rw [if_neg nft_] at H; by_cases c29 : (a0_7.size : Int) > 4096
   ·rw [if_pos c29] at H; have c29b0 := dt_ c29; have c29b1 : decide (4096 < a0_7.size) = true := decide_eq_true (by omega); clear c29; obtain rfl := oi_ H; obtain ⟨Z30_0, Z30_1, Z30_2, Z30_3, Z30_4, Z30_5, Z30_6, Z30_7, F30⟩ := bc8 K140.out; go_wp2
    go_ret
    exact ⟨z3_, hs_⟩
   rw [if_neg c29] at H; have c29b0 := df_ c29; have c29b1 : decide (4096 < a0_7.size) = false := decide_eq_false (by omega); clear c29; obtain rfl := oi_ H; obtain ⟨Z31_0, Z31_1, Z31_2, Z31_3, Z31_4, Z31_5, Z31_6, Z31_7, F31⟩ := bc8 K140.out; go_wp2
   go_ret
   exact ⟨z3_, hs_⟩
mutual
def qae_.j0 : Nat → ByteArray → Int → ByteArray → Int → ByteArray → ByteArray → ByteArray → Int → Int → ByteArray → Option (ByteArray × Int × ByteArray × ByteArray × ByteArray × Int × Int × ByteArray × Int)
 | 0, _, _, _, _, _, _, _, _, _, _ => none
 | k + 1, x103000, x103001, x107000, x107001, x107002, x107003, x107004, x107005, x107006, x107007 => (qbh_.f x103000 x103001 ⟨#[116, 97, 103, 32]⟩).bind fun bt113 => ((qbg_.f k bt113.2.1 bt113.2.2 ⟨#[116, 97, 103, 103, 101, 114, 32]⟩).bind fun bt116 => ((qbh_.f bt116.2.2.2.2.1 bt116.2.2.2.2.2 ⟨#[]⟩).bind fun bt122 => (if bt122.1.toList = ([] : List UInt8) then (qae_.j1 k bt122.2.1 bt122.2.2 x107000 x107001 bt113.1 bt116.1 bt116.2.1 bt116.2.2.1 bt116.2.2.2.1 x107007) else ((qbt_.f bt122.2.1 bt122.2.2 2).bind fun bt125 => (qae_.j1 k bt125.1 bt125.2 x107000 x107001 bt113.1 bt116.1 bt116.2.1 bt116.2.2.1 bt116.2.2.2.1 x107007)))))
def qae_.j1 : Nat → ByteArray → Int → ByteArray → Int → ByteArray → ByteArray → ByteArray → Int → Int → ByteArray → Option (ByteArray × Int × ByteArray × ByteArray × ByteArray × Int × Int × ByteArray × Int)
 | 0, _, _, _, _, _, _, _, _, _, _ => none
 | k + 1, x103000, x103001, x107000, x107001, x107002, x107003, x107004, x107005, x107006, x107007 => if x103001 = 0 then ((qar_.f k x107000 x107001 x107002 x107003 x107004 x107005 x107006 x103000).bind fun t127 => (if t127 = 0 then (some (x107000, x107001, x107002, x107003, x107004, x107005, x107006, x103000, 0)) else (some ((⟨#[]⟩ : ByteArray), 0, (⟨#[]⟩ : ByteArray), (⟨#[]⟩ : ByteArray), (⟨#[]⟩ : ByteArray), 0, 0, (⟨#[]⟩ : ByteArray), t127)))) else (some ((⟨#[]⟩ : ByteArray), 0, (⟨#[]⟩ : ByteArray), (⟨#[]⟩ : ByteArray), (⟨#[]⟩ : ByteArray), 0, 0, (⟨#[]⟩ : ByteArray), x103001))
end
def qae_.f (k : Nat) (a0 : ByteArray) : Option (ByteArray × Int × ByteArray × ByteArray × ByteArray × Int × Int × ByteArray × Int) := (qbq_.f k a0 0 ⟨#[111, 98, 106, 101, 99, 116, 32]⟩).bind fun bt103 => ((qbh_.f bt103.2.1 bt103.2.2 ⟨#[116, 121, 112, 101, 32]⟩).bind fun bt107 => ((qfn_.f bt107.1).bind fun t110 => (if t110 = 0 then ((qbt_.f bt107.2.1 bt107.2.2 2).bind fun bt111 => (qae_.j0 k bt111.1 bt111.2 bt103.1 t110 ⟨#[]⟩ ⟨#[]⟩ ⟨#[]⟩ 0 0 ⟨#[]⟩)) else (qae_.j0 k bt107.2.1 bt107.2.2 bt103.1 t110 ⟨#[]⟩ ⟨#[]⟩ ⟨#[]⟩ 0 0 ⟨#[]⟩))))
theorem qae_.mono_l : ∀ k, (∀ y0 y1 y2 y3 y4 y5 y6 y7 y8 y9, LeO (qae_.j0 k y0 y1 y2 y3 y4 y5 y6 y7 y8 y9) (qae_.j0 (k + 1) y0 y1 y2 y3 y4 y5 y6 y7 y8 y9)) ∧ (∀ y0 y1 y2 y3 y4 y5 y6 y7 y8 y9, LeO (qae_.j1 k y0 y1 y2 y3 y4 y5 y6 y7 y8 y9) (qae_.j1 (k + 1) y0 y1 y2 y3 y4 y5 y6 y7 y8 y9))
 | 0 => ⟨fun _ _ _ _ _ _ _ _ _ _ r h => by simp [qae_.j0] at h, fun _ _ _ _ _ _ _ _ _ _ r h => by simp [qae_.j1] at h⟩
 | k + 1 => by
  obtain ⟨ih0, ih1⟩ := qae_.mono_l k
  refine ⟨?_, ?_⟩
  ·intro y0 y1 y2 y3 y4 y5 y6 y7 y8 y9
   unfold qae_.j0
   have m0_ := @ih0
   have m1_ := @ih1
   have m2_ := @qar_.mono
   have m3_ := @qbq_.mono
   have m4_ := @qbg_.mono
   exact mz_
  ·intro y0 y1 y2 y3 y4 y5 y6 y7 y8 y9
   unfold qae_.j1
   have m0_ := @ih0
   have m1_ := @ih1
   have m2_ := @qar_.mono
   have m3_ := @qbq_.mono
   have m4_ := @qbg_.mono
   exact mz_
theorem qae_.mono : ∀ a0 k, LeO (qae_.f k a0) (qae_.f (k + 1) a0) := by
 intro a0 k; obtain ⟨ih0, ih1⟩ := qae_.mono_l k; unfold qae_.f; have m0_ := @ih0; have m1_ := @ih1; have m2_ := @qar_.mono; have m3_ := @qbq_.mono; have m4_ := @qbg_.mono; exact mz_
theorem qae_.calls (k : Nat) (a0 : ByteArray) (r1 : ByteArray) (r2 : Int) (r3 : ByteArray) (r4 : ByteArray) (r5 : ByteArray) (r6 : Int) (r7 : Int) (r8 : ByteArray) (r9 : Int) (w : World) (hgv : GV w) (h : qae_.f k a0 = some (r1, r2, r3, r4, r5, r6, r7, r8, r9)) :
  Calls Tryz.prog 23 #[.string a0] w fun e w' => e = .returned (.tuple #[.agg #[.string r1, .int .i64 r2, .string r3, .string r4, .string r5, .int .i64 r6, .int .i64 r7, .string r8], .int .i64 r9]) ∧ Below w.heap.size w w' := by
 have hu37 := underlying37; have hu87 := underlying87; have hu24 := underlying24; have HB := qa_.mk (Below.refl w.heap.size w); unfold qae_.f at h; have H := h; clear h; obtain ⟨⟨t103, t104, t105⟩, A2, H⟩ := bx_ H; dsimp only at H; obtain ⟨⟨t107, t108, t109⟩, A3, H⟩ := bx_ H; dsimp only at H; obtain ⟨t110, A4, H⟩ := bx_ H; have HC5 := qa_.mk H; clear H; go_enter func23, ntmps23; go_upto_if 18 with (first | ((with_reducible refine qh_ (N := 2) rfl ?_); refine be_ (cs := #[.string ⟨#[]⟩, .int .i64 0, .string ⟨#[]⟩, .string ⟨#[]⟩, .string ⟨#[]⟩, .int .i64 0, .int .i64 0, .string ⟨#[]⟩]) (t := 37) ?_; intro g101 hg w6 hbox hb; have K101 := qa_.mk (hbox); have W101 := ag_ hg HB; have E101 := ag_ hg HB; replace HB := ah_ HB hb; clear hb hbox hg) | ((with_reducible refine qh_ (N := 8) rfl ?_); refine be_ (cs := #[.string a0, .int .i64 0]) (t := 87) ?_; intro g102 hg w7 hbox hb; have K102 := qa_.mk (hbox); have W102 := qa_.mk ((by rw [hg]; exact (qj_ (hs_)) : w.heap.size ≤ g102)); have E102 := qa_.mk ((by rw [hg]; exact (qj_ (hs_)) : w.heap.size ≤ g102)); replace HB := hr_ hb; have N101_102 := qa_.mk (nl2_ hg K101.out); have N102_101 := qa_.mk (ng2_ hg K101.out); replace K101 := ab_ K101 hb; clear hb hbox hg) | ((with_reducible refine qb_ (f := 70) rfl ?_); refine gl_ (some 10) func70 #[.pointer (some ⟨g102, 0, none⟩), .string ⟨#[111, 98, 106, 101, 99, 116, 32]⟩] ?_; (with_reducible refine (qbq_.calls k g102 a0 0 ⟨#[111, 98, 106, 101, 99, 116, 32]⟩ t103 t104 t105 w _ ?side1 ?side2 ?side3 A2.out).mono ?_); (case side1 => exact (show IsS87 w _ g102 a0 0 from ⟨(bk_ K102.out), E102.out⟩)); (case side2 => repeat (first | (with_reducible first | exact HB.out | apply qaw_ | apply qay_ | apply qbu_ | refine qz_ ?_ (IsS87.ge HI102.out) | refine qz_ ?_ E101.out) | exact HB.out)); (case side3 => exact hgv); rintro e w8 ⟨rfl, hi, hb, hk⟩; refine ⟨_, rfl, ?_⟩; replace K101 := qa_.mk (qaj_.blk hk (g' := g101) (o := .cells #[.string ⟨#[]⟩, .int .i64 0, .string ⟨#[]⟩, .string ⟨#[]⟩, .string ⟨#[]⟩, .int .i64 0, .int .i64 0, .string ⟨#[]⟩] 37 (0, 0)) (bk_ K101.out) N101_102.out (by simp)); replace HB := qa_.mk (hb); replace K102 := qa_.mk (hi.1); (try clear hb); (try clear hb2); (try clear hk); (try clear hi)) | ((with_reducible refine qh_ (N := 5) rfl ?_); refine be_ (cs := #[.string ⟨#[]⟩, .int .i64 0, .string ⟨#[]⟩, .string ⟨#[]⟩, .string ⟨#[]⟩, .int .i64 0, .int .i64 0, .string ⟨#[]⟩]) (t := 37) ?_; intro g106 hg w9 hbox hb; have K106 := qa_.mk (hbox); have W106 := qa_.mk ((by rw [hg]; exact (qj_ (hs_)) : w.heap.size ≤ g106)); have E106 := qa_.mk ((by rw [hg]; exact (qj_ (hs_)) : w.heap.size ≤ g106)); replace HB := hr_ hb; have N101_106 := qa_.mk (nl2_ hg K101.out); have N106_101 := qa_.mk (ng2_ hg K101.out); replace K101 := ab_ K101 hb; have N102_106 := qa_.mk (nl2_ hg K102.out); have N106_102 := qa_.mk (ng2_ hg K102.out); replace K102 := ab_ K102 hb; clear hb hbox hg; have hnb10 := N106_101.out; have hnc10 := N101_106.out; have hnb11 := N106_102.out; have hnc11 := N102_106.out; obtain ⟨Z12_0, Z12_1, Z12_2, Z12_3, Z12_4, Z12_5, Z12_6, Z12_7, F12⟩ := bc8 K106.out) | ((with_reducible refine qb_ (f := 73) rfl ?_); refine gl_ (some 13) func73 #[.pointer (some ⟨g102, 0, none⟩), .string ⟨#[116, 121, 112, 101, 32]⟩] ?_; (with_reducible refine (qbh_.calls g102 t104 t105 ⟨#[116, 121, 112, 101, 32]⟩ t107 t108 t109 w _ ?side1 ?side2 ?side3 A3.out).mono ?_); (case side1 => exact (show IsS87 w _ g102 t104 t105 from ⟨(by have b_ := K102; have f_ := N102_106; exact zb_), E102.out⟩)); (case side2 => repeat (first | (with_reducible first | exact HB.out | apply qaw_ | apply qay_ | apply qbu_ | refine qz_ ?_ (IsS87.ge HI102.out) | refine qz_ ?_ E101.out | refine qz_ ?_ E106.out) | exact HB.out)); (case side3 => exact hgv); rintro e w13 ⟨rfl, hi, hb, hk⟩; refine ⟨_, rfl, ?_⟩; replace K101 := qa_.mk (qaj_.blk hk (g' := g101) (o := .cells #[.string ⟨#[]⟩, .int .i64 0, .string ⟨#[]⟩, .string ⟨#[]⟩, .string ⟨#[]⟩, .int .i64 0, .int .i64 0, .string ⟨#[]⟩] 37 (0, 0)) (by have b_ := K101; have f_ := N101_106; exact zb_) N101_102.out (by simp)); replace K106 := qa_.mk (qaj_.blk hk (g' := g106) (o := .cells #[.string t103, .int .i64 0, .string ⟨#[]⟩, .string ⟨#[]⟩, .string ⟨#[]⟩, .int .i64 0, .int .i64 0, .string ⟨#[]⟩] 37 (0, 0)) (by have b_ := K106; exact zb_) N106_102.out (by simp)); replace HB := qa_.mk (hb); replace K102 := qa_.mk (hi.1); (try clear hb); (try clear hb2); (try clear hk); (try clear hi)) | ((with_reducible refine qb_ (f := 77) rfl ?_); refine gl_ (some 14) func77 #[.string t107] ?_; refine cm_ (qfn_.calls t107 t110 _ A4.out) fun w14 hb => ?_; replace K101 := ab_ K101 hb; replace K102 := ab_ K102 hb; replace K106 := ab_ K106 hb; replace HB := hr_ hb; (try clear hb); (try clear hb2); (try clear hk); (try clear hi); obtain ⟨Z15_0, Z15_1, Z15_2, Z15_3, Z15_4, Z15_5, Z15_6, Z15_7, F15⟩ := bc8 K106.out))
 (try simp only [Act.put, List.setIfInBounds_toArray, List.set_cons_zero, List.set_cons_succ])
 go_cut [] (fun wc => ∃ (kq : Nat) (x103000_4 : ByteArray) (x103001_4 : Int), qa_ (qae_.j0 kq x103000_4 x103001_4 t103 t110 ⟨#[]⟩ ⟨#[]⟩ ⟨#[]⟩ 0 0 ⟨#[]⟩ = some (r1, r2, r3, r4, r5, r6, r7, r8, r9)) ∧ qa_ (kq ≤ k) ∧ qa_ (wc.heap[g101]? = some (.cells #[.string ⟨#[]⟩, .int .i64 0, .string ⟨#[]⟩, .string ⟨#[]⟩, .string ⟨#[]⟩, .int .i64 0, .int .i64 0, .string ⟨#[]⟩] 37 (0, 0))) ∧ qa_ (wc.heap[g102]? = some (.cells #[.string x103000_4, .int .i64 x103001_4] 87 (0, 0))) ∧ qa_ (wc.heap[g106]? = some (.cells #[.string t103, .int .i64 t110, .string ⟨#[]⟩, .string ⟨#[]⟩, .string ⟨#[]⟩, .int .i64 0, .int .i64 0, .string ⟨#[]⟩] 37 (0, 0))) ∧ qa_ (Below w.heap.size w wc))
 case first =>
  have H := HC5.out; clear HC5; by_cases c16 : t110 = 0; rotate_left
  ·rw [if_neg c16] at H; have c16b0 := ef_ c16; have c16b1 := nt_ c16; (first | rw [c16b0] | (simp only [i64_w, i32_w]; rw [c16b0]) | skip); (try rw [c16b8])
   have H' := qa_.mk H; clear H; go_wp2
   go_meet
   case rel => exact ⟨_, (t108), (t109), H', ⟨z4_⟩, ⟨by have b_ := K101; have f_ := N101_106; exact zb_⟩, ⟨by have b_ := K102; have f_ := N102_106; exact zb_⟩, ⟨by have b_ := K106; exact zb_⟩, ⟨hs_⟩⟩
  rw [if_pos c16] at H; have c16b0 := et_ c16; have c16b1 := nf_ c16; clear c16; (first | rw [c16b0] | (simp only [i64_w, i32_w]; rw [c16b0]) | skip); (try rw [c16b8])
  obtain ⟨⟨t111, t112⟩, A17, H⟩ := bx_ H; dsimp only at H; have H' := qa_.mk H; clear H; go_wp2_with (first | ((with_reducible refine qb_ (f := 74) rfl ?_); refine gl_ (some 20) func74 #[.pointer (some ⟨g102, 0, none⟩), .int .i64 2] ?_; (with_reducible refine (qbt_.calls g102 t108 t109 2 t111 t112 w _ ?side1 ?side2 A17.out).mono ?_); (case side1 => exact (show IsS87 w _ g102 t108 t109 from ⟨(by have b_ := K102; have f_ := N102_106; exact zb_), E102.out⟩)); (case side2 => repeat (first | (with_reducible first | exact HB.out | apply qaw_ | apply qay_ | apply qbu_ | refine qz_ ?_ (IsS87.ge HI102.out) | refine qz_ ?_ E101.out | refine qz_ ?_ E106.out) | exact HB.out)); rintro e w18 ⟨rfl, hi, hb, hk⟩; refine ⟨_, rfl, ?_⟩; replace K101 := qa_.mk (qaj_.blk hk (g' := g101) (o := .cells #[.string ⟨#[]⟩, .int .i64 0, .string ⟨#[]⟩, .string ⟨#[]⟩, .string ⟨#[]⟩, .int .i64 0, .int .i64 0, .string ⟨#[]⟩] 37 (0, 0)) (by have b_ := K101; have f_ := N101_106; exact zb_) N101_102.out (by simp)); replace K106 := qa_.mk (qaj_.blk hk (g' := g106) (o := .cells #[.string t103, .int .i64 t110, .string ⟨#[]⟩, .string ⟨#[]⟩, .string ⟨#[]⟩, .int .i64 0, .int .i64 0, .string ⟨#[]⟩] 37 (0, 0)) (by have b_ := K106; exact zb_) N106_102.out (by simp)); replace HB := qa_.mk (hb); replace K102 := qa_.mk (hi.1); (try clear hb); (try clear hb2); (try clear hk); (try clear hi)))
  go_meet
  case rel => exact ⟨_, (t111), (t112), H', ⟨z4_⟩, ⟨bk_ K101.out⟩, ⟨bk_ K102.out⟩, ⟨bk_ K106.out⟩, ⟨hs_⟩⟩
 case rest =>
  clear HC5; try clear c1
  try clear c2
  try clear p2
  try clear c7
  try clear c10
  try clear c11
  try clear c16
  try clear c16b0
  try clear c16b1
  try clear Z12_0 Z12_1 Z12_2 Z12_3 Z12_4 Z12_5 Z12_6 Z12_7
  try clear Z15_0 Z15_1 Z15_2 Z15_3 Z15_4 Z15_5 Z15_6 Z15_7
  try clear F12
  try clear F15
  obtain ⟨kq, x103000_4, x103001_4, HA, HJ4, K101, K102, K106, HB⟩ := hcut
  cases kq with
  | zero => exact absurd HA.out (by simp [qae_.j0])
  | succ kj4 =>
   have H := HA.out; clear HA; simp only [qae_.j0] at H; obtain ⟨⟨t113, t114, t115⟩, A19, H⟩ := bx_ H; dsimp only at H; obtain ⟨⟨t116, t117, t118, t119, t120, t121⟩, A20, H⟩ := bx_ H; dsimp only at H; obtain ⟨⟨t122, t123, t124⟩, A21, H⟩ := bx_ H; dsimp only at H; have HC22 := qa_.mk H; clear H; go_upto_if 29 with (first | ((with_reducible refine qb_ (f := 73) rfl ?_); refine gl_ (some 22) func73 #[.pointer (some ⟨g102, 0, none⟩), .string ⟨#[116, 97, 103, 32]⟩] ?_; (with_reducible refine (qbh_.calls g102 x103000_4 x103001_4 ⟨#[116, 97, 103, 32]⟩ t113 t114 t115 w _ ?side1 ?side2 ?side3 A19.out).mono ?_); (case side1 => exact (show IsS87 w _ g102 x103000_4 x103001_4 from ⟨(bk_ K102.out), E102.out⟩)); (case side2 => repeat (first | (with_reducible first | exact HB.out | apply qaw_ | apply qay_ | apply qbu_ | refine qz_ ?_ (IsS87.ge HI102.out) | refine qz_ ?_ E101.out | refine qz_ ?_ E106.out) | exact HB.out)); (case side3 => exact hgv); rintro e w23 ⟨rfl, hi, hb, hk⟩; refine ⟨_, rfl, ?_⟩; replace K101 := qa_.mk (qaj_.blk hk (g' := g101) (o := .cells #[.string ⟨#[]⟩, .int .i64 0, .string ⟨#[]⟩, .string ⟨#[]⟩, .string ⟨#[]⟩, .int .i64 0, .int .i64 0, .string ⟨#[]⟩] 37 (0, 0)) (bk_ K101.out) N101_102.out (by simp)); replace K106 := qa_.mk (qaj_.blk hk (g' := g106) (o := .cells #[.string t103, .int .i64 t110, .string ⟨#[]⟩, .string ⟨#[]⟩, .string ⟨#[]⟩, .int .i64 0, .int .i64 0, .string ⟨#[]⟩] 37 (0, 0)) (bk_ K106.out) N106_102.out (by simp)); replace HB := qa_.mk (hb); replace K102 := qa_.mk (hi.1); (try clear hb); (try clear hb2); (try clear hk); (try clear hi); have hnb24 := N106_101.out; have hnc24 := N101_106.out; have hnb25 := N106_102.out; have hnc25 := N102_106.out; obtain ⟨Z26_0, Z26_1, Z26_2, Z26_3, Z26_4, Z26_5, Z26_6, Z26_7, F26⟩ := bc8 K106.out) | ((with_reducible refine qb_ (f := 72) rfl ?_); refine gl_ (some 25) func72 #[.pointer (some ⟨g102, 0, none⟩), .string ⟨#[116, 97, 103, 103, 101, 114, 32]⟩] ?_; (with_reducible refine (qbg_.calls kj4 g102 t114 t115 ⟨#[116, 97, 103, 103, 101, 114, 32]⟩ t116 t117 t118 t119 t120 t121 w _ ?side1 ?side2 ?side3 A20.out).mono ?_); (case side1 => exact (show IsS87 w _ g102 t114 t115 from ⟨(by have b_ := K102; have f_ := N102_106; exact zb_), E102.out⟩)); (case side2 => repeat (first | (with_reducible first | exact HB.out | apply qaw_ | apply qay_ | apply qbu_ | refine qz_ ?_ (IsS87.ge HI102.out) | refine qz_ ?_ E101.out | refine qz_ ?_ E106.out) | exact HB.out)); (case side3 => exact hgv); rintro e w27 ⟨rfl, hi, hb, hk⟩; refine ⟨_, rfl, ?_⟩; replace K101 := qa_.mk (qaj_.blk hk (g' := g101) (o := .cells #[.string ⟨#[]⟩, .int .i64 0, .string ⟨#[]⟩, .string ⟨#[]⟩, .string ⟨#[]⟩, .int .i64 0, .int .i64 0, .string ⟨#[]⟩] 37 (0, 0)) (by have b_ := K101; have f_ := N101_106; exact zb_) N101_102.out (by simp)); replace K106 := qa_.mk (qaj_.blk hk (g' := g106) (o := .cells #[.string t103, .int .i64 t110, .string t113, .string ⟨#[]⟩, .string ⟨#[]⟩, .int .i64 0, .int .i64 0, .string ⟨#[]⟩] 37 (0, 0)) (by have b_ := K106; exact zb_) N106_102.out (by simp)); replace HB := qa_.mk (hb); replace K102 := qa_.mk (hi.1); (try clear hb); (try clear hb2); (try clear hk); (try clear hi); obtain ⟨Z28_0, Z28_1, Z28_2, Z28_3, Z28_4, Z28_5, Z28_6, Z28_7, F28⟩ := bc8 K106.out) | ((with_reducible refine qb_ (f := 73) rfl ?_); refine gl_ (some 28) func73 #[.pointer (some ⟨g102, 0, none⟩), .string ⟨#[]⟩] ?_; (with_reducible refine (qbh_.calls g102 t120 t121 ⟨#[]⟩ t122 t123 t124 w _ ?side1 ?side2 ?side3 A21.out).mono ?_); (case side1 => exact (show IsS87 w _ g102 t120 t121 from ⟨(by have b_ := K102; have f_ := N102_106; exact zb_), E102.out⟩)); (case side2 => repeat (first | (with_reducible first | exact HB.out | apply qaw_ | apply qay_ | apply qbu_ | refine qz_ ?_ (IsS87.ge HI102.out) | refine qz_ ?_ E101.out | refine qz_ ?_ E106.out) | exact HB.out)); (case side3 => exact hgv); rintro e w29 ⟨rfl, hi, hb, hk⟩; refine ⟨_, rfl, ?_⟩; replace K101 := qa_.mk (qaj_.blk hk (g' := g101) (o := .cells #[.string ⟨#[]⟩, .int .i64 0, .string ⟨#[]⟩, .string ⟨#[]⟩, .string ⟨#[]⟩, .int .i64 0, .int .i64 0, .string ⟨#[]⟩] 37 (0, 0)) (by have b_ := K101; have f_ := N101_106; exact zb_) N101_102.out (by simp)); replace K106 := qa_.mk (qaj_.blk hk (g' := g106) (o := .cells #[.string t103, .int .i64 t110, .string t113, .string t116, .string t117, .int .i64 t118, .int .i64 t119, .string ⟨#[]⟩] 37 (0, 0)) (by have b_ := K106; exact zb_) N106_102.out (by simp)); replace HB := qa_.mk (hb); replace K102 := qa_.mk (hi.1); (try clear hb); (try clear hb2); (try clear hk); (try clear hi)))
   (try simp only [Act.put, List.setIfInBounds_toArray, List.set_cons_zero, List.set_cons_succ])
   go_cut [] (fun wc => ∃ (kq : Nat) (x103000_21 : ByteArray) (x103001_21 : Int), qa_ (qae_.j1 kq x103000_21 x103001_21 t103 t110 t113 t116 t117 t118 t119 ⟨#[]⟩ = some (r1, r2, r3, r4, r5, r6, r7, r8, r9)) ∧ qa_ (kq ≤ kj4) ∧ qa_ (wc.heap[g101]? = some (.cells #[.string ⟨#[]⟩, .int .i64 0, .string ⟨#[]⟩, .string ⟨#[]⟩, .string ⟨#[]⟩, .int .i64 0, .int .i64 0, .string ⟨#[]⟩] 37 (0, 0))) ∧ qa_ (wc.heap[g102]? = some (.cells #[.string x103000_21, .int .i64 x103001_21] 87 (0, 0))) ∧ qa_ (wc.heap[g106]? = some (.cells #[.string t103, .int .i64 t110, .string t113, .string t116, .string t117, .int .i64 t118, .int .i64 t119, .string ⟨#[]⟩] 37 (0, 0))) ∧ qa_ (Below w.heap.size w wc))
   case first =>
    have H := HC22.out; clear HC22; by_cases c30 : t122.toList = ([] : List UInt8)
    ·rw [if_pos c30] at H; have c30b0 := et_ c30; have c30b1 := nf_ c30; (try (have c30b8 : (!t122.toList.isEmpty) = false := (by have h_ := c30b1; rw [qby_] at h_; exact h_))); (try (have c30b9 : t122.toList.isEmpty = true := (by have h_ := c30b1; rw [qby_] at h_; simpa using h_)))
     clear c30; (first | rw [c30b0] | (simp only [i64_w, i32_w]; rw [c30b0]) | skip); (try rw [c30b8])
     have H' := qa_.mk H; clear H; go_wp2
     go_meet
     case rel => exact ⟨_, (t123), (t124), H', ⟨by have := HJ4.out; first | omega | exact Nat.le_refl _⟩, ⟨bk_ K101.out⟩, ⟨bk_ K102.out⟩, ⟨bk_ K106.out⟩, ⟨hs_⟩⟩
    rw [if_neg c30] at H; have c30b0 := ef_ c30; have c30b1 := nt_ c30; (try (have c30b8 : (!t122.toList.isEmpty) = true := (by have h_ := c30b1; rw [qby_] at h_; exact h_))); (try (have c30b9 : t122.toList.isEmpty = false := (by have h_ := c30b1; rw [qby_] at h_; simpa using h_)))
    (first | rw [c30b0] | (simp only [i64_w, i32_w]; rw [c30b0]) | skip)
    (try rw [c30b8])
    obtain ⟨⟨t125, t126⟩, A31, H⟩ := bx_ H; dsimp only at H; have H' := qa_.mk H; clear H; go_wp2_with (first | ((with_reducible refine qb_ (f := 74) rfl ?_); refine gl_ (some 31) func74 #[.pointer (some ⟨g102, 0, none⟩), .int .i64 2] ?_; (with_reducible refine (qbt_.calls g102 t123 t124 2 t125 t126 w _ ?side1 ?side2 A31.out).mono ?_); (case side1 => exact (show IsS87 w _ g102 t123 t124 from ⟨(bk_ K102.out), E102.out⟩)); (case side2 => repeat (first | (with_reducible first | exact HB.out | apply qaw_ | apply qay_ | apply qbu_ | refine qz_ ?_ (IsS87.ge HI102.out) | refine qz_ ?_ E101.out | refine qz_ ?_ E106.out) | exact HB.out)); rintro e w32 ⟨rfl, hi, hb, hk⟩; refine ⟨_, rfl, ?_⟩; replace K101 := qa_.mk (qaj_.blk hk (g' := g101) (o := .cells #[.string ⟨#[]⟩, .int .i64 0, .string ⟨#[]⟩, .string ⟨#[]⟩, .string ⟨#[]⟩, .int .i64 0, .int .i64 0, .string ⟨#[]⟩] 37 (0, 0)) (bk_ K101.out) N101_102.out (by simp)); replace K106 := qa_.mk (qaj_.blk hk (g' := g106) (o := .cells #[.string t103, .int .i64 t110, .string t113, .string t116, .string t117, .int .i64 t118, .int .i64 t119, .string ⟨#[]⟩] 37 (0, 0)) (bk_ K106.out) N106_102.out (by simp)); replace HB := qa_.mk (hb); replace K102 := qa_.mk (hi.1); (try clear hb); (try clear hb2); (try clear hk); (try clear hi)))
    go_meet
    case rel => exact ⟨_, (t125), (t126), H', ⟨by have := HJ4.out; first | omega | exact Nat.le_refl _⟩, ⟨bk_ K101.out⟩, ⟨bk_ K102.out⟩, ⟨bk_ K106.out⟩, ⟨hs_⟩⟩
   case rest =>
    clear HC22; try clear c1
    try clear c2
    try clear p2
    try clear c3
    try clear c7
    try clear c10
    try clear c11
    try clear c16
    try clear c16b0
    try clear c16b1
    try clear c23
    try clear c24
    try clear c25
    try clear c30
    try clear c30b0
    try clear c30b1
    try clear Z12_0 Z12_1 Z12_2 Z12_3 Z12_4 Z12_5 Z12_6 Z12_7
    try clear Z15_0 Z15_1 Z15_2 Z15_3 Z15_4 Z15_5 Z15_6 Z15_7
    try clear Z26_0 Z26_1 Z26_2 Z26_3 Z26_4 Z26_5 Z26_6 Z26_7
    try clear Z28_0 Z28_1 Z28_2 Z28_3 Z28_4 Z28_5 Z28_6 Z28_7
    try clear F12
    try clear F15
    try clear F26
    try clear F28
    try clear p2
    obtain ⟨kq, x103000_21, x103001_21, HA, HJ21, K101, K102, K106, HB⟩ := hcut
    cases kq with
    | zero => exact absurd HA.out (by simp [qae_.j1])
    | succ kj21 =>
     have H := HA.out; clear HA; simp only [qae_.j1] at H; by_cases c33 : x103001_21 = 0; rotate_left
     ·rw [if_neg c33] at H; have c33b0 := ef_ c33; have c33b1 := nt_ c33; obtain ⟨rfl, rfl, rfl, rfl, rfl, rfl, rfl, rfl, rfl⟩ := pj9_ H; have hnb62 := N102_101.out; have hnc62 := N101_102.out; have hnb63 := N102_106.out; have hnc63 := N106_102.out; obtain ⟨Z64_0, Z64_1, F64⟩ := bc2 K102.out; have hnb65 := N106_101.out; have hnc65 := N101_106.out; obtain ⟨Z66_0, Z66_1, Z66_2, Z66_3, Z66_4, Z66_5, Z66_6, Z66_7, F66⟩ := bc8 K106.out; try go_wp2
      have n0_ : qa_ ((wc.setCell ⟨g106, 7, none⟩ (.string x103000_21)).heap[g101]? = some (.cells #[.string ⟨#[]⟩, .int .i64 0, .string ⟨#[]⟩, .string ⟨#[]⟩, .string ⟨#[]⟩, .int .i64 0, .int .i64 0, .string ⟨#[]⟩] 37 (0, 0))) := ⟨by have b_ := K101; have f_ := N101_106; exact zb_⟩; have n1_ : qa_ ((wc.setCell ⟨g106, 7, none⟩ (.string x103000_21)).heap[g102]? = some (.cells #[.string x103000_21, .int .i64 x103001_21] 87 (0, 0))) := ⟨by have b_ := K102; have f_ := N102_106; exact zb_⟩; have n2_ : qa_ ((wc.setCell ⟨g106, 7, none⟩ (.string x103000_21)).heap[g106]? = some (.cells #[.string t103, .int .i64 t110, .string t113, .string t116, .string t117, .int .i64 t118, .int .i64 t119, .string x103000_21] 37 (0, 0))) := ⟨by have b_ := K106; exact zb_⟩; have n3_ : qa_ (Below w.heap.size w (wc.setCell ⟨g106, 7, none⟩ (.string x103000_21))) := ⟨hs_⟩; (try clear K101)
      (try clear K102)
      (try clear K106)
      (try clear HB)
      generalize (wc.setCell ⟨g106, 7, none⟩ (.string x103000_21)) = w67 at n0_ n1_ n2_ n3_ ⊢; have K101 := n0_; have K102 := n1_; have K106 := n2_; have HB := n3_; clear n0_ n1_ n2_ n3_; replace K101 := ad_ K101; replace K102 := ad_ K102; replace K106 := ad_ K106; replace HB := hd_ HB; refine qdm_ (n := 7) (S := fun w' => w'.cell? ⟨g102, 0, none⟩ = some (.string x103000_21) ∧ w'.cell? ⟨g102, 1, none⟩ = some (.int .i64 x103001_21)) (ds := []) (bs 7 0) (by kernel_rfl) rfl rfl (bc2o K102.out) (fun qn_ => ?_); generalize w67.drew = w68 at K101 K102 K106 HB qn_ ⊢; refine pkn_ 0 52 7 1 ?_; refine pkn_ 1 53 7 3 ?_; refine pkn_ 2 54 7 7 ?_; refine pkn_ 3 55 7 15 ?_; refine tkK2n_ 4 56 7 31 qn_ ?_; refine one_ (i := 5) (N := none) (bs 7 63) rfl rfl (by kernel_rfl) (by decide) (fun K hK => ?_); have hs69 : w68.cell? ⟨g101, 0, none⟩ = some (.string ⟨#[]⟩) := (qc_ K101.out 0).trans rfl; have hfs69 := qp_ K101.out 0; have hns69_1 := N102_101.out; have hns69_2 := N106_101.out; have hms69_1 := N101_102.out; have hms69_2 := N101_106.out; have hs70 : w68.cell? ⟨g101, 1, none⟩ = some (.int .i64 0) := (qc_ K101.out 1).trans rfl; have hfs70 := qp_ K101.out 1; have hns70_1 := N102_101.out; have hns70_2 := N106_101.out; have hms70_1 := N101_102.out; have hms70_2 := N101_106.out; have hs71 : w68.cell? ⟨g101, 2, none⟩ = some (.string ⟨#[]⟩) := (qc_ K101.out 2).trans rfl; have hfs71 := qp_ K101.out 2; have hns71_1 := N102_101.out; have hns71_2 := N106_101.out; have hms71_1 := N101_102.out; have hms71_2 := N101_106.out; have hs72 : w68.cell? ⟨g101, 3, none⟩ = some (.string ⟨#[]⟩) := (qc_ K101.out 3).trans rfl; have hfs72 := qp_ K101.out 3; have hns72_1 := N102_101.out; have hns72_2 := N106_101.out; have hms72_1 := N101_102.out; have hms72_2 := N101_106.out; have hs73 : w68.cell? ⟨g101, 4, none⟩ = some (.string ⟨#[]⟩) := (qc_ K101.out 4).trans rfl; have hfs73 := qp_ K101.out 4; have hns73_1 := N102_101.out; have hns73_2 := N106_101.out; have hms73_1 := N101_102.out; have hms73_2 := N101_106.out; have hs74 : w68.cell? ⟨g101, 5, none⟩ = some (.int .i64 0) := (qc_ K101.out 5).trans rfl; have hfs74 := qp_ K101.out 5; have hns74_1 := N102_101.out; have hns74_2 := N106_101.out; have hms74_1 := N101_102.out; have hms74_2 := N101_106.out; have hs75 : w68.cell? ⟨g101, 6, none⟩ = some (.int .i64 0) := (qc_ K101.out 6).trans rfl; have hfs75 := qp_ K101.out 6; have hns75_1 := N102_101.out; have hns75_2 := N106_101.out; have hms75_1 := N101_102.out; have hms75_2 := N101_106.out; have hs76 : w68.cell? ⟨g101, 7, none⟩ = some (.string ⟨#[]⟩) := (qc_ K101.out 7).trans rfl; have hfs76 := qp_ K101.out 7; have hns76_1 := N102_101.out; have hns76_2 := N106_101.out; have hms76_1 := N101_102.out; have hms76_2 := N101_106.out; refine skip_ (w1 := ?_) (by rfl) rfl ?_ ?_; rotate_left
      ·go_simp
       rfl
      refine hK.out _ _ ⟨((qq_ (p := ⟨g101, _, none⟩) N102_101.out _).trans (((qq_ (p := ⟨g101, _, none⟩) N102_101.out _).trans (((qq_ (p := ⟨g101, _, none⟩) N102_101.out _).trans (((qq_ (p := ⟨g101, _, none⟩) N102_101.out _).trans (((qq_ (p := ⟨g101, _, none⟩) N102_101.out _).trans (((qq_ (p := ⟨g101, _, none⟩) N102_101.out _).trans (((qq_ (p := ⟨g101, _, none⟩) N102_101.out _).trans (((qq_ (p := ⟨g101, _, none⟩) N102_101.out _).trans (qn_.1)))))))))))))))), ((qq_ (p := ⟨g101, _, none⟩) N102_101.out _).trans (((qq_ (p := ⟨g101, _, none⟩) N102_101.out _).trans (((qq_ (p := ⟨g101, _, none⟩) N102_101.out _).trans (((qq_ (p := ⟨g101, _, none⟩) N102_101.out _).trans (((qq_ (p := ⟨g101, _, none⟩) N102_101.out _).trans (((qq_ (p := ⟨g101, _, none⟩) N102_101.out _).trans (((qq_ (p := ⟨g101, _, none⟩) N102_101.out _).trans (((qq_ (p := ⟨g101, _, none⟩) N102_101.out _).trans (qn_.2))))))))))))))))⟩ (fun qn_ => ?_); clear hK K; refine pkn_ 6 3 7 127 ?_; refine done_ (by kernel_rfl) ?_; try go_wp2
      refine bodyPost_ret (qcq_ rfl _ _ g101 37 #[.string ⟨#[]⟩, .int .i64 0, .string ⟨#[]⟩, .string ⟨#[]⟩, .string ⟨#[]⟩, .int .i64 0, .int .i64 0, .string ⟨#[]⟩] (0, 0) _ rfl (by have b_ := K101; exact zb_) underlying37 rfl (by kernel_rfl)) rfl ?_; exact ⟨z3_, hs_⟩
     rw [if_pos c33] at H; have c33b0 := et_ c33; have c33b1 := nf_ c33; clear c33; obtain ⟨t127, A34, H⟩ := bx_ H; by_cases c35 : t127 = 0
     ·rw [if_pos c35] at H; have c35b0 := et_ c35; have c35b1 := nf_ c35; clear c35; obtain ⟨rfl, rfl, rfl, rfl, rfl, rfl, rfl, rfl, rfl⟩ := pj9_ H; have hnb36 := N102_101.out; have hnc36 := N101_102.out; have hnb37 := N102_106.out; have hnc37 := N106_102.out; obtain ⟨Z38_0, Z38_1, F38⟩ := bc2 K102.out; have hnb39 := N106_101.out; have hnc39 := N101_106.out; obtain ⟨Z40_0, Z40_1, Z40_2, Z40_3, Z40_4, Z40_5, Z40_6, Z40_7, F40⟩ := bc8 K106.out; go_wp2_with (first | ((with_reducible refine qb_ (f := 27) rfl ?_); refine gl_ (some 44) func27 #[.agg #[.string t103, .int .i64 t110, .string t113, .string t116, .string t117, .int .i64 t118, .int .i64 t119, .string x103000_21]] ?_; (with_reducible refine (qar_.calls kj21 t103 t110 t113 t116 t117 t118 t119 x103000_21 t127 _ ?side1 A34.out).mono ?_); (case side1 => exact GV.below hgv (hs_)); rintro e w41 ⟨rfl, hb⟩; refine ⟨_, rfl, ?_⟩; replace K101 := qa_.mk (qbk_ (g := g101) (o := .cells #[.string ⟨#[]⟩, .int .i64 0, .string ⟨#[]⟩, .string ⟨#[]⟩, .string ⟨#[]⟩, .int .i64 0, .int .i64 0, .string ⟨#[]⟩] 37 (0, 0)) (by have b_ := K101; have f_ := N101_106; exact zb_) hb); replace K102 := qa_.mk (qbk_ (g := g102) (o := .cells #[.string x103000_21, .int .i64 x103001_21] 87 (0, 0)) (by have b_ := K102; have f_ := N102_106; exact zb_) hb); replace K106 := qa_.mk (qbk_ (g := g106) (o := .cells #[.string t103, .int .i64 t110, .string t113, .string t116, .string t117, .int .i64 t118, .int .i64 t119, .string x103000_21] 37 (0, 0)) (by have b_ := K106; exact zb_) hb); replace HB := hr_ hb; (try clear hb); (try clear hb2); (try clear hk); (try clear hi); obtain ⟨Z42_0, Z42_1, F42⟩ := bc2 K102.out; obtain ⟨Z43_0, Z43_1, Z43_2, Z43_3, Z43_4, Z43_5, Z43_6, Z43_7, F43⟩ := bc8 K106.out; obtain ⟨Z44_0, Z44_1, Z44_2, Z44_3, Z44_4, Z44_5, Z44_6, Z44_7, F44⟩ := bc8 K101.out)); refine bodyPost_ret (qcq_ rfl _ _ g101 37 #[.string t103, .int .i64 t110, .string t113, .string t116, .string t117, .int .i64 t118, .int .i64 t119, .string x103000_21] (0, 0) _ rfl (by have b_ := K101; have f_ := N101_102; exact zb_) underlying37 rfl (by kernel_rfl)) rfl ?_; exact ⟨z3_, hs_⟩
     rw [if_neg c35] at H; have c35b0 := ef_ c35; have c35b1 := nt_ c35; obtain ⟨rfl, rfl, rfl, rfl, rfl, rfl, rfl, rfl, rfl⟩ := pj9_ H; have hnb45 := N102_101.out; have hnc45 := N101_102.out; have hnb46 := N102_106.out; have hnc46 := N106_102.out; obtain ⟨Z47_0, Z47_1, F47⟩ := bc2 K102.out; have hnb48 := N106_101.out; have hnc48 := N101_106.out; obtain ⟨Z49_0, Z49_1, Z49_2, Z49_3, Z49_4, Z49_5, Z49_6, Z49_7, F49⟩ := bc8 K106.out; try go_wp2_with (first | ((with_reducible refine qb_ (f := 27) rfl ?_); refine gl_ (some 44) func27 #[.agg #[.string t103, .int .i64 t110, .string t113, .string t116, .string t117, .int .i64 t118, .int .i64 t119, .string x103000_21]] ?_; (with_reducible refine (qar_.calls kj21 t103 t110 t113 t116 t117 t118 t119 x103000_21 t127 _ ?side1 A34.out).mono ?_); (case side1 => exact GV.below hgv (hs_)); rintro e w50 ⟨rfl, hb⟩; refine ⟨_, rfl, ?_⟩; replace K101 := qa_.mk (qbk_ (g := g101) (o := .cells #[.string ⟨#[]⟩, .int .i64 0, .string ⟨#[]⟩, .string ⟨#[]⟩, .string ⟨#[]⟩, .int .i64 0, .int .i64 0, .string ⟨#[]⟩] 37 (0, 0)) (by have b_ := K101; have f_ := N101_106; exact zb_) hb); replace K102 := qa_.mk (qbk_ (g := g102) (o := .cells #[.string x103000_21, .int .i64 x103001_21] 87 (0, 0)) (by have b_ := K102; have f_ := N102_106; exact zb_) hb); replace K106 := qa_.mk (qbk_ (g := g106) (o := .cells #[.string t103, .int .i64 t110, .string t113, .string t116, .string t117, .int .i64 t118, .int .i64 t119, .string x103000_21] 37 (0, 0)) (by have b_ := K106; exact zb_) hb); replace HB := hr_ hb; (try clear hb); (try clear hb2); (try clear hk); (try clear hi); obtain ⟨Z51_0, Z51_1, F51⟩ := bc2 K102.out)); have n0_ : qa_ ((w50.setCell ⟨g102, 1, none⟩ (.int .i64 t127)).heap[g101]? = some (.cells #[.string ⟨#[]⟩, .int .i64 0, .string ⟨#[]⟩, .string ⟨#[]⟩, .string ⟨#[]⟩, .int .i64 0, .int .i64 0, .string ⟨#[]⟩] 37 (0, 0))) := ⟨by have b_ := K101; have f_ := N101_102; exact zb_⟩; have n1_ : qa_ ((w50.setCell ⟨g102, 1, none⟩ (.int .i64 t127)).heap[g102]? = some (.cells #[.string x103000_21, .int .i64 t127] 87 (0, 0))) := ⟨by have b_ := K102; exact zb_⟩; have n2_ : qa_ ((w50.setCell ⟨g102, 1, none⟩ (.int .i64 t127)).heap[g106]? = some (.cells #[.string t103, .int .i64 t110, .string t113, .string t116, .string t117, .int .i64 t118, .int .i64 t119, .string x103000_21] 37 (0, 0))) := ⟨by have b_ := K106; have f_ := N106_102; exact zb_⟩; have n3_ : qa_ (Below w.heap.size w (w50.setCell ⟨g102, 1, none⟩ (.int .i64 t127))) := ⟨hs_⟩; (try clear K101)
     (try clear K102)
     (try clear K106)
     (try clear HB)
     generalize (w50.setCell ⟨g102, 1, none⟩ (.int .i64 t127)) = w52 at n0_ n1_ n2_ n3_ ⊢; have K101 := n0_; have K102 := n1_; have K106 := n2_; have HB := n3_; clear n0_ n1_ n2_ n3_; replace K101 := ad_ K101; replace K102 := ad_ K102; replace K106 := ad_ K106; replace HB := hd_ HB; refine qdm_ (n := 7) (S := fun w' => w'.cell? ⟨g102, 0, none⟩ = some (.string x103000_21) ∧ w'.cell? ⟨g102, 1, none⟩ = some (.int .i64 t127)) (ds := []) (bs 7 0) (by kernel_rfl) rfl rfl (bc2o K102.out) (fun qn_ => ?_); generalize w52.drew = w53 at K101 K102 K106 HB qn_ ⊢; refine pkn_ 0 52 7 1 ?_; refine pkn_ 1 53 7 3 ?_; refine pkn_ 2 54 7 7 ?_; refine pkn_ 3 55 7 15 ?_; refine tkK2n_ 4 56 7 31 qn_ ?_; refine one_ (i := 5) (N := none) (bs 7 63) rfl rfl (by kernel_rfl) (by decide) (fun K hK => ?_); have hs54 : w53.cell? ⟨g101, 0, none⟩ = some (.string ⟨#[]⟩) := (qc_ K101.out 0).trans rfl; have hfs54 := qp_ K101.out 0; have hns54_1 := N102_101.out; have hns54_2 := N106_101.out; have hms54_1 := N101_102.out; have hms54_2 := N101_106.out; have hs55 : w53.cell? ⟨g101, 1, none⟩ = some (.int .i64 0) := (qc_ K101.out 1).trans rfl; have hfs55 := qp_ K101.out 1; have hns55_1 := N102_101.out; have hns55_2 := N106_101.out; have hms55_1 := N101_102.out; have hms55_2 := N101_106.out; have hs56 : w53.cell? ⟨g101, 2, none⟩ = some (.string ⟨#[]⟩) := (qc_ K101.out 2).trans rfl; have hfs56 := qp_ K101.out 2; have hns56_1 := N102_101.out; have hns56_2 := N106_101.out; have hms56_1 := N101_102.out; have hms56_2 := N101_106.out; have hs57 : w53.cell? ⟨g101, 3, none⟩ = some (.string ⟨#[]⟩) := (qc_ K101.out 3).trans rfl; have hfs57 := qp_ K101.out 3; have hns57_1 := N102_101.out; have hns57_2 := N106_101.out; have hms57_1 := N101_102.out; have hms57_2 := N101_106.out; have hs58 : w53.cell? ⟨g101, 4, none⟩ = some (.string ⟨#[]⟩) := (qc_ K101.out 4).trans rfl; have hfs58 := qp_ K101.out 4; have hns58_1 := N102_101.out; have hns58_2 := N106_101.out; have hms58_1 := N101_102.out; have hms58_2 := N101_106.out; have hs59 : w53.cell? ⟨g101, 5, none⟩ = some (.int .i64 0) := (qc_ K101.out 5).trans rfl; have hfs59 := qp_ K101.out 5; have hns59_1 := N102_101.out; have hns59_2 := N106_101.out; have hms59_1 := N101_102.out; have hms59_2 := N101_106.out; have hs60 : w53.cell? ⟨g101, 6, none⟩ = some (.int .i64 0) := (qc_ K101.out 6).trans rfl; have hfs60 := qp_ K101.out 6; have hns60_1 := N102_101.out; have hns60_2 := N106_101.out; have hms60_1 := N101_102.out; have hms60_2 := N101_106.out; have hs61 : w53.cell? ⟨g101, 7, none⟩ = some (.string ⟨#[]⟩) := (qc_ K101.out 7).trans rfl; have hfs61 := qp_ K101.out 7; have hns61_1 := N102_101.out; have hns61_2 := N106_101.out; have hms61_1 := N101_102.out; have hms61_2 := N101_106.out; refine skip_ (w1 := ?_) (by rfl) rfl ?_ ?_; rotate_left
     ·go_simp
      rfl
     refine hK.out _ _ ⟨((qq_ (p := ⟨g101, _, none⟩) N102_101.out _).trans (((qq_ (p := ⟨g101, _, none⟩) N102_101.out _).trans (((qq_ (p := ⟨g101, _, none⟩) N102_101.out _).trans (((qq_ (p := ⟨g101, _, none⟩) N102_101.out _).trans (((qq_ (p := ⟨g101, _, none⟩) N102_101.out _).trans (((qq_ (p := ⟨g101, _, none⟩) N102_101.out _).trans (((qq_ (p := ⟨g101, _, none⟩) N102_101.out _).trans (((qq_ (p := ⟨g101, _, none⟩) N102_101.out _).trans (qn_.1)))))))))))))))), ((qq_ (p := ⟨g101, _, none⟩) N102_101.out _).trans (((qq_ (p := ⟨g101, _, none⟩) N102_101.out _).trans (((qq_ (p := ⟨g101, _, none⟩) N102_101.out _).trans (((qq_ (p := ⟨g101, _, none⟩) N102_101.out _).trans (((qq_ (p := ⟨g101, _, none⟩) N102_101.out _).trans (((qq_ (p := ⟨g101, _, none⟩) N102_101.out _).trans (((qq_ (p := ⟨g101, _, none⟩) N102_101.out _).trans (((qq_ (p := ⟨g101, _, none⟩) N102_101.out _).trans (qn_.2))))))))))))))))⟩ (fun qn_ => ?_); clear hK K; refine pkn_ 6 3 7 127 ?_; refine done_ (by kernel_rfl) ?_; try go_wp2
     refine bodyPost_ret (qcq_ rfl _ _ g101 37 #[.string ⟨#[]⟩, .int .i64 0, .string ⟨#[]⟩, .string ⟨#[]⟩, .string ⟨#[]⟩, .int .i64 0, .int .i64 0, .string ⟨#[]⟩] (0, 0) _ rfl (by have b_ := K101; exact zb_) underlying37 rfl (by kernel_rfl)) rfl ?_; exact ⟨z3_, hs_⟩
def qcr_.f (k : Nat) (a0_0 : Int) (a0_1 : ByteArray) : Option (Int) := (qcv_.f a0_0 a0_1).bind fun bt102 => (if bt102.2 = 0 then (if a0_0 = 2 then ((qbs_.f k a0_1).bind fun bt104 => (some bt104.2)) else (if a0_0 = 3 then ((ql_.f k a0_1).bind fun bt108 => (some bt108.2.2.2.2.2.2.2.2.2.2.2)) else (if a0_0 = 4 then ((qae_.f k a0_1).bind fun bt122 => (some bt122.2.2.2.2.2.2.2.2)) else (some bt102.2)))) else (some bt102.2))
theorem qcr_.mono : ∀ a0 a1 k, LeO (qcr_.f k a0 a1) (qcr_.f (k + 1) a0 a1) := by
 intro a0 a1 k; unfold qcr_.f; have m0_ := @ql_.mono; have m1_ := @qae_.mono; have m2_ := @qbs_.mono; exact mz_
theorem qcr_.calls (k : Nat) (a0_0 : Int) (a0_1 : ByteArray) (r : Int) (w : World) (hgv : GV w) (h : qcr_.f k a0_0 a0_1 = some r) :
  Calls Tryz.prog 36 #[.agg #[.int .i64 a0_0, .string a0_1]] w fun e w' => e = .returned (.int .i64 r) ∧ Below w.heap.size w w' := by
 have hu50 := underlying50; have HB := qa_.mk (Below.refl w.heap.size w); unfold qcr_.f at h; have H := h; clear h; obtain ⟨⟨t102, t103⟩, A2, H⟩ := bx_ H; dsimp only at H; by_cases c3 : t103 = 0; rotate_left
 ·rw [if_neg c3] at H; have c3b0 := ef_ c3; have c3b1 := nt_ c3; obtain rfl := oi_ H; go_enter func36, ntmps36; go_wp2_with (first | ((with_reducible refine qh_ (N := 1) rfl ?_); refine be_ (cs := #[.int .i64 a0_0, .string a0_1]) (t := 50) ?_; intro g101 hg w29 hbox hb; have K101 := qa_.mk (hbox); have W101 := ag_ hg HB; have E101 := ag_ hg HB; replace HB := ah_ HB hb; clear hb hbox hg; obtain ⟨Z30_0, Z30_1, F30⟩ := bc2 K101.out) | ((with_reducible refine qb_ (f := 97) rfl ?_); refine gl_ (some 7) func97 #[.agg #[.int .i64 a0_0, .string a0_1]] ?_; (with_reducible refine (qcv_.calls a0_0 a0_1 t102 t103 _ ?side1 A2.out).mono ?_); (case side1 => exact GV.below hgv (hs_)); rintro e w31 ⟨rfl, hb⟩; refine ⟨_, rfl, ?_⟩; replace K101 := ab_ K101 hb; replace HB := hr_ hb; (try clear hb); (try clear hb2); (try clear hk); (try clear hi)))
  go_ret
  exact ⟨z3_, hs_⟩
 rw [if_pos c3] at H; have c3b0 := et_ c3; have c3b1 := nf_ c3; clear c3; by_cases c4 : a0_0 = 2
 ·rw [if_pos c4] at H; have c4b0 := et_ c4; have c4b1 := nf_ c4; clear c4; obtain ⟨⟨t104, t105⟩, A5, H⟩ := bx_ H; dsimp only at H; obtain rfl := oi_ H; go_enter func36, ntmps36; go_wp2_with (first | ((with_reducible refine qh_ (N := 1) rfl ?_); refine be_ (cs := #[.int .i64 a0_0, .string a0_1]) (t := 50) ?_; intro g101 hg w6 hbox hb; have K101 := qa_.mk (hbox); have W101 := ag_ hg HB; have E101 := ag_ hg HB; replace HB := ah_ HB hb; clear hb hbox hg; obtain ⟨Z7_0, Z7_1, F7⟩ := bc2 K101.out) | ((with_reducible refine qb_ (f := 97) rfl ?_); refine gl_ (some 7) func97 #[.agg #[.int .i64 a0_0, .string a0_1]] ?_; (with_reducible refine (qcv_.calls a0_0 a0_1 t102 t103 _ ?side1 A2.out).mono ?_); (case side1 => exact GV.below hgv (hs_)); rintro e w8 ⟨rfl, hb⟩; refine ⟨_, rfl, ?_⟩; replace K101 := ab_ K101 hb; replace HB := hr_ hb; (try clear hb); (try clear hb2); (try clear hk); (try clear hi); obtain ⟨Z9_0, Z9_1, F9⟩ := bc2 K101.out) | ((with_reducible refine qb_ (f := 94) rfl ?_); refine gl_ (some 20) func94 #[.string a0_1] ?_; (with_reducible refine (qbs_.calls k a0_1 t104 t105 _ ?side1 A5.out).mono ?_); (case side1 => exact GV.below hgv (hs_)); rintro e w10 ⟨v106, rfl, ho0, hb⟩; refine ⟨_, rfl, ?_⟩; have HO107 := qa_.mk (Kd.R_lower ho0 (qj_ (hs_))); replace K101 := ab_ K101 hb; replace HB := hr_ hb; (try clear hb); (try clear hb2); (try clear hk); (try clear hi); (try clear ho0)))
  go_ret
  exact ⟨z3_, hs_⟩
 rw [if_neg c4] at H; have c4b0 := ef_ c4; have c4b1 := nt_ c4; by_cases c11 : a0_0 = 3
 ·rw [if_pos c11] at H; have c11b0 := et_ c11; have c11b1 := nf_ c11; clear c11; obtain ⟨⟨t108, t109, t112, t113, t114, t115, t116, t117, t118, t119, t120, t121⟩, A12, H⟩ := bx_ H; dsimp only at H; obtain rfl := oi_ H; go_enter func36, ntmps36; go_wp2_with (first | ((with_reducible refine qh_ (N := 1) rfl ?_); refine be_ (cs := #[.int .i64 a0_0, .string a0_1]) (t := 50) ?_; intro g101 hg w13 hbox hb; have K101 := qa_.mk (hbox); have W101 := ag_ hg HB; have E101 := ag_ hg HB; replace HB := ah_ HB hb; clear hb hbox hg; obtain ⟨Z14_0, Z14_1, F14⟩ := bc2 K101.out) | ((with_reducible refine qb_ (f := 97) rfl ?_); refine gl_ (some 7) func97 #[.agg #[.int .i64 a0_0, .string a0_1]] ?_; (with_reducible refine (qcv_.calls a0_0 a0_1 t102 t103 _ ?side1 A2.out).mono ?_); (case side1 => exact GV.below hgv (hs_)); rintro e w15 ⟨rfl, hb⟩; refine ⟨_, rfl, ?_⟩; replace K101 := ab_ K101 hb; replace HB := hr_ hb; (try clear hb); (try clear hb2); (try clear hk); (try clear hi); obtain ⟨Z16_0, Z16_1, F16⟩ := bc2 K101.out) | ((with_reducible refine qb_ (f := 20) rfl ?_); refine gl_ (some 28) func20 #[.string a0_1] ?_; (with_reducible refine (ql_.calls k a0_1 t108 t109 t112 t113 t114 t115 t116 t117 t118 t119 t120 t121 _ ?side1 A12.out).mono ?_); (case side1 => exact GV.below hgv (hs_)); rintro e w17 ⟨v110, rfl, ho0, hb⟩; refine ⟨_, rfl, ?_⟩; have HO111 := qa_.mk (Kd.R_lower ho0 (qj_ (hs_))); replace K101 := ab_ K101 hb; replace HB := hr_ hb; (try clear hb); (try clear hb2); (try clear hk); (try clear hi); (try clear ho0)))
  go_ret
  exact ⟨z3_, hs_⟩
 rw [if_neg c11] at H; have c11b0 := ef_ c11; have c11b1 := nt_ c11; by_cases c18 : a0_0 = 4; rotate_left
 ·rw [if_neg c18] at H; have c18b0 := ef_ c18; have c18b1 := nt_ c18; obtain rfl := oi_ H; go_enter func36, ntmps36; go_wp2_with (first | ((with_reducible refine qh_ (N := 1) rfl ?_); refine be_ (cs := #[.int .i64 a0_0, .string a0_1]) (t := 50) ?_; intro g101 hg w25 hbox hb; have K101 := qa_.mk (hbox); have W101 := ag_ hg HB; have E101 := ag_ hg HB; replace HB := ah_ HB hb; clear hb hbox hg; obtain ⟨Z26_0, Z26_1, F26⟩ := bc2 K101.out) | ((with_reducible refine qb_ (f := 97) rfl ?_); refine gl_ (some 7) func97 #[.agg #[.int .i64 a0_0, .string a0_1]] ?_; (with_reducible refine (qcv_.calls a0_0 a0_1 t102 t103 _ ?side1 A2.out).mono ?_); (case side1 => exact GV.below hgv (hs_)); rintro e w27 ⟨rfl, hb⟩; refine ⟨_, rfl, ?_⟩; replace K101 := ab_ K101 hb; replace HB := hr_ hb; (try clear hb); (try clear hb2); (try clear hk); (try clear hi); obtain ⟨Z28_0, Z28_1, F28⟩ := bc2 K101.out)); go_ret
  exact ⟨z3_, hs_⟩
 rw [if_pos c18] at H; have c18b0 := et_ c18; have c18b1 := nf_ c18; clear c18; obtain ⟨⟨t122, t123, t124, t125, t126, t127, t128, t129, t130⟩, A19, H⟩ := bx_ H; dsimp only at H; obtain rfl := oi_ H; go_enter func36, ntmps36; go_wp2_with (first | ((with_reducible refine qh_ (N := 1) rfl ?_); refine be_ (cs := #[.int .i64 a0_0, .string a0_1]) (t := 50) ?_; intro g101 hg w20 hbox hb; have K101 := qa_.mk (hbox); have W101 := ag_ hg HB; have E101 := ag_ hg HB; replace HB := ah_ HB hb; clear hb hbox hg; obtain ⟨Z21_0, Z21_1, F21⟩ := bc2 K101.out) | ((with_reducible refine qb_ (f := 97) rfl ?_); refine gl_ (some 7) func97 #[.agg #[.int .i64 a0_0, .string a0_1]] ?_; (with_reducible refine (qcv_.calls a0_0 a0_1 t102 t103 _ ?side1 A2.out).mono ?_); (case side1 => exact GV.below hgv (hs_)); rintro e w22 ⟨rfl, hb⟩; refine ⟨_, rfl, ?_⟩; replace K101 := ab_ K101 hb; replace HB := hr_ hb; (try clear hb); (try clear hb2); (try clear hk); (try clear hi); obtain ⟨Z23_0, Z23_1, F23⟩ := bc2 K101.out) | ((with_reducible refine qb_ (f := 23) rfl ?_); refine gl_ (some 36) func23 #[.string a0_1] ?_; (with_reducible refine (qae_.calls k a0_1 t122 t123 t124 t125 t126 t127 t128 t129 t130 _ ?side1 A19.out).mono ?_); (case side1 => exact GV.below hgv (hs_)); rintro e w24 ⟨rfl, hb⟩; refine ⟨_, rfl, ?_⟩; replace K101 := ab_ K101 hb; replace HB := hr_ hb; (try clear hb); (try clear hb2); (try clear hk); (try clear hi)))
 go_ret
 exact ⟨z3_, hs_⟩
def qaa_.l0 : Nat → List ByteArray → ByteArray → Int → Int → Option (Int)
 | 0, _, _, _, _ => none
 | k + 1, x0, x1, x7, x8 => if x8 < x7 then (if 0 ≤ x8 then (if x8 < (x0.length : Int) then (if x1.toList = (rdOf ByteArray.empty x0 x8).toList then (some x8) else (qaa_.l0 k x0 x1 x7 (wrap64 (x8 + 1)))) else (none)) else (none)) else (some (-1))
def qaa_.f (k : Nat) (l0 : List ByteArray) (a1 : ByteArray) : Option (Int) := qaa_.l0 k l0 a1 (l0.length : Int) 0
theorem qaa_.mono_l : ∀ k, (∀ y0 y1 y2 y3, LeO (qaa_.l0 k y0 y1 y2 y3) (qaa_.l0 (k + 1) y0 y1 y2 y3))
 | 0 => fun _ _ _ _ r h => by simp [qaa_.l0] at h
 | k + 1 => by
  have ih0 := qaa_.mono_l k
  ·intro y0 y1 y2 y3
   unfold qaa_.l0
   have m0_ := @ih0
   exact mz_
theorem qaa_.mono : ∀ a0 a1 k, LeO (qaa_.f k a0 a1) (qaa_.f (k + 1) a0 a1) := by
 intro a0 a1 k; have ih0 := qaa_.mono_l k; unfold qaa_.f; have m0_ := @ih0; exact mz_
theorem qaa_.calls (k : Nat) (A0 : Option Addr) (c0 : Nat) (l0 : List ByteArray) (a1 : ByteArray) (r : Int) (w : World) (hr0 : Kd.C Kd.string w A0 l0.length l0) (hc0 : l0.length ≤ c0) (h : qaa_.f k l0 a1 = some r) :
  Calls Tryz.prog 151 #[.slice A0 l0.length c0, .string a1] w fun e w' => e = .returned (.int .i64 r) ∧ Drawn0 w w' := by
 have HR0 := qa_.mk hr0; have HC0 := qa_.mk hc0; clear hr0 hc0; unfold qaa_.f at h; have H := h; clear h; have H' := qa_.mk H; clear H; go_enter func151, ntmps151; go_wp2
 go_loopg [8] k (fun kq v8 w' => ∃ (x8_1 : Int), v8 = .int .i64 x8_1 ∧ qa_ (qaa_.l0 kq l0 a1 (l0.length : Int) x8_1 = some r) ∧ qa_ (kq ≤ k) ∧ Drawn0 w w')
 case atStart => exact ⟨(0), z1_, H', ⟨Nat.le_refl _⟩, z2_⟩
 case round =>
  clear H'; try clear c1
  try clear p2
  obtain ⟨x8_1, rfl, HA, HK1, ⟨m1, rfl⟩⟩ := hrel
  cases gk with
  | zero => exact absurd HA.out (by simp [qaa_.l0])
  | succ k1 =>
   have H := HA.out; clear HA; simp only [qaa_.l0] at H; by_cases c3 : x8_1 < (l0.length : Int); rotate_left
   ·rw [if_neg c3] at H; have c3b0 := df_ c3; clear c3; obtain rfl := oi_ H; go_wp2
    go_ret
    exact ⟨z1_, z2_⟩
   rw [if_pos c3] at H; have c3b0 := dt_ c3; clear c3; by_cases c4 : 0 ≤ x8_1; rotate_left
   ·rw [if_neg c4] at H; exact no_ H
   rw [if_pos c4] at H; have c4b0 := dt_ c4; clear c4; by_cases c5 : x8_1 < (l0.length : Int); rotate_left
   ·rw [if_neg c5] at H; exact no_ H
   rw [if_pos c5] at H; have c5b0 := dt_ c5; clear c5; by_cases c6 : a1.toList = (rdOf ByteArray.empty l0 x8_1).toList
   ·rw [if_pos c6] at H; have c6b0 := et_ c6; have c6b1 := nf_ c6; clear c6; obtain rfl := oi_ H; have p190 : 0 ≤ (x8_1 : Int) := y0_; have q190 : x8_1 < (l0.length : Int) := y0_; obtain ⟨ad190, e190, hx190_0⟩ := Kd.at_string HR0.out x8_1 p190 q190
    cases e190
    replace p190 := eq_true p190; replace q190 := eq_true q190; go_wp2
    go_ret
    exact ⟨z1_, z2_⟩
   rw [if_neg c6] at H; have c6b0 := ef_ c6; have c6b1 := nt_ c6; have H' := qa_.mk H; clear H; have p190 : 0 ≤ (x8_1 : Int) := y0_; have q190 : x8_1 < (l0.length : Int) := y0_; obtain ⟨ad190, e190, hx190_0⟩ := Kd.at_string HR0.out x8_1 p190 q190
   cases e190
   replace p190 := eq_true p190; replace q190 := eq_true q190; go_wp2
   go_roundg k1
   case measure => have := HK1.out; omega
   case rel => exact ⟨(wrap64 (x8_1 + 1)), z1_, H', ⟨by have := HK1.out; omega⟩, z2_⟩
def qbb_.f (k : Nat) (l0 : List ByteArray) (a1 : ByteArray) : Option (Bool) := (qaa_.f k l0 a1).bind fun t191 => (some (decide (t191 ≥ 0)))
theorem qbb_.mono : ∀ a0 a1 k, LeO (qbb_.f k a0 a1) (qbb_.f (k + 1) a0 a1) := by
 intro a0 a1 k; unfold qbb_.f; have m0_ := @qaa_.mono; exact mz_
theorem qbb_.calls (k : Nat) (A0 : Option Addr) (c0 : Nat) (l0 : List ByteArray) (a1 : ByteArray) (r : Bool) (w : World) (hr0 : Kd.C Kd.string w A0 l0.length l0) (hc0 : l0.length ≤ c0) (h : qbb_.f k l0 a1 = some r) :
  Calls Tryz.prog 95 #[.slice A0 l0.length c0, .string a1] w fun e w' => e = .returned (.bool r) ∧ Drawn0 w w' := by
 have HR0 := qa_.mk hr0; have HC0 := qa_.mk hc0; clear hr0 hc0; unfold qbb_.f at h; have H := h; clear h; obtain ⟨t191, A3, H⟩ := bx_ H; obtain rfl := oi_ H; go_enter func95, ntmps95; go_wp2_with (first | ((with_reducible refine qb_ (f := 151) rfl ?_); refine gl_ (some 7) func151 #[.slice A0 l0.length c0, .string a1] ?_; (with_reducible refine (qaa_.calls k _ _ l0 a1 t191 _ ?side1 ?side2 A3.out).mono ?_); (case side1 => repeat (first | exact HR0.out | (with_reducible refine Kd.C_alloc ?_ _) | (with_reducible refine Kd.C_drewN ?_ _) | (with_reducible refine Kd.C_drew ?_))); (case side2 => exact HC0.out); rintro e w' ⟨rfl, ⟨nd, rfl⟩⟩; refine ⟨_, rfl, ?_⟩)); go_ret
 exact ⟨z1_, z2_⟩
mutual
def qw_.j1 : Nat → List ByteArray → Option (List ByteArray × Int)
 | 0, _ => none
 | k + 1, x5 => qw_.l1 k ([] : List ByteArray) x5 (x5.length : Int) 0
def qw_.l1 : Nat → List ByteArray → List ByteArray → Int → Int → Option (List ByteArray × Int)
 | 0, _, _, _, _ => none
 | k + 1, x14, x69, x70, x71 => if x71 < x70 then (if 0 ≤ x71 then (if x71 < (x69.length : Int) then ((qbb_.f k x14 (rdOf ByteArray.empty x69 x71)).bind fun t147 => (if t147 = true then (qw_.l1 k x14 x69 x70 (wrap64 (x71 + 1))) else (if x14.length < 8796093022208 then (qw_.l1 k (x14 ++ [rdOf ByteArray.empty x69 x71]) x69 x70 (wrap64 (x71 + 1))) else (none)))) else (none)) else (none)) else (some (x14, 0))
def qw_.l0 : Nat → List ByteArray → List (S108) → Int → Int → Option (List ByteArray × Int)
 | 0, _, _, _, _ => none
 | k + 1, x5, x32, x33, x34 => if x34 < x33 then (if 0 ≤ x34 then (if x34 < (x32.length : Int) then (if x5.length < 8796093022208 then (qw_.l0 k (x5 ++ [(qd_ x32 x34).f2]) x32 x33 (wrap64 (x34 + 1))) else (none)) else (none)) else (none)) else (qw_.j1 k x5)
end
def qw_.f (k : Nat) (a0_0 : Int) (a0_1 : ByteArray) : Option (List ByteArray × Int) := (qcr_.f k a0_0 a0_1).bind fun t102 => (if t102 = 0 then (if a0_0 = 2 then ((qbs_.f k a0_1).bind fun bt103 => (qw_.l0 k ([] : List ByteArray) bt103.1 (bt103.1.length : Int) 0)) else (if a0_0 = 3 then ((ql_.f k a0_1).bind fun bt112 => ((some (([bt112.1] : List ByteArray) : List ByteArray)).bind fun y127 => (if y127.length + bt112.2.1.length < 8796093022208 then (qw_.j1 k (y127 ++ bt112.2.1)) else (none)))) else (if a0_0 = 4 then ((qae_.f k a0_1).bind fun bt133 => (qw_.j1 k (([bt133.1] : List ByteArray)))) else (qw_.j1 k ([] : List ByteArray))))) else (some (([] : List ByteArray), t102)))
theorem qw_.mono_l : ∀ k, (∀ y0, LeO (qw_.j1 k y0) (qw_.j1 (k + 1) y0)) ∧ (∀ y0 y1 y2 y3, LeO (qw_.l1 k y0 y1 y2 y3) (qw_.l1 (k + 1) y0 y1 y2 y3)) ∧ (∀ y0 y1 y2 y3, LeO (qw_.l0 k y0 y1 y2 y3) (qw_.l0 (k + 1) y0 y1 y2 y3))
 | 0 => ⟨fun _ r h => by simp [qw_.j1] at h, fun _ _ _ _ r h => by simp [qw_.l1] at h, fun _ _ _ _ r h => by simp [qw_.l0] at h⟩
 | k + 1 => by
  obtain ⟨ih0, ih1, ih2⟩ := qw_.mono_l k
  refine ⟨?_, ?_, ?_⟩
  ·intro y0
   unfold qw_.j1
   have m0_ := @ih0
   have m1_ := @ih1
   have m2_ := @ih2
   have m3_ := @ql_.mono
   have m4_ := @qae_.mono
   have m5_ := @qcr_.mono
   have m6_ := @qbb_.mono
   have m7_ := @qbs_.mono
   exact mz_
  ·intro y0 y1 y2 y3
   unfold qw_.l1
   have m0_ := @ih0
   have m1_ := @ih1
   have m2_ := @ih2
   have m3_ := @ql_.mono
   have m4_ := @qae_.mono
   have m5_ := @qcr_.mono
   have m6_ := @qbb_.mono
   have m7_ := @qbs_.mono
   exact mz_
  ·intro y0 y1 y2 y3
   unfold qw_.l0
   have m0_ := @ih0
   have m1_ := @ih1
   have m2_ := @ih2
   have m3_ := @ql_.mono
   have m4_ := @qae_.mono
   have m5_ := @qcr_.mono
   have m6_ := @qbb_.mono
   have m7_ := @qbs_.mono
   exact mz_
theorem qw_.mono : ∀ a0 a1 k, LeO (qw_.f k a0 a1) (qw_.f (k + 1) a0 a1) := by
 intro a0 a1 k; obtain ⟨ih0, ih1, ih2⟩ := qw_.mono_l k; unfold qw_.f; have m0_ := @ih0; have m1_ := @ih1; have m2_ := @ih2; have m3_ := @ql_.mono; have m4_ := @qae_.mono; have m5_ := @qcr_.mono; have m6_ := @qbb_.mono; have m7_ := @qbs_.mono; exact mz_
theorem qw_.calls (k : Nat) (a0_0 : Int) (a0_1 : ByteArray) (r1 : List ByteArray) (r2 : Int) (w : World) (hgv : GV w) (h : qw_.f k a0_0 a0_1 = some (r1, r2)) :
  Calls Tryz.prog 34 #[.agg #[.int .i64 a0_0, .string a0_1]] w fun e w' => ∃ v0_ : Value, e = .returned (.tuple #[v0_, .int .i64 r2]) ∧ Kd.R Kd.string 9 w' w.heap.size (fun _ => True) v0_ r1 ∧ Below w.heap.size w w' := by
 have hu50 := underlying50; have hu108 := underlying108; have hu26 := underlying26; have hu37 := underlying37; have HB := qa_.mk (Below.refl w.heap.size w); unfold qw_.f at h; have H := h; clear h; obtain ⟨t102, A2, H⟩ := bx_ H; by_cases c3 : t102 = 0; rotate_left
 ·rw [if_neg c3] at H; have c3b0 := ef_ c3; have c3b1 := nt_ c3; obtain ⟨rfl, rfl⟩ := pj2_ H; go_enter func34, ntmps34; go_wp2_with (first | ((with_reducible refine qh_ (N := 1) rfl ?_); refine be_ (cs := #[.int .i64 a0_0, .string a0_1]) (t := 50) ?_; intro g101 hg w54 hbox hb; have K101 := qa_.mk (hbox); have W101 := ag_ hg HB; have E101 := ag_ hg HB; replace HB := ah_ HB hb; clear hb hbox hg; obtain ⟨Z55_0, Z55_1, F55⟩ := bc2 K101.out) | ((with_reducible refine qb_ (f := 36) rfl ?_); refine gl_ (some 18) func36 #[.agg #[.int .i64 a0_0, .string a0_1]] ?_; (with_reducible refine (qcr_.calls k a0_0 a0_1 t102 _ ?side1 A2.out).mono ?_); (case side1 => exact GV.below hgv (hs_)); rintro e w56 ⟨rfl, hb⟩; refine ⟨_, rfl, ?_⟩; replace K101 := ab_ K101 hb; replace HB := hr_ hb; (try clear hb); (try clear hb2); (try clear hk); (try clear hi)))
  go_ret2
  exact ⟨_, z3_, z6_, hs_⟩
 rw [if_pos c3] at H; have c3b0 := et_ c3; have c3b1 := nf_ c3; clear c3; have HC4 := qa_.mk H; clear H; go_enter func34, ntmps34; go_upto_block 0 with (first | ((with_reducible refine qh_ (N := 1) rfl ?_); refine be_ (cs := #[.int .i64 a0_0, .string a0_1]) (t := 50) ?_; intro g101 hg w5 hbox hb; have K101 := qa_.mk (hbox); have W101 := ag_ hg HB; have E101 := ag_ hg HB; replace HB := ah_ HB hb; clear hb hbox hg; obtain ⟨Z6_0, Z6_1, F6⟩ := bc2 K101.out) | ((with_reducible refine qb_ (f := 36) rfl ?_); refine gl_ (some 18) func36 #[.agg #[.int .i64 a0_0, .string a0_1]] ?_; (with_reducible refine (qcr_.calls k a0_0 a0_1 t102 _ ?side1 A2.out).mono ?_); (case side1 => exact GV.below hgv (hs_)); rintro e w7 ⟨rfl, hb⟩; refine ⟨_, rfl, ?_⟩; replace K101 := ab_ K101 hb; replace HB := hr_ hb; (try clear hb); (try clear hb2); (try clear hk); (try clear hi); obtain ⟨Z8_0, Z8_1, F8⟩ := bc2 K101.out)); (try simp only [Act.put, List.setIfInBounds_toArray, List.set_cons_zero, List.set_cons_succ])
 go_cut [5] (fun v5 wc => ∃ (kq : Nat) (x5_3 : List ByteArray), qa_ (qw_.j1 kq x5_3 = some (r1, r2)) ∧ qa_ (kq ≤ k) ∧ qa_ (Kd.R Kd.string 9 wc w.heap.size (fun _ => True) v5 x5_3) ∧ qa_ (wc.heap[g101]? = some (.cells #[.int .i64 a0_0, .string a0_1] 50 (0, 0))) ∧ qa_ (Below w.heap.size w wc))
 case first =>
  have H := HC4.out; clear HC4; by_cases c9 : a0_0 = 2
  ·rw [if_pos c9] at H; have c9b0 := et_ c9; have c9b1 := nf_ c9; clear c9; (first | rw [c9b0] | (simp only [i64_w, i32_w]; rw [c9b0]) | skip); (try rw [c9b8])
   obtain ⟨⟨t103, t104⟩, A10, H⟩ := bx_ H; dsimp only at H; have H' := qa_.mk H; clear H; obtain ⟨Z11_0, Z11_1, F11⟩ := bc2 K101.out; go_wp2_with (first | ((with_reducible refine qb_ (f := 94) rfl ?_); refine gl_ (some 29) func94 #[.string a0_1] ?_; (with_reducible refine (qbs_.calls k a0_1 t103 t104 _ ?side1 A10.out).mono ?_); (case side1 => exact GV.below hgv (hs_)); rintro e w12 ⟨v105, rfl, ho0, hb⟩; refine ⟨_, rfl, ?_⟩; have HO106 := qa_.mk (Kd.R_lower ho0 (qj_ (hs_))); replace K101 := ab_ K101 hb; replace HB := hr_ hb; (try clear hb); (try clear hb2); (try clear hk); (try clear hi); (try clear ho0); obtain ⟨Ao13, co13, eo13⟩ := Kd.R_slice HO106.out; subst eo13)); go_loopg [5, 34] k (fun kq v5 v34 w' => ∃ (x5_1 : List ByteArray) (x34_1 : Int), v34 = .int .i64 x34_1 ∧ qa_ (qw_.l0 kq x5_1 t103 (t103.length : Int) x34_1 = some (r1, r2)) ∧ qa_ (kq ≤ k) ∧ qa_ (Kd.R Kd.string 9 w' w.heap.size (fun _ => True) v5 x5_1) ∧ qa_ (Kd.R k108 108 w' w.heap.size (fun _ => True) (.slice Ao13 t103.length co13) t103) ∧ qa_ (w'.heap[g101]? = some (.cells #[.int .i64 a0_0, .string a0_1] 50 (0, 0))) ∧ qa_ (Below w.heap.size w w'))
   case atStart => exact ⟨(([] : List ByteArray)), (0), z1_, H', ⟨Nat.le_refl _⟩, ⟨z6_⟩, ⟨by (with_reducible repeat (first | apply Kd.R_alloc | apply Kd.R_drewN | apply Kd.R_drew)); exact HO106.out⟩, ⟨bk_ K101.out⟩, ⟨hs_⟩⟩
   case round =>
    clear H'; try clear p2
    try clear c3
    try clear c3b0
    try clear c3b1
    try clear c9
    try clear c9b0
    try clear c9b1
    try clear Z11_0 Z11_1
    try clear Z6_0 Z6_1
    try clear Z8_0 Z8_1
    try clear F11
    try clear F6
    try clear F8
    obtain ⟨x5_1, x34_1, rfl, HA, HK1, HO_5, HO_32, K101, HB⟩ := hrel
    cases gk with
    | zero => exact absurd HA.out (by simp [qw_.l0])
    | succ k1 =>
     have H := HA.out; clear HA; simp only [qw_.l0] at H; by_cases c14 : x34_1 < (t103.length : Int); rotate_left
     ·rw [if_neg c14] at H; have c14b0 := df_ c14; clear c14; have H' := qa_.mk H; clear H; go_wp2
      go_meet
      case rel => exact ⟨_, (x5_1), H', ⟨by have := HK1.out; first | omega | exact Nat.le_refl _⟩, ⟨z20_⟩, ⟨bk_ K101.out⟩, ⟨hs_⟩⟩
     rw [if_pos c14] at H; have c14b0 := dt_ c14; clear c14; by_cases c15 : 0 ≤ x34_1; rotate_left
     ·rw [if_neg c15] at H; exact no_ H
     rw [if_pos c15] at H; have c15b0 := dt_ c15; clear c15; by_cases c16 : x34_1 < (t103.length : Int); rotate_left
     ·rw [if_neg c16] at H; exact no_ H
     rw [if_pos c16] at H; have c16b0 := dt_ c16; clear c16; by_cases c17 : x5_1.length < 8796093022208; rotate_left
     ·rw [if_neg c17] at H; exact no_ H
     rw [if_pos c17] at H; have LMc17 := qa_.mk c17; clear c17; obtain ⟨y109, hy109⟩ : ∃ y_ : List ByteArray, y_ = (x5_1 ++ [(qd_ t103 x34_1).f2]) := ⟨_, rfl⟩; replace H : (qw_.l0 k1 y109 t103 (t103.length : Int) (wrap64 (x34_1 + 1))) = some (r1, r2) := by first | (rw [hy109]; with_reducible exact H) | (have H2_ := (Option.bind_some _ _).symm.trans H; rw [hy109]; with_reducible exact H2_) | (have H2_ := (Option.bind_some _ _).symm.trans H; with_reducible exact H2_) | with_reducible exact H | (rw [hy109]; exact H) | exact H
     have Ny109 := qa_.mk hy109; clear hy109; have H' := qa_.mk H; clear H; have p107 : 0 ≤ (x34_1 : Int) := y0_; have q107 : x34_1 < (t103.length : Int) := y0_; obtain ⟨ad107, e107, hx107_0, hx107_1, hx107_2⟩ := qew_ (Kd.R_reads' HO_32.out).2.2 x34_1 p107 q107
     cases e107
     replace p107 := eq_true p107; replace q107 := eq_true q107; go_wp2_with (first | ((with_reducible refine qh_ (N := 9) rfl ?_); refine be_ (cs := #[.int .i64 0, .string ⟨#[]⟩, .string ⟨#[]⟩]) (t := 108) ?_; intro g108 hg w18 hbox hb; replace HO_5 := qa_.mk (Kd.R_below (rk_ HO_5.out) hb); replace HO_32 := qa_.mk (Kd.R_below (Kd.R_elderB (rk_ HO_32.out) g108 (Nat.le_of_eq hg.symm)) hb); have K108 := qa_.mk (hbox); have W108 := qa_.mk ((by rw [hg]; exact (qj_ (hs_)) : w.heap.size ≤ g108)); have E108 := qa_.mk ((by rw [hg]; exact (qj_ (hs_)) : w.heap.size ≤ g108)); replace HB := hr_ hb; have N101_108 := qa_.mk (nl2_ hg K101.out); have N108_101 := qa_.mk (ng2_ hg K101.out); replace K101 := ab_ K101 hb; clear hb hbox hg; have hnb19 := N108_101.out; have hnc19 := N101_108.out; obtain ⟨Z20_0, Z20_1, Z20_2, F20⟩ := bc3 K108.out) | ((with_reducible refine qdp_ (b := .append) (xs := #[.tmp 38, .tmp 41]) rfl ?_); at_builtin; refine Kd.R_append Kd.string (w0 := w) w.heap.size rfl (.tmp 38) (.tmp 41) 22 9 (.string ⟨#[]⟩) 16 rfl underlying22 info9 rfl (by decide) (by omega) u5 x5_1 ((qd_ t103 x34_1).f2) [.string ((qd_ t103 x34_1).f2)] (fun _ => True) (fun _ => False) rfl z27_ ?aP (fun _ hk => hk.elim) ?aF ?aO ?aB ?aS ?aL ?_; (case aP => exact rfl); (case aB => exact (hs_)); (case aF => exact (fun _ _ => trivial)); (case aO => exact (by (with_reducible repeat (first | apply Kd.R_alloc | apply Kd.R_drewN | apply Kd.R_drew)); exact Kd.R_mono (Kd.R_far (p := ⟨g108, 2, none⟩) (Kd.R_far (p := ⟨g108, 1, none⟩) (Kd.R_far (p := ⟨g108, 0, none⟩) (Kd.R_types HO_5.out K108.out (by decide)) (fun _ hk => hk.2) (.int .i64 ((qd_ t103 x34_1).f0))) (fun _ hk => hk.2) (.string ((qd_ t103 x34_1).f1))) (fun _ hk => hk.2) (.string ((qd_ t103 x34_1).f2))) (fun _ hk => trivial))); (case aS => exact (qj_ (hs_))); (case aL => have := LMc17.out; omega); intro v110 w21 ho hb hg hat; rw [← Ny109.out] at ho; have n0_ := qa_.mk (Kd.R_over' (by (with_reducible repeat (first | apply Kd.R_alloc | apply Kd.R_drewN | apply Kd.R_drew)); exact (Kd.R_mono (Kd.R_far (p := ⟨g108, 2, none⟩) (Kd.R_far (p := ⟨g108, 1, none⟩) (Kd.R_far (p := ⟨g108, 0, none⟩) (Kd.R_mono HO_32.out (fun k_ hk => (⟨hk, hk.2⟩ : _ ∧ k_ ≠ g108))) (fun _ hk => hk.2) (.int .i64 ((qd_ t103 x34_1).f0))) (fun _ hk => hk.2) (.string ((qd_ t103 x34_1).f1))) (fun _ hk => hk.2) (.string ((qd_ t103 x34_1).f2))) (fun _ h_ => h_.1))) (Kd.R_typed (by (with_reducible repeat (first | apply Kd.R_alloc | apply Kd.R_drewN | apply Kd.R_drew)); exact (Kd.R_mono (Kd.R_far (p := ⟨g108, 2, none⟩) (Kd.R_far (p := ⟨g108, 1, none⟩) (Kd.R_far (p := ⟨g108, 0, none⟩) (Kd.R_types HO_5.out K108.out (by decide)) (fun _ hk => hk.2) (.int .i64 ((qd_ t103 x34_1).f0))) (fun _ hk => hk.2) (.string ((qd_ t103 x34_1).f1))) (fun _ hk => hk.2) (.string ((qd_ t103 x34_1).f2))) (fun _ h_ => h_.1)))) (by decide) hg); have n1_ := qa_.mk (qdd_ (g := g101) (o := .cells #[.int .i64 a0_0, .string a0_1] 50 (0, 0)) (by have b_ := K101; have f_ := N101_108; exact zb_) hg (Kd.R_ne HO_5.out K101.out (by decide))); have n2_ := qa_.mk (qdd_ (g := g108) (o := .cells #[.int .i64 ((qd_ t103 x34_1).f0), .string ((qd_ t103 x34_1).f1), .string ((qd_ t103 x34_1).f2)] 108 (0, 0)) (by have b_ := K108; exact zb_) hg (Kd.R_ne HO_5.out K108.out (by decide))); have n3_ := qa_.mk (hb); have n4_ := qa_.mk (ho); clear HO_32; clear K101; clear K108; clear HB; clear HO_5; have HO_32 := n0_; have K101 := n1_; have K108 := n2_; have HB := n3_; have HO111 := n4_; clear n0_ n1_ n2_ n3_ n4_; clear ho hb hg hat))
     go_roundg k1
     case measure => have := HK1.out; omega
     case rel => exact ⟨(y109), (wrap64 (x34_1 + 1)), z1_, H', ⟨by have := HK1.out; omega⟩, ⟨by (with_reducible repeat (first | apply Kd.R_alloc | apply Kd.R_drewN | apply Kd.R_drew)); exact HO111.out⟩, ⟨by (with_reducible repeat (first | apply Kd.R_alloc | apply Kd.R_drewN | apply Kd.R_drew)); exact Kd.R_mono HO_32.out (fun _ hk => trivial)⟩, ⟨bk_ K101.out⟩, ⟨hs_⟩⟩
  rw [if_neg c9] at H; have c9b0 := ef_ c9; have c9b1 := nt_ c9; (first | rw [c9b0] | (simp only [i64_w, i32_w]; rw [c9b0]) | skip); (try rw [c9b8])
  by_cases c22 : a0_0 = 3; rotate_left
  ·rw [if_neg c22] at H; have c22b0 := ef_ c22; have c22b1 := nt_ c22; by_cases c35 : a0_0 = 4; rotate_left
   ·rw [if_neg c35] at H; have c35b0 := ef_ c35; have c35b1 := nt_ c35; have H' := qa_.mk H; clear H; go_wp2
    go_meet
    case rel => exact ⟨_, (([] : List ByteArray)), H', ⟨z4_⟩, ⟨z6_⟩, ⟨bk_ K101.out⟩, ⟨hs_⟩⟩
   rw [if_pos c35] at H; have c35b0 := et_ c35; have c35b1 := nf_ c35; clear c35; obtain ⟨⟨t133, t134, t135, t136, t137, t138, t139, t140, t141⟩, A36, H⟩ := bx_ H; dsimp only at H; obtain ⟨y143, hy143⟩ : ∃ y_ : List ByteArray, y_ = (([t133] : List ByteArray)) := ⟨_, rfl⟩; replace H : (qw_.j1 k y143) = some (r1, r2) := by first | (rw [hy143]; with_reducible exact H) | (have H2_ := (Option.bind_some _ _).symm.trans H; rw [hy143]; with_reducible exact H2_) | (have H2_ := (Option.bind_some _ _).symm.trans H; with_reducible exact H2_) | with_reducible exact H | (rw [hy143]; exact H) | exact H
   have Ny143 := qa_.mk hy143; clear hy143; have H' := qa_.mk H; clear H; obtain ⟨Z37_0, Z37_1, F37⟩ := bc2 K101.out; go_wp2_with (first | ((with_reducible refine qb_ (f := 23) rfl ?_); refine gl_ (some 63) func23 #[.string a0_1] ?_; (with_reducible refine (qae_.calls k a0_1 t133 t134 t135 t136 t137 t138 t139 t140 t141 _ ?side1 A36.out).mono ?_); (case side1 => exact GV.below hgv (hs_)); rintro e w38 ⟨rfl, hb⟩; refine ⟨_, rfl, ?_⟩; replace K101 := ab_ K101 hb; replace HB := hr_ hb; (try clear hb); (try clear hb2); (try clear hk); (try clear hi)) | ((with_reducible refine qh_ (N := 12) rfl ?_); refine be_ (cs := #[.string ⟨#[]⟩, .int .i64 0, .string ⟨#[]⟩, .string ⟨#[]⟩, .string ⟨#[]⟩, .int .i64 0, .int .i64 0, .string ⟨#[]⟩]) (t := 37) ?_; intro g142 hg w39 hbox hb; have K142 := qa_.mk (hbox); have W142 := qa_.mk ((by rw [hg]; exact (qj_ (hs_)) : w.heap.size ≤ g142)); have E142 := qa_.mk ((by rw [hg]; exact (qj_ (hs_)) : w.heap.size ≤ g142)); replace HB := hr_ hb; have N101_142 := qa_.mk (nl2_ hg K101.out); have N142_101 := qa_.mk (ng2_ hg K101.out); replace K101 := ab_ K101 hb; clear hb hbox hg; have hnb40 := N142_101.out; have hnc40 := N101_142.out; obtain ⟨Z41_0, Z41_1, Z41_2, Z41_3, Z41_4, Z41_5, Z41_6, Z41_7, F41⟩ := bc8 K142.out) | ((with_reducible refine qh_ (N := 68) rfl ?_); refine Kd.R_lit Kd.string _ 9 ?hg (N := 68) ?hd (xs := ([t133] : List ByteArray)) (inner := [.string t133]) (ok := fun _ => True) (okp := fun _ => True) ?hr ?hp (fun _ hk => hk) trivial (Below.refl _ _) (Nat.le_refl _) (by simp) ?_; (case hd => rfl); (case hg => rfl); (case hr => first | (go_simp; done) | (go_simp; rfl)); (case hp => exact (Reps.one (show Kd.M Kd.string _ _ _ t133 [.string t133] from rfl) (Reps.none _ _))); intro v144 w42 ho43 hb hg_ hnew_; clear hg_ hnew_; (first | rw [← Ny143.out] at ho43 | (simp only [Int.reduceToNat] at ho43; rw [← Ny143.out] at ho43)); have HO145 := qa_.mk (Kd.R_lower ho43 (qj_ (hs_))); replace K101 := qa_.mk (qbk_ (g := g101) (o := .cells #[.int .i64 a0_0, .string a0_1] 50 (0, 0)) (by have b_ := K101; have f_ := N101_142; exact zb_) hb); replace K142 := qa_.mk (qbk_ (g := g142) (o := .cells #[.string t133, .int .i64 t134, .string t135, .string t136, .string t137, .int .i64 t138, .int .i64 t139, .string t140] 37 (0, 0)) (by have b_ := K142; exact zb_) hb); replace HB := hr_ hb; clear hb ho43)); go_meet
   case rel => exact ⟨_, (y143), H', ⟨z4_⟩, ⟨by (with_reducible repeat (first | apply Kd.R_alloc | apply Kd.R_drewN | apply Kd.R_drew)); exact HO145.out⟩, ⟨bk_ K101.out⟩, ⟨hs_⟩⟩
  rw [if_pos c22] at H; have c22b0 := et_ c22; have c22b1 := nf_ c22; clear c22; obtain ⟨⟨t112, t113, t116, t117, t118, t119, t120, t121, t122, t123, t124, t125⟩, A23, H⟩ := bx_ H; dsimp only at H; obtain ⟨y127, hy127⟩ : ∃ y_ : List ByteArray, y_ = (([t112] : List ByteArray)) := ⟨_, rfl⟩; replace H : (if y127.length + t113.length < 8796093022208 then (qw_.j1 k (y127 ++ t113)) else (none)) = some (r1, r2) := by first | (rw [hy127]; with_reducible exact H) | (have H2_ := (Option.bind_some _ _).symm.trans H; rw [hy127]; with_reducible exact H2_) | (have H2_ := (Option.bind_some _ _).symm.trans H; with_reducible exact H2_) | with_reducible exact H | (rw [hy127]; exact H) | exact H
  have Ny127 := qa_.mk hy127; clear hy127; by_cases c24 : y127.length + t113.length < 8796093022208; rotate_left
  ·rw [if_neg c24] at H; exact no_ H
  rw [if_pos c24] at H; have LMc24 := qa_.mk c24; clear c24; obtain ⟨y130, hy130⟩ : ∃ y_ : List ByteArray, y_ = (y127 ++ t113) := ⟨_, rfl⟩; replace H : (qw_.j1 k y130) = some (r1, r2) := by first | (rw [hy130]; with_reducible exact H) | (have H2_ := (Option.bind_some _ _).symm.trans H; rw [hy130]; with_reducible exact H2_) | (have H2_ := (Option.bind_some _ _).symm.trans H; with_reducible exact H2_) | with_reducible exact H | (rw [hy130]; exact H) | exact H
  have Ny130 := qa_.mk hy130; clear hy130; have H' := qa_.mk H; clear H; obtain ⟨Z25_0, Z25_1, F25⟩ := bc2 K101.out; go_wp2_with (first | ((with_reducible refine qb_ (f := 20) rfl ?_); refine gl_ (some 49) func20 #[.string a0_1] ?_; (with_reducible refine (ql_.calls k a0_1 t112 t113 t116 t117 t118 t119 t120 t121 t122 t123 t124 t125 _ ?side1 A23.out).mono ?_); (case side1 => exact GV.below hgv (hs_)); rintro e w26 ⟨v114, rfl, ho0, hb⟩; refine ⟨_, rfl, ?_⟩; have HO115 := qa_.mk (Kd.R_lower ho0 (qj_ (hs_))); replace K101 := ab_ K101 hb; replace HB := hr_ hb; (try clear hb); (try clear hb2); (try clear hk); (try clear hi); (try clear ho0)) | ((with_reducible refine qh_ (N := 10) rfl ?_); refine be_ (cs := #[.string ⟨#[]⟩, .slice none 0 0, .string ⟨#[]⟩, .string ⟨#[]⟩, .int .i64 0, .int .i64 0, .string ⟨#[]⟩, .string ⟨#[]⟩, .int .i64 0, .int .i64 0, .string ⟨#[]⟩]) (t := 26) ?_; intro g126 hg w27 hbox hb; replace HO115 := qa_.mk (Kd.R_below (rk_ HO115.out) hb); have K126 := qa_.mk (hbox); have W126 := qa_.mk ((by rw [hg]; exact (qj_ (hs_)) : w.heap.size ≤ g126)); have E126 := qa_.mk ((by rw [hg]; exact (qj_ (hs_)) : w.heap.size ≤ g126)); replace HB := hr_ hb; have N101_126 := qa_.mk (nl2_ hg K101.out); have N126_101 := qa_.mk (ng2_ hg K101.out); replace K101 := ab_ K101 hb; clear hb hbox hg; have hnb28 := N126_101.out; have hnc28 := N101_126.out; obtain ⟨Z29_0, Z29_1, Z29_2, Z29_3, Z29_4, Z29_5, Z29_6, Z29_7, Z29_8, Z29_9, Z29_10, F29⟩ := bc11 K126.out; obtain ⟨Ao30, co30, eo30⟩ := Kd.R_slice HO115.out; subst eo30) | ((with_reducible refine qh_ (N := 54) rfl ?_); refine Kd.R_lit Kd.string _ 9 ?hg (N := 54) ?hd (xs := ([t112] : List ByteArray)) (inner := [.string t112]) (ok := fun _ => True) (okp := fun _ => True) ?hr ?hp (fun _ hk => hk) trivial (Below.refl _ _) (Nat.le_refl _) (by simp) ?_; (case hd => rfl); (case hg => rfl); (case hr => first | (go_simp; done) | (go_simp; rfl)); (case hp => exact (Reps.one (show Kd.M Kd.string _ _ _ t112 [.string t112] from rfl) (Reps.none _ _))); intro v128 w31 ho32 hb hg_ hnew_; clear hg_ hnew_; (first | rw [← Ny127.out] at ho32 | (simp only [Int.reduceToNat] at ho32; rw [← Ny127.out] at ho32)); have HO129 := qa_.mk (Kd.R_lower (Kd.R_new' ho32 (Kd.R_lt (by (with_reducible repeat (first | apply Kd.R_alloc | apply Kd.R_drewN | apply Kd.R_drew)); exact (Kd.R_mono (Kd.R_far (p := ⟨g126, 10, none⟩) (Kd.R_far (p := ⟨g126, 9, none⟩) (Kd.R_far (p := ⟨g126, 8, none⟩) (Kd.R_far (p := ⟨g126, 7, none⟩) (Kd.R_far (p := ⟨g126, 6, none⟩) (Kd.R_far (p := ⟨g126, 5, none⟩) (Kd.R_far (p := ⟨g126, 4, none⟩) (Kd.R_far (p := ⟨g126, 3, none⟩) (Kd.R_far (p := ⟨g126, 2, none⟩) (Kd.R_far (p := ⟨g126, 1, none⟩) (Kd.R_far (p := ⟨g126, 0, none⟩) (Kd.R_types HO115.out K126.out (by decide)) (fun _ hk => hk.2) (.string t112)) (fun _ hk => hk.2) (.slice Ao30 t113.length co30)) (fun _ hk => hk.2) (.string t116)) (fun _ hk => hk.2) (.string t117)) (fun _ hk => hk.2) (.int .i64 t118)) (fun _ hk => hk.2) (.int .i64 t119)) (fun _ hk => hk.2) (.string t120)) (fun _ hk => hk.2) (.string t121)) (fun _ hk => hk.2) (.int .i64 t122)) (fun _ hk => hk.2) (.int .i64 t123)) (fun _ hk => hk.2) (.string t124)) (fun _ h_ => h_.1))))) (qj_ (hs_))); replace HO115 := qa_.mk (Kd.R_elder' (by (with_reducible repeat (first | apply Kd.R_alloc | apply Kd.R_drewN | apply Kd.R_drew)); exact (Kd.R_mono (Kd.R_far (p := ⟨g126, 10, none⟩) (Kd.R_far (p := ⟨g126, 9, none⟩) (Kd.R_far (p := ⟨g126, 8, none⟩) (Kd.R_far (p := ⟨g126, 7, none⟩) (Kd.R_far (p := ⟨g126, 6, none⟩) (Kd.R_far (p := ⟨g126, 5, none⟩) (Kd.R_far (p := ⟨g126, 4, none⟩) (Kd.R_far (p := ⟨g126, 3, none⟩) (Kd.R_far (p := ⟨g126, 2, none⟩) (Kd.R_far (p := ⟨g126, 1, none⟩) (Kd.R_far (p := ⟨g126, 0, none⟩) (Kd.R_types HO115.out K126.out (by decide)) (fun _ hk => hk.2) (.string t112)) (fun _ hk => hk.2) (.slice Ao30 t113.length co30)) (fun _ hk => hk.2) (.string t116)) (fun _ hk => hk.2) (.string t117)) (fun _ hk => hk.2) (.int .i64 t118)) (fun _ hk => hk.2) (.int .i64 t119)) (fun _ hk => hk.2) (.string t120)) (fun _ hk => hk.2) (.string t121)) (fun _ hk => hk.2) (.int .i64 t122)) (fun _ hk => hk.2) (.int .i64 t123)) (fun _ hk => hk.2) (.string t124)) (fun _ h_ => h_.1))) (Kd.R_base ho32) hb); replace K101 := qa_.mk (qbk_ (g := g101) (o := .cells #[.int .i64 a0_0, .string a0_1] 50 (0, 0)) (by have b_ := K101; have f_ := N101_126; exact zb_) hb); replace K126 := qa_.mk (qbk_ (g := g126) (o := .cells #[.string t112, .slice Ao30 t113.length co30, .string t116, .string t117, .int .i64 t118, .int .i64 t119, .string t120, .string t121, .int .i64 t122, .int .i64 t123, .string t124] 26 (0, 0)) (by have b_ := K126; exact zb_) hb); replace HB := hr_ hb; clear hb ho32; obtain ⟨Z33_0, Z33_1, Z33_2, Z33_3, Z33_4, Z33_5, Z33_6, Z33_7, Z33_8, Z33_9, Z33_10, F33⟩ := bc11 K126.out) | ((with_reducible refine qdp_ (b := .append) (xs := #[.tmp 54, .tmp 56]) rfl ?_); at_builtin; refine Kd.R_append_rows Kd.string (w0 := w) w.heap.size rfl (.tmp 54) (.tmp 56) 22 9 (.string ⟨#[]⟩) 16 rfl underlying22 info9 rfl (by decide) (by omega) v128 y127 t113 _ _ _ (fun k_ => some k_ ≠ (.slice Ao30 t113.length co30 : Value).ownBlock) (fun _ => False) rfl rfl ?aO ?aR (fun _ _ h => h) (fun _ h => h.elim) ?aF ?aB ?aS ?aL ?_; (case aR => repeat (first | exact (Kd.R_reads' HO115.out).2.2 | (with_reducible refine Kd.C_alloc ?_ _) | (with_reducible refine Kd.C_drewN ?_ _) | (with_reducible refine Kd.C_drew ?_))); (case aB => exact (hs_)); (case aF => exact (fun k_ hk => Kd.fresh' (Kd.R_lt (rk_ HO115.out)) k_ hk)); (case aO => exact (by (with_reducible repeat (first | apply Kd.R_alloc | apply Kd.R_drewN | apply Kd.R_drew)); exact Kd.R_mono HO129.out (fun _ hk => hk.2))); (case aS => exact (qj_ (hs_))); (case aL => have := LMc24.out; omega); intro v131 w34 ho hb hg hat; rw [← Ny130.out] at ho; have n0_ := qa_.mk (qdd_ (g := g101) (o := .cells #[.int .i64 a0_0, .string a0_1] 50 (0, 0)) (bk_ K101.out) hg (Kd.R_ne HO129.out K101.out (by decide))); have n1_ := qa_.mk (Kd.R_after (ok := (fun _ => True)) (rk_ HO115.out) hg hat); have n2_ := qa_.mk (qdd_ (g := g126) (o := .cells #[.string t112, .slice Ao30 t113.length co30, .string t116, .string t117, .int .i64 t118, .int .i64 t119, .string t120, .string t121, .int .i64 t122, .int .i64 t123, .string t124] 26 (0, 0)) (bk_ K126.out) hg (Kd.R_ne HO129.out K126.out (by decide))); have n3_ := qa_.mk (hb); have n4_ := qa_.mk (ho); clear K101; clear HO115; clear K126; clear HB; clear HO129; have K101 := n0_; have HO115 := n1_; have K126 := n2_; have HB := n3_; have HO132 := n4_; clear n0_ n1_ n2_ n3_ n4_; clear ho hb hg hat))
  go_meet
  case rel => exact ⟨_, (y130), H', ⟨z4_⟩, ⟨by (with_reducible repeat (first | apply Kd.R_alloc | apply Kd.R_drewN | apply Kd.R_drew)); exact Kd.R_mono HO132.out (fun _ hk => trivial)⟩, ⟨bk_ K101.out⟩, ⟨hs_⟩⟩
 case rest =>
  clear HC4; try clear c1
  try clear p1
  try clear q1
  try clear hx1
  try clear c2
  try clear p2
  try clear c3
  try clear c3b0
  try clear c3b1
  try clear c4
  try clear p6
  try clear c9
  try clear c9b0
  try clear c9b1
  try clear p10
  try clear q10
  try clear hx10
  try clear c14
  try clear c14b0
  try clear c15
  try clear c15b0
  try clear c16
  try clear c16b0
  try clear c17
  try clear c19
  try clear c20
  try clear c22
  try clear c22b0
  try clear c22b1
  try clear c23
  try clear c24
  try clear c28
  try clear c34
  try clear c35
  try clear c35b0
  try clear c35b1
  try clear c36
  try clear c40
  try clear Z11_0 Z11_1
  try clear Z20_0 Z20_1 Z20_2
  try clear Z25_0 Z25_1
  try clear Z29_0 Z29_1 Z29_10 Z29_2 Z29_3 Z29_4 Z29_5 Z29_6 Z29_7 Z29_8 Z29_9
  try clear Z33_0 Z33_1 Z33_10 Z33_2 Z33_3 Z33_4 Z33_5 Z33_6 Z33_7 Z33_8 Z33_9
  try clear Z37_0 Z37_1
  try clear Z41_0 Z41_1 Z41_2 Z41_3 Z41_4 Z41_5 Z41_6 Z41_7
  try clear Z6_0 Z6_1
  try clear Z8_0 Z8_1
  try clear F11
  try clear F20
  try clear F25
  try clear F29
  try clear F33
  try clear F37
  try clear F41
  try clear F6
  try clear F8
  try clear hx107_0
  try clear hx107_1
  try clear hx107_2
  try clear p107
  try clear p2
  try clear q107
  obtain ⟨kq, x5_3, HA, HJ3, HO_5, K101, HB⟩ := hcut
  cases kq with
  | zero => exact absurd HA.out (by simp [qw_.j1])
  | succ kj3 =>
   have H := HA.out; clear HA; simp only [qw_.j1] at H; have H' := qa_.mk H; clear H; obtain ⟨Ao44, co44, eo44⟩ := Kd.R_slice HO_5.out; subst eo44; go_wp2
   go_loopg [14, 71] kj3 (fun kq v14 v71 w' => ∃ (x14_2 : List ByteArray) (x71_2 : Int), v71 = .int .i64 x71_2 ∧ qa_ (qw_.l1 kq x14_2 x5_3 (x5_3.length : Int) x71_2 = some (r1, r2)) ∧ qa_ (kq ≤ kj3) ∧ qa_ (Kd.R Kd.string 9 w' w.heap.size (fun k_ => some k_ ≠ ((.slice Ao44 x5_3.length co44) : Value).ownBlock) v14 x14_2) ∧ qa_ (Kd.R Kd.string 9 w' w.heap.size (fun k_ => some k_ ≠ (v14 : Value).ownBlock) (.slice Ao44 x5_3.length co44) x5_3) ∧ qa_ (w'.heap[g101]? = some (.cells #[.int .i64 a0_0, .string a0_1] 50 (0, 0))) ∧ qa_ (Below w.heap.size w w'))
   case atStart => exact ⟨(([] : List ByteArray)), (0), z1_, H', ⟨Nat.le_refl _⟩, ⟨z6_⟩, ⟨by (with_reducible repeat (first | apply Kd.R_alloc | apply Kd.R_drewN | apply Kd.R_drew)); exact Kd.R_mono HO_5.out (fun _ hk => (by simp [Value.ownBlock]))⟩, ⟨bk_ K101.out⟩, ⟨hs_⟩⟩
   case round =>
    clear H'; try clear c1
    try clear p1
    try clear q1
    try clear hx1
    try clear c2
    try clear p2
    try clear c3
    try clear c3b0
    try clear c3b1
    try clear c4
    try clear p6
    try clear c9
    try clear c9b0
    try clear c9b1
    try clear p10
    try clear q10
    try clear hx10
    try clear c14
    try clear c14b0
    try clear c15
    try clear c15b0
    try clear c16
    try clear c16b0
    try clear c17
    try clear c19
    try clear c20
    try clear c22
    try clear c22b0
    try clear c22b1
    try clear c23
    try clear c24
    try clear c28
    try clear c34
    try clear c35
    try clear c35b0
    try clear c35b1
    try clear c36
    try clear c40
    try clear Z11_0 Z11_1
    try clear Z20_0 Z20_1 Z20_2
    try clear Z25_0 Z25_1
    try clear Z29_0 Z29_1 Z29_10 Z29_2 Z29_3 Z29_4 Z29_5 Z29_6 Z29_7 Z29_8 Z29_9
    try clear Z33_0 Z33_1 Z33_10 Z33_2 Z33_3 Z33_4 Z33_5 Z33_6 Z33_7 Z33_8 Z33_9
    try clear Z37_0 Z37_1
    try clear Z41_0 Z41_1 Z41_2 Z41_3 Z41_4 Z41_5 Z41_6 Z41_7
    try clear Z6_0 Z6_1
    try clear Z8_0 Z8_1
    try clear F11
    try clear F20
    try clear F25
    try clear F29
    try clear F33
    try clear F37
    try clear F41
    try clear F6
    try clear F8
    try clear hx107_0
    try clear hx107_1
    try clear hx107_2
    try clear p1
    try clear p10
    try clear p107
    try clear p2
    try clear p6
    try clear q1
    try clear q10
    try clear q107
    obtain ⟨x14_2, x71_2, rfl, HA, HK2, HO_14, HO_69, K101, HB⟩ := hrel
    cases gk with
    | zero => exact absurd HA.out (by simp [qw_.l1])
    | succ k2 =>
     have H := HA.out; clear HA; simp only [qw_.l1] at H; by_cases c45 : x71_2 < (x5_3.length : Int); rotate_left
     ·rw [if_neg c45] at H; have c45b0 := df_ c45; clear c45; obtain ⟨rfl, rfl⟩ := pj2_ H; go_wp2
      go_ret2
      exact ⟨_, z3_, by (with_reducible repeat (first | apply Kd.R_alloc | apply Kd.R_drewN | apply Kd.R_drew)); exact Kd.R_mono HO_14.out (fun _ hk => trivial), hs_⟩
     rw [if_pos c45] at H; have c45b0 := dt_ c45; clear c45; by_cases c46 : 0 ≤ x71_2; rotate_left
     ·rw [if_neg c46] at H; exact no_ H
     rw [if_pos c46] at H; have c46b0 := dt_ c46; clear c46; by_cases c47 : x71_2 < (x5_3.length : Int); rotate_left
     ·rw [if_neg c47] at H; exact no_ H
     rw [if_pos c47] at H; have c47b0 := dt_ c47; clear c47; obtain ⟨t147, A48, H⟩ := bx_ H; by_cases c49 : t147 = true
     ·subst c49; rw [if_pos rfl] at H; have H' := qa_.mk H; clear H; have p146 : 0 ≤ (x71_2 : Int) := y0_; have q146 : x71_2 < (x5_3.length : Int) := y0_; obtain ⟨ad146, e146, hx146_0⟩ := Kd.at_string (Kd.R_reads' HO_69.out).2.2 x71_2 p146 q146
      cases e146
      replace p146 := eq_true p146; replace q146 := eq_true q146; obtain ⟨Ao50, co50, eo50⟩ := Kd.R_slice HO_14.out; subst eo50; go_wp2_with (first | ((with_reducible refine qb_ (f := 95) rfl ?_); refine gl_ (some 77) func95 #[.slice Ao50 x14_2.length co50, .string (rdOf ByteArray.empty x5_3 x71_2)] ?_; (with_reducible refine (qbb_.calls k2 _ _ x14_2 (rdOf ByteArray.empty x5_3 x71_2) true _ ?side1 ?side2 A48.out).mono ?_); (case side1 => repeat (first | exact (Kd.R_reads' HO_14.out).2.2 | (with_reducible refine Kd.C_alloc ?_ _) | (with_reducible refine Kd.C_drewN ?_ _) | (with_reducible refine Kd.C_drew ?_))); (case side2 => exact (Kd.R_reads' HO_14.out).2.1); rintro e w' ⟨rfl, ⟨nd, rfl⟩⟩; refine ⟨_, rfl, ?_⟩)); go_roundg k2
      case measure => have := HJ3.out; have := HK2.out; omega
      case rel => exact ⟨(x14_2), (wrap64 (x71_2 + 1)), z1_, H', ⟨by have := HJ3.out; have := HK2.out; omega⟩, ⟨by (with_reducible repeat (first | apply Kd.R_alloc | apply Kd.R_drewN | apply Kd.R_drew)); exact HO_14.out⟩, ⟨by (with_reducible repeat (first | apply Kd.R_alloc | apply Kd.R_drewN | apply Kd.R_drew)); exact HO_69.out⟩, ⟨bk_ K101.out⟩, ⟨hs_⟩⟩
     replace c49 := Bool.eq_false_iff.mpr c49; subst c49; rw [if_neg nft_] at H; by_cases c51 : x14_2.length < 8796093022208; rotate_left
     ·rw [if_neg c51] at H; exact no_ H
     rw [if_pos c51] at H; have LMc51 := qa_.mk c51; clear c51; obtain ⟨y148, hy148⟩ : ∃ y_ : List ByteArray, y_ = (x14_2 ++ [rdOf ByteArray.empty x5_3 x71_2]) := ⟨_, rfl⟩; replace H : (qw_.l1 k2 y148 x5_3 (x5_3.length : Int) (wrap64 (x71_2 + 1))) = some (r1, r2) := by first | (rw [hy148]; with_reducible exact H) | (have H2_ := (Option.bind_some _ _).symm.trans H; rw [hy148]; with_reducible exact H2_) | (have H2_ := (Option.bind_some _ _).symm.trans H; with_reducible exact H2_) | with_reducible exact H | (rw [hy148]; exact H) | exact H
     have Ny148 := qa_.mk hy148; clear hy148; have H' := qa_.mk H; clear H; have p146 : 0 ≤ (x71_2 : Int) := y0_; have q146 : x71_2 < (x5_3.length : Int) := y0_; obtain ⟨ad146, e146, hx146_0⟩ := Kd.at_string (Kd.R_reads' HO_69.out).2.2 x71_2 p146 q146
     cases e146
     replace p146 := eq_true p146; replace q146 := eq_true q146; obtain ⟨Ao52, co52, eo52⟩ := Kd.R_slice HO_14.out; subst eo52; go_wp2_with (first | ((with_reducible refine qb_ (f := 95) rfl ?_); refine gl_ (some 77) func95 #[.slice Ao52 x14_2.length co52, .string (rdOf ByteArray.empty x5_3 x71_2)] ?_; (with_reducible refine (qbb_.calls k2 _ _ x14_2 (rdOf ByteArray.empty x5_3 x71_2) false _ ?side1 ?side2 A48.out).mono ?_); (case side1 => repeat (first | exact (Kd.R_reads' HO_14.out).2.2 | (with_reducible refine Kd.C_alloc ?_ _) | (with_reducible refine Kd.C_drewN ?_ _) | (with_reducible refine Kd.C_drew ?_))); (case side2 => exact (Kd.R_reads' HO_14.out).2.1); rintro e w' ⟨rfl, ⟨nd, rfl⟩⟩; refine ⟨_, rfl, ?_⟩) | ((with_reducible refine qdp_ (b := .append) (xs := #[.tmp 79, .tmp 81]) rfl ?_); at_builtin; refine Kd.R_append Kd.string (w0 := w) w.heap.size rfl (.tmp 79) (.tmp 81) 22 9 (.string ⟨#[]⟩) 16 rfl underlying22 info9 rfl (by decide) (by omega) (.slice Ao52 x14_2.length co52) x14_2 (rdOf ByteArray.empty x5_3 x71_2) [.string (rdOf ByteArray.empty x5_3 x71_2)] (fun k_ => some k_ ≠ (.slice (some ad146) x5_3.length co44 : Value).ownBlock) (fun _ => False) rfl rfl ?aP (fun _ hk => hk.elim) ?aF ?aO ?aB ?aS ?aL ?_; (case aP => exact rfl); (case aB => exact (hs_)); (case aF => exact (fun k_ hk => Kd.fresh' (Kd.R_lt (rk_ HO_69.out)) k_ hk)); (case aO => exact (rk_ HO_14.out)); (case aS => exact (qj_ (hs_))); (case aL => have := LMc51.out; omega); intro v149 w53 ho hb hg hat; rw [← Ny148.out] at ho; have n0_ := qa_.mk (Kd.R_after (ok := (fun _ => True)) (by (with_reducible repeat (first | apply Kd.R_alloc | apply Kd.R_drewN | apply Kd.R_drew)); exact Kd.R_mono HO_69.out (fun _ hk => ⟨trivial, hk⟩)) hg hat); have n1_ := qa_.mk (qdd_ (g := g101) (o := .cells #[.int .i64 a0_0, .string a0_1] 50 (0, 0)) (bk_ K101.out) hg (Kd.R_ne HO_14.out K101.out (by decide))); have n2_ := qa_.mk (hb); have n3_ := qa_.mk (ho); clear HO_69; clear K101; clear HB; clear HO_14; have HO_69 := n0_; have K101 := n1_; have HB := n2_; have HO150 := n3_; clear n0_ n1_ n2_ n3_; clear ho hb hg hat)); go_roundg k2
     case measure => have := HJ3.out; have := HK2.out; omega
     case rel => exact ⟨(y148), (wrap64 (x71_2 + 1)), z1_, H', ⟨by have := HJ3.out; have := HK2.out; omega⟩, ⟨by (with_reducible repeat (first | apply Kd.R_alloc | apply Kd.R_drewN | apply Kd.R_drew)); exact HO150.out⟩, ⟨by (with_reducible repeat (first | apply Kd.R_alloc | apply Kd.R_drewN | apply Kd.R_drew)); exact Kd.R_mono HO_69.out (fun _ hk => hk.2)⟩, ⟨bk_ K101.out⟩, ⟨hs_⟩⟩
def qdh_.f  : Option (ByteArray × ByteArray × Int × Int) := some ((⟨#[97]⟩ : ByteArray), (⟨#[97, 64, 98]⟩ : ByteArray), 5, 60)
theorem qdh_.calls  (r1 : ByteArray) (r2 : ByteArray) (r3 : Int) (r4 : Int) (w : World) (h : qdh_.f  = some (r1, r2, r3, r4)) :
  Calls Tryz.prog 63 #[] w fun e w' => e = .returned (.agg #[.string r1, .string r2, .int .i64 r3, .int .i64 r4]) ∧ Below w.heap.size w w' := by
 have hu24 := underlying24; have HB := qa_.mk (Below.refl w.heap.size w); unfold qdh_.f at h; have H := h; clear h; obtain ⟨rfl, rfl, rfl, rfl⟩ := pj4_ H; go_enter func63, ntmps63; go_wp2_with (first | ((with_reducible refine qh_ (N := 0) rfl ?_); refine be_ (cs := #[.string ⟨#[]⟩, .string ⟨#[]⟩, .int .i64 0, .int .i64 0]) (t := 24) ?_; intro g139 hg w1 hbox hb; have K139 := qa_.mk (hbox); have W139 := ag_ hg HB; have E139 := ag_ hg HB; replace HB := ah_ HB hb; clear hb hbox hg; obtain ⟨Z2_0, Z2_1, Z2_2, Z2_3, F2⟩ := bc4 K139.out)); refine bodyPost_ret (results_cell_row rfl _ _ g139 24 #[.string ⟨#[97]⟩, .string ⟨#[97, 64, 98]⟩, .int .i64 5, .int .i64 60] (0, 0) _ rfl (by have b_ := K139; exact zb_) underlying24 rfl (by kernel_rfl)) rfl ?_; exact ⟨z3_, hs_⟩
def qdy_.f (a0 : Int) : Option (ByteArray) := (qda_.f (Int.tmod (wrap64 (Int.tdiv a0 10)) 10)).bind fun t125 => ((qda_.f (Int.tmod a0 10)).bind fun t126 => (if t125.size + t126.size ≤ 9223372036854775807 then (some (t125 ++ t126)) else (none)))
theorem qdy_.calls (a0 : Int) (r : ByteArray) (w : World) (hgv : GV w) (h : qdy_.f a0 = some r) :
  Calls Tryz.prog 90 #[.int .i64 a0] w fun e w' => e = .returned (.string r) ∧ Below w.heap.size w w' := by
 have HB := qa_.mk (Below.refl w.heap.size w); unfold qdy_.f at h; have H := h; clear h; obtain ⟨t125, A2, H⟩ := bx_ H; obtain ⟨t126, A3, H⟩ := bx_ H; by_cases c4 : t125.size + t126.size ≤ 9223372036854775807; rotate_left
 ·rw [if_neg c4] at H; exact no_ H
 rw [if_pos c4] at H; have c4b0 := eq_true c4; have c4b1 := dt_ c4; try have c4b2 := nl_ c4
 obtain rfl := oi_ H; go_enter func90, ntmps90; have tk7_ : True := trivial; have tk8_ : True := trivial; go_wp2_with (first | (have _t := tk7_; (with_reducible refine qb_ (f := 91) rfl ?_); refine gl_ (some 6) func91 #[.int .i64 (Int.tmod (wrap64 (Int.tdiv a0 10)) 10)] ?_; (with_reducible refine (qda_.calls (Int.tmod (wrap64 (Int.tdiv a0 10)) 10) t125 _ ?side1 A2.out).mono ?_); (case side1 => exact GV.below hgv (hb_ HB.out)); rintro e w5 ⟨rfl, hb⟩; refine ⟨_, rfl, ?_⟩; replace HB := ah_ HB hb; (try clear hb); (try clear hb2); (try clear hk); (try clear hi); clear tk7_) | (have _t := tk8_; (with_reducible refine qb_ (f := 91) rfl ?_); refine gl_ (some 9) func91 #[.int .i64 (Int.tmod a0 10)] ?_; (with_reducible refine (qda_.calls (Int.tmod a0 10) t126 _ ?side1 A3.out).mono ?_); (case side1 => exact GV.below hgv (hb_ HB.out)); rintro e w6 ⟨rfl, hb⟩; refine ⟨_, rfl, ?_⟩; replace HB := ah_ HB hb; (try clear hb); (try clear hb2); (try clear hk); (try clear hi); clear tk8_)); go_ret
 exact ⟨z3_, hb_ HB.out⟩
def qcz_.f (a0_0 : ByteArray) (a0_1 : ByteArray) (a0_2 : Int) (a0_3 : Int) : Option (ByteArray) := if a0_3 < 0 then (if a0_0.size + 2 ≤ 9223372036854775807 then (if (a0_0 ++ (⟨#[32, 60]⟩ : ByteArray)).size + a0_1.size ≤ 9223372036854775807 then (if ((a0_0 ++ (⟨#[32, 60]⟩ : ByteArray)) ++ a0_1).size + 2 ≤ 9223372036854775807 then ((qda_.f a0_2).bind fun t102 => (if (((a0_0 ++ (⟨#[32, 60]⟩ : ByteArray)) ++ a0_1) ++ (⟨#[62, 32]⟩ : ByteArray)).size + t102.size ≤ 9223372036854775807 then (if ((((a0_0 ++ (⟨#[32, 60]⟩ : ByteArray)) ++ a0_1) ++ (⟨#[62, 32]⟩ : ByteArray)) ++ t102).size + 1 ≤ 9223372036854775807 then (if (((((a0_0 ++ (⟨#[32, 60]⟩ : ByteArray)) ++ a0_1) ++ (⟨#[62, 32]⟩ : ByteArray)) ++ t102) ++ (⟨#[32]⟩ : ByteArray)).size + 1 ≤ 9223372036854775807 then ((qdy_.f (wrap64 (Int.tdiv (wrap64 (-a0_3)) 60))).bind fun t103 => (if ((((((a0_0 ++ (⟨#[32, 60]⟩ : ByteArray)) ++ a0_1) ++ (⟨#[62, 32]⟩ : ByteArray)) ++ t102) ++ (⟨#[32]⟩ : ByteArray)) ++ (⟨#[45]⟩ : ByteArray)).size + t103.size ≤ 9223372036854775807 then ((qdy_.f (Int.tmod (wrap64 (-a0_3)) 60)).bind fun t104 => (if (((((((a0_0 ++ (⟨#[32, 60]⟩ : ByteArray)) ++ a0_1) ++ (⟨#[62, 32]⟩ : ByteArray)) ++ t102) ++ (⟨#[32]⟩ : ByteArray)) ++ (⟨#[45]⟩ : ByteArray)) ++ t103).size + t104.size ≤ 9223372036854775807 then (some ((((((((a0_0 ++ (⟨#[32, 60]⟩ : ByteArray)) ++ a0_1) ++ (⟨#[62, 32]⟩ : ByteArray)) ++ t102) ++ (⟨#[32]⟩ : ByteArray)) ++ (⟨#[45]⟩ : ByteArray)) ++ t103) ++ t104)) else (none))) else (none))) else (none)) else (none)) else (none))) else (none)) else (none)) else (none)) else (if a0_0.size + 2 ≤ 9223372036854775807 then (if (a0_0 ++ (⟨#[32, 60]⟩ : ByteArray)).size + a0_1.size ≤ 9223372036854775807 then (if ((a0_0 ++ (⟨#[32, 60]⟩ : ByteArray)) ++ a0_1).size + 2 ≤ 9223372036854775807 then ((qda_.f a0_2).bind fun t105 => (if (((a0_0 ++ (⟨#[32, 60]⟩ : ByteArray)) ++ a0_1) ++ (⟨#[62, 32]⟩ : ByteArray)).size + t105.size ≤ 9223372036854775807 then (if ((((a0_0 ++ (⟨#[32, 60]⟩ : ByteArray)) ++ a0_1) ++ (⟨#[62, 32]⟩ : ByteArray)) ++ t105).size + 1 ≤ 9223372036854775807 then (if (((((a0_0 ++ (⟨#[32, 60]⟩ : ByteArray)) ++ a0_1) ++ (⟨#[62, 32]⟩ : ByteArray)) ++ t105) ++ (⟨#[32]⟩ : ByteArray)).size + 1 ≤ 9223372036854775807 then ((qdy_.f (wrap64 (Int.tdiv a0_3 60))).bind fun t106 => (if ((((((a0_0 ++ (⟨#[32, 60]⟩ : ByteArray)) ++ a0_1) ++ (⟨#[62, 32]⟩ : ByteArray)) ++ t105) ++ (⟨#[32]⟩ : ByteArray)) ++ (⟨#[43]⟩ : ByteArray)).size + t106.size ≤ 9223372036854775807 then ((qdy_.f (Int.tmod a0_3 60)).bind fun t107 => (if (((((((a0_0 ++ (⟨#[32, 60]⟩ : ByteArray)) ++ a0_1) ++ (⟨#[62, 32]⟩ : ByteArray)) ++ t105) ++ (⟨#[32]⟩ : ByteArray)) ++ (⟨#[43]⟩ : ByteArray)) ++ t106).size + t107.size ≤ 9223372036854775807 then (some ((((((((a0_0 ++ (⟨#[32, 60]⟩ : ByteArray)) ++ a0_1) ++ (⟨#[62, 32]⟩ : ByteArray)) ++ t105) ++ (⟨#[32]⟩ : ByteArray)) ++ (⟨#[43]⟩ : ByteArray)) ++ t106) ++ t107)) else (none))) else (none))) else (none)) else (none)) else (none))) else (none)) else (none)) else (none))
def qcz_.T5 : Bool × List (List Nat × List Nat) := (true, [([], []), ([0], [0]), ([1], [1]), ([], []), ([3], [3]), ([2, 4], [2, 4]), ([5], [5]), ([], []), ([7], [7]), ([8], [8]), ([6, 9], [6, 9]), ([10], [10]), ([], []), ([11, 12], [11, 12]), ([], []), ([], []), ([15], [15]), ([14, 16, 9], [14, 16]), ([13, 17], [13, 17]), ([], []), ([], []), ([20], [20]), ([19, 21, 17], [19, 21]), ([18, 22], [18, 22]), ([23, 22, 0, 1, 2, 3, 4, 5, 6, 7, 8, 9, 10, 11, 12, 13, 14, 15, 16, 17, 18, 19, 20, 21, 22, 23], [23])])
def qcz_.B5 : List Nat := [0, 1, 3, 0, 8, 31, 63, 0, 128, 384, 1023, 2047, 0, 8191, 0, 0, 32768, 115584, 262143, 0, 0, 1048576, 3916672, 8388607, 16777215]
theorem qcz_.tab5 : rtab .any (opsOf Tryz.f31 5) = qcz_.T5 := by kernel_rfl
theorem qcz_.bits5 : qdu_ qcz_.T5.2 qcz_.B5 = true := by kernel_rfl
theorem qcz_.calls (a0_0 : ByteArray) (a0_1 : ByteArray) (a0_2 : Int) (a0_3 : Int) (r : ByteArray) (w : World) (hgv : GV w) (h : qcz_.f a0_0 a0_1 a0_2 a0_3 = some r) :
  Calls Tryz.prog 31 #[.agg #[.string a0_0, .string a0_1, .int .i64 a0_2, .int .i64 a0_3]] w fun e w' => e = .returned (.string r) ∧ Below w.heap.size w w' := by
 have hu24 := underlying24; have HB := qa_.mk (Below.refl w.heap.size w); unfold qcz_.f at h; have H := h; clear h; by_cases c2 : a0_3 < 0
 ·rw [if_pos c2] at H; have c2b0 := dt_ c2; clear c2; by_cases c3 : a0_0.size + 2 ≤ 9223372036854775807; rotate_left
  ·rw [if_neg c3] at H; exact no_ H
  rw [if_pos c3] at H; have c3b0 := eq_true c3; have c3b1 := dt_ c3; try have c3b2 := nl_ c3
  by_cases c4 : (a0_0 ++ (⟨#[32, 60]⟩ : ByteArray)).size + a0_1.size ≤ 9223372036854775807; rotate_left
  ·rw [if_neg c4] at H; exact no_ H
  rw [if_pos c4] at H; have c4b0 := eq_true c4; have c4b1 := dt_ c4; try have c4b3 : (9223372036854775807 < a0_0.size + 2 + a0_1.size) = False := have h_ := c4; ns_
  try have c4b2 := nl_ c4
  by_cases c5 : ((a0_0 ++ (⟨#[32, 60]⟩ : ByteArray)) ++ a0_1).size + 2 ≤ 9223372036854775807; rotate_left
  ·rw [if_neg c5] at H; exact no_ H
  rw [if_pos c5] at H; have c5b0 := eq_true c5; have c5b1 := dt_ c5; try have c5b3 : (9223372036854775807 < a0_0.size + 2 + a0_1.size + 2) = False := have h_ := c5; ns_
  try have c5b2 := nl_ c5
  obtain ⟨t102, A6, H⟩ := bx_ H; by_cases c7 : (((a0_0 ++ (⟨#[32, 60]⟩ : ByteArray)) ++ a0_1) ++ (⟨#[62, 32]⟩ : ByteArray)).size + t102.size ≤ 9223372036854775807; rotate_left
  ·rw [if_neg c7] at H; exact no_ H
  rw [if_pos c7] at H; have c7b0 := eq_true c7; have c7b1 := dt_ c7; try have c7b3 : (9223372036854775807 < a0_0.size + 2 + a0_1.size + 2 + t102.size) = False := have h_ := c7; ns_
  try have c7b2 := nl_ c7
  by_cases c8 : ((((a0_0 ++ (⟨#[32, 60]⟩ : ByteArray)) ++ a0_1) ++ (⟨#[62, 32]⟩ : ByteArray)) ++ t102).size + 1 ≤ 9223372036854775807; rotate_left
  ·rw [if_neg c8] at H; exact no_ H
  rw [if_pos c8] at H; have c8b0 := eq_true c8; have c8b1 := dt_ c8; try have c8b3 : (9223372036854775807 < a0_0.size + 2 + a0_1.size + 2 + t102.size + 1) = False := have h_ := c8; ns_
  try have c8b2 := nl_ c8
  by_cases c9 : (((((a0_0 ++ (⟨#[32, 60]⟩ : ByteArray)) ++ a0_1) ++ (⟨#[62, 32]⟩ : ByteArray)) ++ t102) ++ (⟨#[32]⟩ : ByteArray)).size + 1 ≤ 9223372036854775807; rotate_left
  ·rw [if_neg c9] at H; exact no_ H
  rw [if_pos c9] at H; have c9b0 := eq_true c9; have c9b1 := dt_ c9; try have c9b3 : (9223372036854775807 < a0_0.size + 2 + a0_1.size + 2 + t102.size + 1 + 1) = False := have h_ := c9; ns_
  try have c9b2 := nl_ c9
  obtain ⟨t103, A10, H⟩ := bx_ H; by_cases c11 : ((((((a0_0 ++ (⟨#[32, 60]⟩ : ByteArray)) ++ a0_1) ++ (⟨#[62, 32]⟩ : ByteArray)) ++ t102) ++ (⟨#[32]⟩ : ByteArray)) ++ (⟨#[45]⟩ : ByteArray)).size + t103.size ≤ 9223372036854775807; rotate_left
  ·rw [if_neg c11] at H; exact no_ H
  rw [if_pos c11] at H; have c11b0 := eq_true c11; have c11b1 := dt_ c11; try have c11b3 : (9223372036854775807 < a0_0.size + 2 + a0_1.size + 2 + t102.size + 1 + 1 + t103.size) = False := have h_ := c11; ns_
  try have c11b2 := nl_ c11
  obtain ⟨t104, A12, H⟩ := bx_ H; by_cases c13 : (((((((a0_0 ++ (⟨#[32, 60]⟩ : ByteArray)) ++ a0_1) ++ (⟨#[62, 32]⟩ : ByteArray)) ++ t102) ++ (⟨#[32]⟩ : ByteArray)) ++ (⟨#[45]⟩ : ByteArray)) ++ t103).size + t104.size ≤ 9223372036854775807; rotate_left
  ·rw [if_neg c13] at H; exact no_ H
  rw [if_pos c13] at H; have c13b0 := eq_true c13; have c13b1 := dt_ c13; try have c13b3 : (9223372036854775807 < a0_0.size + 2 + a0_1.size + 2 + t102.size + 1 + 1 + t103.size + t104.size) = False := have h_ := c13; ns_
  try have c13b2 := nl_ c13
  obtain rfl := oi_ H; go_enter func31, ntmps31; try go_wp2_with (first | ((with_reducible refine qh_ (N := 1) rfl ?_); refine be_ (cs := #[.string a0_0, .string a0_1, .int .i64 a0_2, .int .i64 a0_3]) (t := 24) ?_; intro g101 hg w14 hbox hb; have K101 := qa_.mk (hbox); have W101 := ag_ hg HB; have E101 := ag_ hg HB; replace HB := ah_ HB hb; clear hb hbox hg)); replace K101 := ad_ K101; replace HB := hd_ HB; refine qdm_ (n := 4) (S := fun w' => w'.cell? ⟨g101, 0, none⟩ = some (.string a0_0) ∧ w'.cell? ⟨g101, 1, none⟩ = some (.string a0_1) ∧ w'.cell? ⟨g101, 2, none⟩ = some (.int .i64 a0_2) ∧ w'.cell? ⟨g101, 3, none⟩ = some (.int .i64 a0_3)) (ds := []) (bs 4 0) (by kernel_rfl) rfl rfl (bc4o K101.out) (fun qn_ => ?_); generalize w14.drew = w15 at K101 HB qn_ ⊢; refine pkn_ 0 6 4 1 ?_; refine pkn_ 2 3 4 5 ?_; refine tkK4n_ 1 7 4 7 qn_ ?_; refine pkn_ 3 4 4 15 ?_; refine done_ (by kernel_rfl) ?_; try go_wp2
  replace K101 := ad_ K101; replace HB := hd_ HB; refine qdm_ (n := 25) (S := fun w' => w'.cell? ⟨g101, 0, none⟩ = some (.string a0_0) ∧ w'.cell? ⟨g101, 1, none⟩ = some (.string a0_1) ∧ w'.cell? ⟨g101, 2, none⟩ = some (.int .i64 a0_2) ∧ w'.cell? ⟨g101, 3, none⟩ = some (.int .i64 a0_3)) (ds := []) (bs 25 0) (by kernel_rfl) rfl rfl (bc4o K101.out) (fun qn_ => ?_); refine qdg_ qcz_.tab5 qcz_.bits5 (fun HT_ HW_ => ?_); generalize w15.drew = w16 at K101 HB qn_ ⊢; refine pun_ 0 12 25 1 ?_; refine pun_ 3 15 25 9 ?_; refine pun_ 7 19 25 137 ?_; refine pun_ 12 24 25 4233 ?_; refine pun_ 14 26 25 20617 ?_; refine pun_ 15 27 25 53385 ?_; refine pun_ 16 28 25 118921 ?_; refine pun_ 19 31 25 643209 ?_; refine pun_ 20 32 25 1691785 ?_; refine pun_ 21 33 25 3788937 ?_; refine tkW4n_ 1 13 25 3788939 qn_ ?_; refine pun_ 2 14 25 3788943 ?_; refine tkW4n_ 4 16 25 3788959 qn_ ?_; refine pun_ 5 17 25 3788991 ?_; refine pun_ 6 18 25 3789055 ?_; refine tkW4n_ 8 20 25 3789311 qn_ ?_; refine on_ 9 21 25 3789823 (fun K hK => ?_); refine goes_ func91 (by kernel_rfl) rfl #[.int .i64 a0_2] (by rfl) rfl rfl z5_ ?_
  with_reducible refine (qda_.calls a0_2 t102 _ ?side1 A6.out).mono ?_
  (case side1 => exact GV.below hgv (hs_))
  rintro e w17 ⟨rfl, hb⟩; refine ⟨_, rfl, ?_⟩; replace K101 := ab_ K101 hb; replace HB := hr_ hb; (try clear hb)
  (try clear hb2)
  (try clear hk)
  (try clear hi)
  refine hK.out _ _ (bc4o K101.out) (fun qn_ => ?_); clear hK K; refine nrm_ 21 ?_
  refine pun_ 10 22 25 3790847 ?_; refine pun_ 11 23 25 3792895 ?_; refine pun_ 13 25 25 3801087 ?_; refine on_ 17 29 25 3932159 (fun K hK => ?_); refine goesT_ func90 (by kernel_rfl) rfl #[.int .i64 (wrap64 (Int.tdiv (wrap64 (-a0_3)) 60))] (by rfl) rfl rfl rfl z8_ ?_
  with_reducible refine (qdy_.calls (wrap64 (Int.tdiv (wrap64 (-a0_3)) 60))  t103 _ ?side1 A10.out).mono ?_
  (case side1 => exact GV.below hgv (hs_))
  rintro e w18 ⟨rfl, hb⟩; refine ⟨_, rfl, ?_⟩; replace K101 := ab_ K101 hb; replace HB := hr_ hb; (try clear hb)
  (try clear hb2)
  (try clear hk)
  (try clear hi)
  refine hK.out _ _ (bc4o K101.out) (fun qn_ => ?_); clear hK K; refine nrm_ 29 ?_
  refine pun_ 18 30 25 4194303 ?_; refine on_ 22 34 25 8388607 (fun K hK => ?_); refine goesT_ func90 (by kernel_rfl) rfl #[.int .i64 (Int.tmod (wrap64 (-a0_3)) 60)] (by rfl) rfl rfl rfl z8_ ?_
  with_reducible refine (qdy_.calls (Int.tmod (wrap64 (-a0_3)) 60)  t104 _ ?side1 A12.out).mono ?_
  (case side1 => exact GV.below hgv (hs_))
  rintro e w19 ⟨rfl, hb⟩; refine ⟨_, rfl, ?_⟩; replace K101 := ab_ K101 hb; replace HB := hr_ hb; (try clear hb)
  (try clear hb2)
  (try clear hk)
  (try clear hi)
  refine hK.out _ _ (bc4o K101.out) (fun qn_ => ?_); clear hK K; refine nrm_ 34 ?_
  refine pun_ 23 35 25 16777215 ?_; refine pun_ 24 2 25 33554431 ?_; refine dn_ ?_; try go_wp2
  go_ret
  exact ⟨z3_, hs_⟩
 rw [if_neg c2] at H; have c2b0 := df_ c2; clear c2; by_cases c20 : a0_0.size + 2 ≤ 9223372036854775807; rotate_left
 ·rw [if_neg c20] at H; exact no_ H
 rw [if_pos c20] at H; have c20b0 := eq_true c20; have c20b1 := dt_ c20; try have c20b2 := nl_ c20
 by_cases c21 : (a0_0 ++ (⟨#[32, 60]⟩ : ByteArray)).size + a0_1.size ≤ 9223372036854775807; rotate_left
 ·rw [if_neg c21] at H; exact no_ H
 rw [if_pos c21] at H; have c21b0 := eq_true c21; have c21b1 := dt_ c21; try have c21b3 : (9223372036854775807 < a0_0.size + 2 + a0_1.size) = False := have h_ := c21; ns_
 try have c21b2 := nl_ c21
 by_cases c22 : ((a0_0 ++ (⟨#[32, 60]⟩ : ByteArray)) ++ a0_1).size + 2 ≤ 9223372036854775807; rotate_left
 ·rw [if_neg c22] at H; exact no_ H
 rw [if_pos c22] at H; have c22b0 := eq_true c22; have c22b1 := dt_ c22; try have c22b3 : (9223372036854775807 < a0_0.size + 2 + a0_1.size + 2) = False := have h_ := c22; ns_
 try have c22b2 := nl_ c22
 obtain ⟨t105, A23, H⟩ := bx_ H; by_cases c24 : (((a0_0 ++ (⟨#[32, 60]⟩ : ByteArray)) ++ a0_1) ++ (⟨#[62, 32]⟩ : ByteArray)).size + t105.size ≤ 9223372036854775807; rotate_left
 ·rw [if_neg c24] at H; exact no_ H
 rw [if_pos c24] at H; have c24b0 := eq_true c24; have c24b1 := dt_ c24; try have c24b3 : (9223372036854775807 < a0_0.size + 2 + a0_1.size + 2 + t105.size) = False := have h_ := c24; ns_
 try have c24b2 := nl_ c24
 by_cases c25 : ((((a0_0 ++ (⟨#[32, 60]⟩ : ByteArray)) ++ a0_1) ++ (⟨#[62, 32]⟩ : ByteArray)) ++ t105).size + 1 ≤ 9223372036854775807; rotate_left
 ·rw [if_neg c25] at H; exact no_ H
 rw [if_pos c25] at H; have c25b0 := eq_true c25; have c25b1 := dt_ c25; try have c25b3 : (9223372036854775807 < a0_0.size + 2 + a0_1.size + 2 + t105.size + 1) = False := have h_ := c25; ns_
 try have c25b2 := nl_ c25
 by_cases c26 : (((((a0_0 ++ (⟨#[32, 60]⟩ : ByteArray)) ++ a0_1) ++ (⟨#[62, 32]⟩ : ByteArray)) ++ t105) ++ (⟨#[32]⟩ : ByteArray)).size + 1 ≤ 9223372036854775807; rotate_left
 ·rw [if_neg c26] at H; exact no_ H
 rw [if_pos c26] at H; have c26b0 := eq_true c26; have c26b1 := dt_ c26; try have c26b3 : (9223372036854775807 < a0_0.size + 2 + a0_1.size + 2 + t105.size + 1 + 1) = False := have h_ := c26; ns_
 try have c26b2 := nl_ c26
 obtain ⟨t106, A27, H⟩ := bx_ H; by_cases c28 : ((((((a0_0 ++ (⟨#[32, 60]⟩ : ByteArray)) ++ a0_1) ++ (⟨#[62, 32]⟩ : ByteArray)) ++ t105) ++ (⟨#[32]⟩ : ByteArray)) ++ (⟨#[43]⟩ : ByteArray)).size + t106.size ≤ 9223372036854775807; rotate_left
 ·rw [if_neg c28] at H; exact no_ H
 rw [if_pos c28] at H; have c28b0 := eq_true c28; have c28b1 := dt_ c28; try have c28b3 : (9223372036854775807 < a0_0.size + 2 + a0_1.size + 2 + t105.size + 1 + 1 + t106.size) = False := have h_ := c28; ns_
 try have c28b2 := nl_ c28
 obtain ⟨t107, A29, H⟩ := bx_ H; by_cases c30 : (((((((a0_0 ++ (⟨#[32, 60]⟩ : ByteArray)) ++ a0_1) ++ (⟨#[62, 32]⟩ : ByteArray)) ++ t105) ++ (⟨#[32]⟩ : ByteArray)) ++ (⟨#[43]⟩ : ByteArray)) ++ t106).size + t107.size ≤ 9223372036854775807; rotate_left
 ·rw [if_neg c30] at H; exact no_ H
 rw [if_pos c30] at H; have c30b0 := eq_true c30; have c30b1 := dt_ c30; try have c30b3 : (9223372036854775807 < a0_0.size + 2 + a0_1.size + 2 + t105.size + 1 + 1 + t106.size + t107.size) = False := have h_ := c30; ns_
 try have c30b2 := nl_ c30
 obtain rfl := oi_ H; go_enter func31, ntmps31; try go_wp2_with (first | ((with_reducible refine qh_ (N := 1) rfl ?_); refine be_ (cs := #[.string a0_0, .string a0_1, .int .i64 a0_2, .int .i64 a0_3]) (t := 24) ?_; intro g101 hg w31 hbox hb; have K101 := qa_.mk (hbox); have W101 := ag_ hg HB; have E101 := ag_ hg HB; replace HB := ah_ HB hb; clear hb hbox hg)); replace K101 := ad_ K101; replace HB := hd_ HB; refine qdm_ (n := 4) (S := fun w' => w'.cell? ⟨g101, 0, none⟩ = some (.string a0_0) ∧ w'.cell? ⟨g101, 1, none⟩ = some (.string a0_1) ∧ w'.cell? ⟨g101, 2, none⟩ = some (.int .i64 a0_2) ∧ w'.cell? ⟨g101, 3, none⟩ = some (.int .i64 a0_3)) (ds := []) (bs 4 0) (by kernel_rfl) rfl rfl (bc4o K101.out) (fun qn_ => ?_); generalize w31.drew = w32 at K101 HB qn_ ⊢; refine pkn_ 0 6 4 1 ?_; refine pkn_ 2 3 4 5 ?_; refine tkK4n_ 1 7 4 7 qn_ ?_; refine pkn_ 3 4 4 15 ?_; refine done_ (by kernel_rfl) ?_; try go_wp2
 replace K101 := ad_ K101; replace HB := hd_ HB; refine qdm_ (n := 25) (S := fun w' => w'.cell? ⟨g101, 0, none⟩ = some (.string a0_0) ∧ w'.cell? ⟨g101, 1, none⟩ = some (.string a0_1) ∧ w'.cell? ⟨g101, 2, none⟩ = some (.int .i64 a0_2) ∧ w'.cell? ⟨g101, 3, none⟩ = some (.int .i64 a0_3)) (ds := []) (bs 25 0) (by kernel_rfl) rfl rfl (bc4o K101.out) (fun qn_ => ?_); refine qdg_ qcz_.tab5 qcz_.bits5 (fun HT_ HW_ => ?_); generalize w32.drew = w33 at K101 HB qn_ ⊢; refine pun_ 0 12 25 1 ?_; refine pun_ 3 15 25 9 ?_; refine pun_ 7 19 25 137 ?_; refine pun_ 12 24 25 4233 ?_; refine pun_ 14 26 25 20617 ?_; refine pun_ 15 27 25 53385 ?_; refine pun_ 16 28 25 118921 ?_; refine pun_ 19 31 25 643209 ?_; refine pun_ 20 32 25 1691785 ?_; refine pun_ 21 33 25 3788937 ?_; refine tkW4n_ 1 13 25 3788939 qn_ ?_; refine pun_ 2 14 25 3788943 ?_; refine tkW4n_ 4 16 25 3788959 qn_ ?_; refine pun_ 5 17 25 3788991 ?_; refine pun_ 6 18 25 3789055 ?_; refine tkW4n_ 8 20 25 3789311 qn_ ?_; refine on_ 9 21 25 3789823 (fun K hK => ?_); refine goes_ func91 (by kernel_rfl) rfl #[.int .i64 a0_2] (by rfl) rfl rfl z5_ ?_
 with_reducible refine (qda_.calls a0_2 t105 _ ?side1 A23.out).mono ?_
 (case side1 => exact GV.below hgv (hs_))
 rintro e w34 ⟨rfl, hb⟩; refine ⟨_, rfl, ?_⟩; replace K101 := ab_ K101 hb; replace HB := hr_ hb; (try clear hb)
 (try clear hb2)
 (try clear hk)
 (try clear hi)
 refine hK.out _ _ (bc4o K101.out) (fun qn_ => ?_); clear hK K; refine nrm_ 21 ?_
 refine pun_ 10 22 25 3790847 ?_; refine pun_ 11 23 25 3792895 ?_; refine pun_ 13 25 25 3801087 ?_; refine on_ 17 29 25 3932159 (fun K hK => ?_); refine goesT_ func90 (by kernel_rfl) rfl #[.int .i64 (wrap64 (Int.tdiv a0_3 60))] (by rfl) rfl rfl rfl z8_ ?_
 with_reducible refine (qdy_.calls (wrap64 (Int.tdiv a0_3 60))  t106 _ ?side1 A27.out).mono ?_
 (case side1 => exact GV.below hgv (hs_))
 rintro e w35 ⟨rfl, hb⟩; refine ⟨_, rfl, ?_⟩; replace K101 := ab_ K101 hb; replace HB := hr_ hb; (try clear hb)
 (try clear hb2)
 (try clear hk)
 (try clear hi)
 refine hK.out _ _ (bc4o K101.out) (fun qn_ => ?_); clear hK K; refine nrm_ 29 ?_
 refine pun_ 18 30 25 4194303 ?_; refine on_ 22 34 25 8388607 (fun K hK => ?_); refine goesT_ func90 (by kernel_rfl) rfl #[.int .i64 (Int.tmod a0_3 60)] (by rfl) rfl rfl rfl z8_ ?_
 with_reducible refine (qdy_.calls (Int.tmod a0_3 60)  t107 _ ?side1 A29.out).mono ?_
 (case side1 => exact GV.below hgv (hs_))
 rintro e w36 ⟨rfl, hb⟩; refine ⟨_, rfl, ?_⟩; replace K101 := ab_ K101 hb; replace HB := hr_ hb; (try clear hb)
 (try clear hb2)
 (try clear hk)
 (try clear hi)
 refine hK.out _ _ (bc4o K101.out) (fun qn_ => ?_); clear hK K; refine nrm_ 34 ?_
 refine pun_ 23 35 25 16777215 ?_; refine pun_ 24 2 25 33554431 ?_; refine dn_ ?_; try go_wp2
 go_ret
 exact ⟨z3_, hs_⟩
def qbw_.l0 : Nat → ByteArray → List ByteArray → Int → Int → ByteArray → List ByteArray → ByteArray → ByteArray → Int → Int → ByteArray → ByteArray → Int → Int → ByteArray → Option (ByteArray × Int)
 | 0, _, _, _, _, _, _, _, _, _, _, _, _, _, _, _ => none
 | k + 1, x5, x18, x19, x20, x102000, x102001, x102002, x102003, x102004, x102005, x102006, x102007, x102008, x102009, x102010 => if x20 < x19 then (if 0 ≤ x20 then (if x20 < (x18.length : Int) then (if 7 + (rdOf ByteArray.empty x18 x20).size ≤ 9223372036854775807 then (if ((⟨#[112, 97, 114, 101, 110, 116, 32]⟩ : ByteArray) ++ (rdOf ByteArray.empty x18 x20)).size + 1 ≤ 9223372036854775807 then (if x5.size + (((⟨#[112, 97, 114, 101, 110, 116, 32]⟩ : ByteArray) ++ (rdOf ByteArray.empty x18 x20)) ++ (⟨#[10]⟩ : ByteArray)).size ≤ 9223372036854775807 then (qbw_.l0 k (x5 ++ (((⟨#[112, 97, 114, 101, 110, 116, 32]⟩ : ByteArray) ++ (rdOf ByteArray.empty x18 x20)) ++ (⟨#[10]⟩ : ByteArray))) x18 x19 (wrap64 (x20 + 1)) x102000 x102001 x102002 x102003 x102004 x102005 x102006 x102007 x102008 x102009 x102010) else (none)) else (none)) else (none)) else (none)) else (none)) else (if x5.size + 7 ≤ 9223372036854775807 then ((qcz_.f x102002 x102003 x102004 x102005).bind fun t104 => (if (x5 ++ (⟨#[97, 117, 116, 104, 111, 114, 32]⟩ : ByteArray)).size + t104.size ≤ 9223372036854775807 then (if ((x5 ++ (⟨#[97, 117, 116, 104, 111, 114, 32]⟩ : ByteArray)) ++ t104).size + 11 ≤ 9223372036854775807 then ((qcz_.f x102006 x102007 x102008 x102009).bind fun t105 => (if (((x5 ++ (⟨#[97, 117, 116, 104, 111, 114, 32]⟩ : ByteArray)) ++ t104) ++ (⟨#[10, 99, 111, 109, 109, 105, 116, 116, 101, 114, 32]⟩ : ByteArray)).size + t105.size ≤ 9223372036854775807 then (if ((((x5 ++ (⟨#[97, 117, 116, 104, 111, 114, 32]⟩ : ByteArray)) ++ t104) ++ (⟨#[10, 99, 111, 109, 109, 105, 116, 116, 101, 114, 32]⟩ : ByteArray)) ++ t105).size + 2 ≤ 9223372036854775807 then (if (((((x5 ++ (⟨#[97, 117, 116, 104, 111, 114, 32]⟩ : ByteArray)) ++ t104) ++ (⟨#[10, 99, 111, 109, 109, 105, 116, 116, 101, 114, 32]⟩ : ByteArray)) ++ t105) ++ (⟨#[10, 10]⟩ : ByteArray)).size + x102010.size ≤ 9223372036854775807 then (some ((((((x5 ++ (⟨#[97, 117, 116, 104, 111, 114, 32]⟩ : ByteArray)) ++ t104) ++ (⟨#[10, 99, 111, 109, 109, 105, 116, 116, 101, 114, 32]⟩ : ByteArray)) ++ t105) ++ (⟨#[10, 10]⟩ : ByteArray)) ++ x102010, 0)) else (none)) else (none)) else (none))) else (none)) else (none))) else (none))
def qbw_.f (k : Nat) (a0_0 : ByteArray) (l0_1 : List ByteArray) (a0_2 : ByteArray) (a0_3 : ByteArray) (a0_4 : Int) (a0_5 : Int) (a0_6 : ByteArray) (a0_7 : ByteArray) (a0_8 : Int) (a0_9 : Int) (a0_10 : ByteArray) : Option (ByteArray × Int) := (qv_.f k a0_0 l0_1 a0_2 a0_3 a0_4 a0_5 a0_6 a0_7 a0_8 a0_9 a0_10).bind fun t102 => (if t102 = 0 then (if 5 + a0_0.size ≤ 9223372036854775807 then (if ((⟨#[116, 114, 101, 101, 32]⟩ : ByteArray) ++ a0_0).size + 1 ≤ 9223372036854775807 then (qbw_.l0 k (((⟨#[116, 114, 101, 101, 32]⟩ : ByteArray) ++ a0_0) ++ (⟨#[10]⟩ : ByteArray)) l0_1 (l0_1.length : Int) 0 a0_0 l0_1 a0_2 a0_3 a0_4 a0_5 a0_6 a0_7 a0_8 a0_9 a0_10) else (none)) else (none)) else (some ((⟨#[]⟩ : ByteArray), t102)))
theorem qbw_.mono_l : ∀ k, (∀ y0 y1 y2 y3 y4 y5 y6 y7 y8 y9 y10 y11 y12 y13 y14, LeO (qbw_.l0 k y0 y1 y2 y3 y4 y5 y6 y7 y8 y9 y10 y11 y12 y13 y14) (qbw_.l0 (k + 1) y0 y1 y2 y3 y4 y5 y6 y7 y8 y9 y10 y11 y12 y13 y14))
 | 0 => fun _ _ _ _ _ _ _ _ _ _ _ _ _ _ _ r h => by simp [qbw_.l0] at h
 | k + 1 => by
  have ih0 := qbw_.mono_l k
  ·intro y0 y1 y2 y3 y4 y5 y6 y7 y8 y9 y10 y11 y12 y13 y14
   unfold qbw_.l0
   have m0_ := @ih0
   have m1_ := @qv_.mono
   exact mz_
theorem qbw_.mono : ∀ a0 a1 a2 a3 a4 a5 a6 a7 a8 a9 a10 k, LeO (qbw_.f k a0 a1 a2 a3 a4 a5 a6 a7 a8 a9 a10) (qbw_.f (k + 1) a0 a1 a2 a3 a4 a5 a6 a7 a8 a9 a10) := by
 intro a0 a1 a2 a3 a4 a5 a6 a7 a8 a9 a10 k; have ih0 := qbw_.mono_l k; unfold qbw_.f; have m0_ := @ih0; have m1_ := @qv_.mono; exact mz_
def qbw_.T10 : Bool × List (List Nat × List Nat) := (true, [([], []), ([0], [0]), ([], []), ([2], [2]), ([3], [3]), ([1, 4], [1, 4]), ([5], [5]), ([], []), ([7], [7]), ([8, 4], [8]), ([6, 9], [6, 9]), ([10], [10]), ([], []), ([12], [12]), ([11, 13], [11, 13]), ([14, 9, 0, 1, 2, 3, 4, 5, 6, 7, 8, 9, 10, 11, 12, 13, 14], [14]), ([15, 0, 1, 2, 3, 4, 5, 6, 7, 8, 9, 10, 11, 12, 13, 14, 15], [])])
def qbw_.B10 : List Nat := [0, 1, 0, 4, 12, 31, 63, 0, 128, 412, 1023, 2047, 0, 4096, 16383, 32767, 65535]
theorem qbw_.tab10 : rtab .any (opsOf Tryz.f16 10) = qbw_.T10 := by kernel_rfl
theorem qbw_.bits10 : qdu_ qbw_.T10.2 qbw_.B10 = true := by kernel_rfl
theorem qbw_.calls (k : Nat) (a0_0 : ByteArray) (A0_1 : Option Addr) (c0_1 : Nat) (l0_1 : List ByteArray) (a0_2 : ByteArray) (a0_3 : ByteArray) (a0_4 : Int) (a0_5 : Int) (a0_6 : ByteArray) (a0_7 : ByteArray) (a0_8 : Int) (a0_9 : Int) (a0_10 : ByteArray) (r1 : ByteArray) (r2 : Int) (w : World) (hr0_1 : Kd.C Kd.string w A0_1 l0_1.length l0_1) (hc0_1 : l0_1.length ≤ c0_1) (hgv : GV w) (h : qbw_.f k a0_0 l0_1 a0_2 a0_3 a0_4 a0_5 a0_6 a0_7 a0_8 a0_9 a0_10 = some (r1, r2)) :
  Calls Tryz.prog 16 #[.agg #[.string a0_0, .slice A0_1 l0_1.length c0_1, .string a0_2, .string a0_3, .int .i64 a0_4, .int .i64 a0_5, .string a0_6, .string a0_7, .int .i64 a0_8, .int .i64 a0_9, .string a0_10]] w fun e w' => e = .returned (.tuple #[.string r1, .int .i64 r2]) ∧ Below w.heap.size w w' := by
 have hu26 := underlying26; have hu24 := underlying24; have HR0_1 := qa_.mk hr0_1; have HC0_1 := qa_.mk hc0_1; clear hr0_1 hc0_1; have HB := qa_.mk (Below.refl w.heap.size w); unfold qbw_.f at h; have H := h; clear h; obtain ⟨t102, A2, H⟩ := bx_ H; by_cases c3 : t102 = 0; rotate_left
 ·rw [if_neg c3] at H; have c3b0 := ef_ c3; have c3b1 := nt_ c3; obtain ⟨rfl, rfl⟩ := pj2_ H; go_enter func16, ntmps16; go_wp2_with (first | ((with_reducible refine qh_ (N := 1) rfl ?_); refine be_ (cs := #[.string a0_0, .slice A0_1 l0_1.length c0_1, .string a0_2, .string a0_3, .int .i64 a0_4, .int .i64 a0_5, .string a0_6, .string a0_7, .int .i64 a0_8, .int .i64 a0_9, .string a0_10]) (t := 26) ?_; intro g101 hg w27 hbox hb; have K101 := qa_.mk (hbox); have W101 := ag_ hg HB; have E101 := ag_ hg HB; replace HB := ah_ HB hb; clear hb hbox hg; obtain ⟨Z28_0, Z28_1, Z28_2, Z28_3, Z28_4, Z28_5, Z28_6, Z28_7, Z28_8, Z28_9, Z28_10, F28⟩ := bc11 K101.out) | ((with_reducible refine qb_ (f := 18) rfl ?_); refine gl_ (some 9) func18 #[.agg #[.string a0_0, .slice A0_1 l0_1.length c0_1, .string a0_2, .string a0_3, .int .i64 a0_4, .int .i64 a0_5, .string a0_6, .string a0_7, .int .i64 a0_8, .int .i64 a0_9, .string a0_10]] ?_; (with_reducible refine (qv_.calls k a0_0 _ _ l0_1 a0_2 a0_3 a0_4 a0_5 a0_6 a0_7 a0_8 a0_9 a0_10 t102 _ ?side1 ?side2 ?side3 A2.out).mono ?_); (case side1 => repeat (first | exact (Kd.C_below HR0_1.out HB.out) | (with_reducible refine Kd.C_alloc ?_ _) | (with_reducible refine Kd.C_drewN ?_ _) | (with_reducible refine Kd.C_drew ?_))); (case side2 => exact HC0_1.out); (case side3 => exact GV.below hgv (hs_)); rintro e w29 ⟨rfl, hb⟩; refine ⟨_, rfl, ?_⟩; replace K101 := ab_ K101 hb; replace HB := hr_ hb; (try clear hb); (try clear hb2); (try clear hk); (try clear hi)))
  go_ret2
  exact ⟨z3_, hs_⟩
 rw [if_pos c3] at H; have c3b0 := et_ c3; have c3b1 := nf_ c3; clear c3; by_cases c4 : 5 + a0_0.size ≤ 9223372036854775807; rotate_left
 ·rw [if_neg c4] at H; exact no_ H
 rw [if_pos c4] at H; have c4b0 := eq_true c4; have c4b1 := dt_ c4; try have c4b2 := nl_ c4
 by_cases c5 : ((⟨#[116, 114, 101, 101, 32]⟩ : ByteArray) ++ a0_0).size + 1 ≤ 9223372036854775807; rotate_left
 ·rw [if_neg c5] at H; exact no_ H
 rw [if_pos c5] at H; have c5b0 := eq_true c5; have c5b1 := dt_ c5; try have c5b3 : (9223372036854775807 < 5 + a0_0.size + 1) = False := have h_ := c5; ns_
 try have c5b2 := nl_ c5
 have H' := qa_.mk H; clear H; go_enter func16, ntmps16; go_wp2_with (first | ((with_reducible refine qh_ (N := 1) rfl ?_); refine be_ (cs := #[.string a0_0, .slice A0_1 l0_1.length c0_1, .string a0_2, .string a0_3, .int .i64 a0_4, .int .i64 a0_5, .string a0_6, .string a0_7, .int .i64 a0_8, .int .i64 a0_9, .string a0_10]) (t := 26) ?_; intro g101 hg w6 hbox hb; have K101 := qa_.mk (hbox); have W101 := ag_ hg HB; have E101 := ag_ hg HB; replace HB := ah_ HB hb; clear hb hbox hg; obtain ⟨Z7_0, Z7_1, Z7_2, Z7_3, Z7_4, Z7_5, Z7_6, Z7_7, Z7_8, Z7_9, Z7_10, F7⟩ := bc11 K101.out) | ((with_reducible refine qb_ (f := 18) rfl ?_); refine gl_ (some 9) func18 #[.agg #[.string a0_0, .slice A0_1 l0_1.length c0_1, .string a0_2, .string a0_3, .int .i64 a0_4, .int .i64 a0_5, .string a0_6, .string a0_7, .int .i64 a0_8, .int .i64 a0_9, .string a0_10]] ?_; (with_reducible refine (qv_.calls k a0_0 _ _ l0_1 a0_2 a0_3 a0_4 a0_5 a0_6 a0_7 a0_8 a0_9 a0_10 t102 _ ?side1 ?side2 ?side3 A2.out).mono ?_); (case side1 => repeat (first | exact (Kd.C_below HR0_1.out HB.out) | (with_reducible refine Kd.C_alloc ?_ _) | (with_reducible refine Kd.C_drewN ?_ _) | (with_reducible refine Kd.C_drew ?_))); (case side2 => exact HC0_1.out); (case side3 => exact GV.below hgv (hs_)); rintro e w8 ⟨rfl, hb⟩; refine ⟨_, rfl, ?_⟩; replace K101 := ab_ K101 hb; replace HB := hr_ hb; (try clear hb); (try clear hb2); (try clear hk); (try clear hi); obtain ⟨Z9_0, Z9_1, Z9_2, Z9_3, Z9_4, Z9_5, Z9_6, Z9_7, Z9_8, Z9_9, Z9_10, F9⟩ := bc11 K101.out)); go_loopg [5, 20] k (fun kq v5 v20 w' => ∃ (x5_1 : ByteArray) (x20_1 : Int), v5 = .string x5_1 ∧ v20 = .int .i64 x20_1 ∧ qa_ (qbw_.l0 kq x5_1 l0_1 (l0_1.length : Int) x20_1 a0_0 l0_1 a0_2 a0_3 a0_4 a0_5 a0_6 a0_7 a0_8 a0_9 a0_10 = some (r1, r2)) ∧ qa_ (kq ≤ k) ∧ qa_ (w'.heap[g101]? = some (.cells #[.string a0_0, (.slice A0_1 l0_1.length c0_1), .string a0_2, .string a0_3, .int .i64 a0_4, .int .i64 a0_5, .string a0_6, .string a0_7, .int .i64 a0_8, .int .i64 a0_9, .string a0_10] 26 (0, 0))) ∧ qa_ (Below w.heap.size w w'))
 case atStart => exact ⟨(((⟨#[116, 114, 101, 101, 32]⟩ : ByteArray) ++ a0_0) ++ (⟨#[10]⟩ : ByteArray)), (0), z1_, z1_, H', ⟨Nat.le_refl _⟩, ⟨bk_ K101.out⟩, ⟨hs_⟩⟩
 case round =>
  clear H'; try clear c1
  try clear p2
  try clear c3
  try clear c3b0
  try clear c3b1
  try clear c4
  try clear c4b0
  try clear c4b1
  try clear c4b2
  try clear c5
  try clear c5b0
  try clear c5b1
  try clear c5b2
  try clear Z7_0 Z7_1 Z7_10 Z7_2 Z7_3 Z7_4 Z7_5 Z7_6 Z7_7 Z7_8 Z7_9
  try clear Z9_0 Z9_1 Z9_10 Z9_2 Z9_3 Z9_4 Z9_5 Z9_6 Z9_7 Z9_8 Z9_9
  try clear F7
  try clear F9
  obtain ⟨x5_1, x20_1, rfl, rfl, HA, HK1, K101, HB⟩ := hrel
  cases gk with
  | zero => exact absurd HA.out (by simp [qbw_.l0])
  | succ k1 =>
   have H := HA.out; clear HA; simp only [qbw_.l0] at H; by_cases c10 : x20_1 < (l0_1.length : Int)
   ·rw [if_pos c10] at H; have c10b0 := dt_ c10; clear c10; by_cases c11 : 0 ≤ x20_1; rotate_left
    ·rw [if_neg c11] at H; exact no_ H
    rw [if_pos c11] at H; have c11b0 := dt_ c11; clear c11; by_cases c12 : x20_1 < (l0_1.length : Int); rotate_left
    ·rw [if_neg c12] at H; exact no_ H
    rw [if_pos c12] at H; have c12b0 := dt_ c12; clear c12; by_cases c13 : 7 + (rdOf ByteArray.empty l0_1 x20_1).size ≤ 9223372036854775807; rotate_left
    ·rw [if_neg c13] at H; exact no_ H
    rw [if_pos c13] at H; have c13b0 := eq_true c13; have c13b1 := dt_ c13; try have c13b2 := nl_ c13
    by_cases c14 : ((⟨#[112, 97, 114, 101, 110, 116, 32]⟩ : ByteArray) ++ (rdOf ByteArray.empty l0_1 x20_1)).size + 1 ≤ 9223372036854775807; rotate_left
    ·rw [if_neg c14] at H; exact no_ H
    rw [if_pos c14] at H; have c14b0 := eq_true c14; have c14b1 := dt_ c14; try have c14b3 : (9223372036854775807 < 7 + (rdOf ByteArray.empty l0_1 x20_1).size + 1) = False := have h_ := c14; ns_
    try have c14b2 := nl_ c14
    by_cases c15 : x5_1.size + (((⟨#[112, 97, 114, 101, 110, 116, 32]⟩ : ByteArray) ++ (rdOf ByteArray.empty l0_1 x20_1)) ++ (⟨#[10]⟩ : ByteArray)).size ≤ 9223372036854775807; rotate_left
    ·rw [if_neg c15] at H; exact no_ H
    rw [if_pos c15] at H; have c15b0 := eq_true c15; have c15b1 := dt_ c15; try have c15b3 : (9223372036854775807 < x5_1.size + (7 + (rdOf ByteArray.empty l0_1 x20_1).size + 1)) = False := have h_ := c15; ns_
    try have c15b2 := nl_ c15
    have H' := qa_.mk H; clear H; have p103 : 0 ≤ (x20_1 : Int) := y0_; have q103 : x20_1 < (l0_1.length : Int) := y0_; obtain ⟨ad103, e103, hx103_0⟩ := Kd.at_string HR0_1.out x20_1 p103 q103
    cases e103
    replace hx103_0 := (HB.out.cell (World.block_lt_of_cell? w _ hx103_0)).trans hx103_0; replace p103 := eq_true p103; replace q103 := eq_true q103; go_wp2
    go_roundg k1
    case measure => have := HK1.out; omega
    case rel => exact ⟨(x5_1 ++ (((⟨#[112, 97, 114, 101, 110, 116, 32]⟩ : ByteArray) ++ (rdOf ByteArray.empty l0_1 x20_1)) ++ (⟨#[10]⟩ : ByteArray))), (wrap64 (x20_1 + 1)), z1_, z1_, H', ⟨by have := HK1.out; omega⟩, ⟨bk_ K101.out⟩, ⟨hs_⟩⟩
   rw [if_neg c10] at H; have c10b0 := df_ c10; clear c10; by_cases c16 : x5_1.size + 7 ≤ 9223372036854775807; rotate_left
   ·rw [if_neg c16] at H; exact no_ H
   rw [if_pos c16] at H; have c16b0 := eq_true c16; have c16b1 := dt_ c16; try have c16b2 := nl_ c16
   obtain ⟨t104, A17, H⟩ := bx_ H; by_cases c18 : (x5_1 ++ (⟨#[97, 117, 116, 104, 111, 114, 32]⟩ : ByteArray)).size + t104.size ≤ 9223372036854775807; rotate_left
   ·rw [if_neg c18] at H; exact no_ H
   rw [if_pos c18] at H; have c18b0 := eq_true c18; have c18b1 := dt_ c18; try have c18b3 : (9223372036854775807 < x5_1.size + 7 + t104.size) = False := have h_ := c18; ns_
   try have c18b2 := nl_ c18
   by_cases c19 : ((x5_1 ++ (⟨#[97, 117, 116, 104, 111, 114, 32]⟩ : ByteArray)) ++ t104).size + 11 ≤ 9223372036854775807; rotate_left
   ·rw [if_neg c19] at H; exact no_ H
   rw [if_pos c19] at H; have c19b0 := eq_true c19; have c19b1 := dt_ c19; try have c19b3 : (9223372036854775807 < x5_1.size + 7 + t104.size + 11) = False := have h_ := c19; ns_
   try have c19b2 := nl_ c19
   obtain ⟨t105, A20, H⟩ := bx_ H; by_cases c21 : (((x5_1 ++ (⟨#[97, 117, 116, 104, 111, 114, 32]⟩ : ByteArray)) ++ t104) ++ (⟨#[10, 99, 111, 109, 109, 105, 116, 116, 101, 114, 32]⟩ : ByteArray)).size + t105.size ≤ 9223372036854775807; rotate_left
   ·rw [if_neg c21] at H; exact no_ H
   rw [if_pos c21] at H; have c21b0 := eq_true c21; have c21b1 := dt_ c21; try have c21b3 : (9223372036854775807 < x5_1.size + 7 + t104.size + 11 + t105.size) = False := have h_ := c21; ns_
   try have c21b2 := nl_ c21
   by_cases c22 : ((((x5_1 ++ (⟨#[97, 117, 116, 104, 111, 114, 32]⟩ : ByteArray)) ++ t104) ++ (⟨#[10, 99, 111, 109, 109, 105, 116, 116, 101, 114, 32]⟩ : ByteArray)) ++ t105).size + 2 ≤ 9223372036854775807; rotate_left
   ·rw [if_neg c22] at H; exact no_ H
   rw [if_pos c22] at H; have c22b0 := eq_true c22; have c22b1 := dt_ c22; try have c22b3 : (9223372036854775807 < x5_1.size + 7 + t104.size + 11 + t105.size + 2) = False := have h_ := c22; ns_
   try have c22b2 := nl_ c22
   by_cases c23 : (((((x5_1 ++ (⟨#[97, 117, 116, 104, 111, 114, 32]⟩ : ByteArray)) ++ t104) ++ (⟨#[10, 99, 111, 109, 109, 105, 116, 116, 101, 114, 32]⟩ : ByteArray)) ++ t105) ++ (⟨#[10, 10]⟩ : ByteArray)).size + a0_10.size ≤ 9223372036854775807; rotate_left
   ·rw [if_neg c23] at H; exact no_ H
   rw [if_pos c23] at H; have c23b0 := eq_true c23; have c23b1 := dt_ c23; try have c23b3 : (9223372036854775807 < x5_1.size + 7 + t104.size + 11 + t105.size + 2 + a0_10.size) = False := have h_ := c23; ns_
   try have c23b2 := nl_ c23
   obtain ⟨rfl, rfl⟩ := pj2_ H; try go_wp2
   replace K101 := ad_ K101; replace HB := hd_ HB; refine qdm_ (n := 17) (S := fun w' => w'.cell? ⟨g101, 0, none⟩ = some (.string a0_0) ∧ w'.cell? ⟨g101, 1, none⟩ = some (.slice A0_1 l0_1.length c0_1) ∧ w'.cell? ⟨g101, 2, none⟩ = some (.string a0_2) ∧ w'.cell? ⟨g101, 3, none⟩ = some (.string a0_3) ∧ w'.cell? ⟨g101, 4, none⟩ = some (.int .i64 a0_4) ∧ w'.cell? ⟨g101, 5, none⟩ = some (.int .i64 a0_5) ∧ w'.cell? ⟨g101, 6, none⟩ = some (.string a0_6) ∧ w'.cell? ⟨g101, 7, none⟩ = some (.string a0_7) ∧ w'.cell? ⟨g101, 8, none⟩ = some (.int .i64 a0_8) ∧ w'.cell? ⟨g101, 9, none⟩ = some (.int .i64 a0_9) ∧ w'.cell? ⟨g101, 10, none⟩ = some (.string a0_10)) (ds := []) (bs 17 0) (by kernel_rfl) rfl rfl (bc11o K101.out) (fun qn_ => ?_); refine qdg_ qbw_.tab10 qbw_.bits10 (fun HT_ HW_ => ?_); generalize wr.drew = w24 at K101 HB qn_ ⊢; refine pun_ 0 30 17 1 ?_; refine pun_ 1 31 17 3 ?_; refine pun_ 2 32 17 7 ?_; refine pun_ 7 37 17 135 ?_; refine pun_ 12 42 17 4231 ?_; refine tkW11n_ 3 33 17 4239 qn_ ?_; refine tkW11n_ 8 38 17 4495 qn_ ?_; refine tkW11n_ 13 43 17 12687 qn_ ?_; refine on_ 4 34 17 12703 (fun K hK => ?_); refine goes_ func31 (by kernel_rfl) rfl #[.agg #[.string a0_2, .string a0_3, .int .i64 a0_4, .int .i64 a0_5]] (by rfl) rfl rfl z5_ ?_
   with_reducible refine (qcz_.calls a0_2 a0_3 a0_4 a0_5 t104 _ ?side1 A17.out).mono ?_
   (case side1 => exact GV.below hgv (hs_))
   rintro e w25 ⟨rfl, hb⟩; refine ⟨_, rfl, ?_⟩; replace K101 := ab_ K101 hb; replace HB := hr_ hb; (try clear hb)
   (try clear hb2)
   (try clear hk)
   (try clear hi)
   refine hK.out _ _ (bc11o K101.out) (fun qn_ => ?_); clear hK K; refine nrm_ 34 ?_
   refine pun_ 5 35 17 12735 ?_; refine pun_ 6 36 17 12799 ?_; refine on_ 9 39 17 13311 (fun K hK => ?_); refine goes_ func31 (by kernel_rfl) rfl #[.agg #[.string a0_6, .string a0_7, .int .i64 a0_8, .int .i64 a0_9]] (by rfl) rfl rfl z5_ ?_
   with_reducible refine (qcz_.calls a0_6 a0_7 a0_8 a0_9 t105 _ ?side1 A20.out).mono ?_
   (case side1 => exact GV.below hgv (hs_))
   rintro e w26 ⟨rfl, hb⟩; refine ⟨_, rfl, ?_⟩; replace K101 := ab_ K101 hb; replace HB := hr_ hb; (try clear hb)
   (try clear hb2)
   (try clear hk)
   (try clear hi)
   refine hK.out _ _ (bc11o K101.out) (fun qn_ => ?_); clear hK K; refine nrm_ 39 ?_
   refine pun_ 10 40 17 14335 ?_; refine pun_ 11 41 17 16383 ?_; refine pun_ 14 44 17 32767 ?_; refine pun_ 15 2 17 65535 ?_; refine pun_ 16 3 17 131071 ?_; refine dn_ ?_; try go_wp2
   go_ret2
   exact ⟨z3_, hs_⟩
end
end Go.Proofs.YtbhfbbfjdklfgaaGreatDoor.Q

