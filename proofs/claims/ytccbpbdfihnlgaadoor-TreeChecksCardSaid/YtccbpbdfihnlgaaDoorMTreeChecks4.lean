/- The law TreeChecks holds: for every input it returns true, and each argument reads afterwards as it read before. -/
import Derived.Test.YtccbpbdfihnlgaaDoorMYTreeChecks1
import Derived.Test.YtccbpbdfihnlgaaDoorMTreeChecks1
import Derived.Test.YtccbpbdfihnlgaaDoorMTreeChecks2
import Derived.Test.YtccbpbdfihnlgaaDoorMTreeChecks3
import Derived.Laws.Cover1
import Derived.Deep.Slices
import Derived.Lib.SmallJoins
import Derived.ChangeArms
import Derived.SizedLaws
import Derived.WalkKit
import Derived.ProofKit
import Derived.Test.YtccbpbdfihnlgaaDoorRows
import Derived.Test.YtccbpbdfihnlgaaDoorTie
import Derived.Test.YtccbpbdfihnlgaaDoorCards
import Derived.OpenShut
import Derived.ShutString
import Derived.ChangeOld
import Derived.Below
import Derived.Lay
import Derived.LaidOnce
import Derived.SevenTiedAt
import Derived.LaidLaws
import Derived.Handed
import Derived.ChangeVars
import Derived.JoinedOf
set_option linter.unusedVariables false
set_option linter.unusedSimpArgs false
/- Contracts of Go functions as calls of plain Lean functions, written by a program of this session over the kit's print. -/
namespace Go.Proofs.YtccbpbdfihnlgaaDoor.Q
open Go.RowKit Go.Proofs.YtccbpbdfihnlgaaDoorW.PrintWords Go.Proofs.YtccbpbdfihnlgaaDoorW.PrintLast Go.Proofs.YtccbpbdfihnlgaaDoorW.PrintMore
attribute [local go_sem] max2_int min2_int max_two min_two max_three min_three max_four min_four   -- for this text's walks alone

/-! ### graftageref15_mode: function 109 -/
mutual
def graftageref15_mode.l0 : Nat → ByteArray → Int → Option (Int)
  | 0, _, _ => none
  | k + 1, x0, x3 => if x3 ≤ 4 then ((graftageref15_digits.f x3).bind fun t137 => ((graftageref15_begins.f x0 t137).bind fun t138 => (if t138 = true then (some x3) else (graftageref15_mode.l0 k x0 (wrap64 (x3 + 1)))))) else (graftageref15_mode.l1 k x0 1)
def graftageref15_mode.l1 : Nat → ByteArray → Int → Option (Int)
  | 0, _, _ => none
  | k + 1, x0, x4 => if x4 ≤ 4 then ((graftageref15_digits.f x4).bind fun t139 => ((graftageref15_begins.f t139 x0).bind fun t140 => (if t140 = true then (some (-1)) else (graftageref15_mode.l1 k x0 (wrap64 (x4 + 1)))))) else (some 0)
end
end Go.Proofs.YtccbpbdfihnlgaaDoor.Q


/- Contracts of Go functions as calls of plain Lean functions, written by a program of this session over the kit's print. -/
namespace Go.Proofs.YtccbpbdfihnlgaaDoor.Q
open Go.RowKit Go.Proofs.YtccbpbdfihnlgaaDoorW.PrintWords Go.Proofs.YtccbpbdfihnlgaaDoorW.PrintLast Go.Proofs.YtccbpbdfihnlgaaDoorW.PrintMore
attribute [local go_sem] max2_int min2_int max_two min_two max_three min_three max_four min_four   -- for this text's walks alone

def graftageref15_one.T10 : Bool × List (List Nat × List Nat) := (true, [([], []), ([], []), ([], []), ([], []), ([1, 2, 3], [1, 2, 3]), ([], []), ([], []), ([6], [6]), ([], []), ([8], [8]), ([5, 7, 9], [5, 7, 9]), ([10], [10]), ([0, 4, 11], [0, 4, 11]), ([], []), ([13], [13]), ([12, 11, 0, 1, 2, 3, 4, 5, 6, 7, 8, 9, 10, 11, 12], [12]), ([14, 15, 0, 1, 2, 3, 4, 5, 6, 7, 8, 9, 10, 11, 12, 13, 14, 15], [14]), ([16, 0, 1, 2, 3, 4, 5, 6, 7, 8, 9, 10, 11, 12, 13, 14, 15, 16], [])])
def graftageref15_one.B10 : List Nat := [0, 0, 0, 0, 14, 0, 0, 64, 0, 256, 992, 2016, 4095, 0, 8192, 8191, 65535, 131071]
theorem graftageref15_one.tab10 : rtab .any (opsOf Tryd.f59 10) = graftageref15_one.T10 := by kernel_rfl
theorem graftageref15_one.bits10 : waitsOk graftageref15_one.T10.2 graftageref15_one.B10 = true := by kernel_rfl
end Go.Proofs.YtccbpbdfihnlgaaDoor.Q


/- Contracts of Go functions as calls of plain Lean functions, written by a program of this session over the kit's print. -/
namespace Go.Proofs.YtccbpbdfihnlgaaDoor.Q
open Go.RowKit Go.Proofs.YtccbpbdfihnlgaaDoorW.PrintWords Go.Proofs.YtccbpbdfihnlgaaDoorW.PrintLast Go.Proofs.YtccbpbdfihnlgaaDoorW.PrintMore
attribute [local go_sem] max2_int min2_int max_two min_two max_three min_three max_four min_four   -- for this text's walks alone

end Go.Proofs.YtccbpbdfihnlgaaDoor.Q


/- Contracts of Go functions as calls of plain Lean functions, written by a program of this session over the kit's print. -/
namespace Go.Proofs.YtccbpbdfihnlgaaDoor.Q
open Go.RowKit Go.Proofs.YtccbpbdfihnlgaaDoorW.PrintWords Go.Proofs.YtccbpbdfihnlgaaDoorW.PrintLast Go.Proofs.YtccbpbdfihnlgaaDoorW.PrintMore
attribute [local go_sem] max2_int min2_int max_two min_two max_three min_three max_four min_four   -- for this text's walks alone

end Go.Proofs.YtccbpbdfihnlgaaDoor.Q


/- Contracts of Go functions as calls of plain Lean functions, written by a program of this session over the kit's print. -/
namespace Go.Proofs.YtccbpbdfihnlgaaDoor.Q
open Go.RowKit Go.Proofs.YtccbpbdfihnlgaaDoorW.PrintWords Go.Proofs.YtccbpbdfihnlgaaDoorW.PrintLast Go.Proofs.YtccbpbdfihnlgaaDoorW.PrintMore
attribute [local go_sem] max2_int min2_int max_two min_two max_three min_three max_four min_four   -- for this text's walks alone

/-! ### graftagelaw15_TreeBack: function 5 -/
mutual
def graftagelaw15_TreeBack.j0 : Nat → List (S35) → ByteArray → Bool → Option (Bool)
  | 0, _, _, _ => none
  | k + 1, x0, x1, x20 => if x20 = true then ((graftagelaw15_lives.f k).bind fun t132 => (some t132)) else ((tree_Body.f k x0).bind fun bt133 => (if bt133.2 = 0 then ((tree_Parse.f k bt133.1).bind fun bt135 => (if bt135.2 = 0 then ((graftageref15_Same.f k x0 bt135.1).bind fun t139 => (if t139 = true then (graftagelaw15_TreeBack.j1 k x1) else (some false))) else (some false))) else (graftagelaw15_TreeBack.j1 k x1)))
def graftagelaw15_TreeBack.j1 : Nat → ByteArray → Option (Bool)
  | 0, _ => none
  | k + 1, x1 => (tree_Parse.f k x1).bind fun bt140 => (if bt140.2 = 0 then ((tree_Body.f k bt140.1).bind fun bt144 => (if bt144.2 = 0 then (if bt144.1.toList = x1.toList then ((graftagelaw15_lives.f k).bind fun t146 => (some t146)) else (some false)) else (some false))) else (if (bt140.1.length : Int) = 0 then ((graftagelaw15_lives.f k).bind fun t147 => (some t147)) else (some false)))
end
end Go.Proofs.YtccbpbdfihnlgaaDoor.Q


/- Trees: bodies and their entries; TreeChecks, TreeParses, TreeBack. -/
namespace Go.Proofs.YtccbpbdfihnlgaaDoor.Q
open Go.RowKit Go.Proofs.YtccbpbdfihnlgaaDoorW.PrintWords Go.Proofs.YtccbpbdfihnlgaaDoorW.PrintLast Go.Proofs.YtccbpbdfihnlgaaDoorW.PrintMore
/-! ### what a test that passes tells -/
theorem cF_zero (l : List S35) : ∀ (d i : Nat), cF l d i = 0 → ∀ j, i ≤ j → j < i + d → mayB (at35 l j) = true ∧ (0 < j → lessB (at35 l (j - 1)) (at35 l j) = true) ∧ dupF l (at35 l j).f1.data.toList j = false := by
  intro d
  induction d with
  | zero => intro i _ j h1 h2; omega
  | succ d ih =>
    intro i h j h1 h2
    rw [cF] at h
    split at h
    · omega
    · rename_i hm
      split at h
      · omega
      · rename_i hl
        split at h
        · omega
        · rename_i hd
          by_cases e : j = i
          · subst e
            refine ⟨by simpa using hm, fun h0 => ?_, by simpa using hd⟩
            rw [decide_eq_true h0] at hl
            simpa using hl
          · exact ih (i + 1) h j (by omega) (by omega)
theorem checkB_zero {l : List S35} (h : checkB l = 0) : l.length ≤ 1024 ∧ ∀ j, j < l.length → mayB (at35 l j) = true ∧ (0 < j → lessB (at35 l (j - 1)) (at35 l j) = true) ∧ dupF l (at35 l j).f1.data.toList j = false := by
  unfold checkB at h
  split at h
  · omega
  · exact ⟨by omega, fun j hj => cF_zero l l.length 0 h j (by omega) (by omega)⟩
theorem mayB_and {e : S35} (h : mayB e = true) : 1 ≤ e.f0 ∧ e.f0 ≤ 4 ∧ isPath e.f1 = true ∧ no47 e.f1 = true ∧ idOk e.f2 = true := by
  unfold mayB at h
  simp only [Bool.and_eq_true, decide_eq_true_eq] at h
  exact ⟨h.1, h.2.1, h.2.2.1, h.2.2.2.1, h.2.2.2.2⟩
theorem path_size {s : ByteArray} (h : isPath s = true) : s.size ≤ 255 := by
  unfold isPath at h
  simp only [Bool.and_eq_true, decide_eq_true_eq] at h
  exact h.1.2
/-! ### bodies -/
def dgB (m : Int) : ByteArray := if m = 1 then ⟨#[49, 48, 48, 54, 52, 52, 32]⟩ else if m = 2 then ⟨#[49, 48, 48, 55, 53, 53, 32]⟩ else if m = 3 then ⟨#[49, 50, 48, 48, 48, 48, 32]⟩ else if m = 4 then ⟨#[52, 48, 48, 48, 48, 32]⟩ else ⟨#[]⟩
theorem digits_eq (m : Int) : tree_digits.f m = some (dgB m) := by
  unfold tree_digits.f dgB
  by_cases h1 : m = 1
  · rw [if_pos h1, if_pos h1]
  rw [if_neg h1, if_neg h1]
  by_cases h2 : m = 2
  · rw [if_pos h2, if_pos h2]
  rw [if_neg h2, if_neg h2]
  by_cases h3 : m = 3
  · rw [if_pos h3, if_pos h3]
  rw [if_neg h3, if_neg h3]
  by_cases h4 : m = 4
  · rw [if_pos h4, if_pos h4]
  rw [if_neg h4, if_neg h4]
theorem ref_digits_eq (m : Int) (h1 : 1 ≤ m) (h4 : m ≤ 4) : graftageref15_digits.f m = some (dgB m) := by
  unfold graftageref15_digits.f dgB
  by_cases h1 : m = 1
  · rw [if_pos h1, if_pos h1]
  rw [if_neg h1, if_neg h1]
  by_cases h2 : m = 2
  · rw [if_pos h2, if_pos h2]
  rw [if_neg h2, if_neg h2]
  by_cases h3 : m = 3
  · rw [if_pos h3, if_pos h3]
  rw [if_neg h3, if_neg h3, if_pos (by omega)]
theorem dgB_size (m : Int) : (dgB m).size ≤ 7 := by
  unfold dgB
  split
  · decide
  · split
    · decide
    · split
      · decide
      · split <;> decide
def encB (e : S35) : ByteArray := ((dgB e.f0 ++ e.f1) ++ ⟨#[0]⟩) ++ rawB e.f2
def bodyF (l : List S35) : Nat → Nat → ByteArray → ByteArray
  | 0, _, acc => acc
  | d + 1, i, acc => bodyF l d (i + 1) (acc ++ encB (at35 l i))
def bodyOf (l : List S35) : ByteArray × Int := if checkB l = 0 then (bodyF l l.length 0 ⟨#[]⟩, 0) else (⟨#[]⟩, checkB l)
theorem z1 : (⟨#[0]⟩ : ByteArray).size = 1 := rfl
theorem encB_size {e : S35} (h : mayB e = true) : (encB e).size ≤ 290 := by
  have h1 := dgB_size e.f0
  have h2 := path_size (mayB_and h).2.2.1
  unfold encB
  rw [ByteArray.size_append, ByteArray.size_append, ByteArray.size_append, rawB_size, z1]
  omega
theorem strOfNums_bytesOf (s : ByteArray) : strOfNums (bytesOf s) = s := by
  apply ba_ext
  simp [strOfNums, bytesOf, Function.comp_def]
theorem bytesOf_append (a b : ByteArray) : bytesOf (a ++ b) = bytesOf a ++ bytesOf b := by simp [bytesOf]
section
variable (l : List S35) (hn : l.length ≤ 1024) (hm : ∀ j, j < l.length → mayB (at35 l j) = true)
include hn hm
theorem Body_l0 : ∀ (d i : Nat) (acc : ByteArray), i + d = l.length → acc.size ≤ i * 290 → Ev (fun k => tree_Body.l0 k l l.length i acc) (bodyF l d i acc, 0) := by
  intro d
  induction d with
  | zero =>
    intro i acc hi ha
    exact Ev.step (f := fun _ => some (acc, 0)) (fun k => by rw [tree_Body.l0, if_neg (by omega)]; rfl) (Ev.now _)
  | succ d ih =>
    intro i acc hi ha
    have hmay := hm i (by omega)
    obtain ⟨m1, m4, mp, _, mi⟩ := mayB_and hmay
    have h1 := dgB_size (at35 l i).f0
    have h2 := path_size mp
    have h3 := encB_size hmay
    have e0 : rd_T35 l (i : Int) = at35 l i := rfl
    refine Ev.step (f := fun k => (ident_Raw.f k (at35 l i).f2).bind fun bt105 => ((tree_digits.f (at35 l i).f0).bind fun t107 => (if t107.size + (at35 l i).f1.size ≤ 9223372036854775807 then (if (t107 ++ (at35 l i).f1).size + 1 ≤ 9223372036854775807 then (if ((t107 ++ (at35 l i).f1) ++ (⟨#[0]⟩ : ByteArray)).size + bt105.1.size ≤ 9223372036854775807 then ((Builder_WriteString.f acc (((t107 ++ (at35 l i).f1) ++ (⟨#[0]⟩ : ByteArray)) ++ bt105.1)).bind fun bt108 => (tree_Body.l0 k l l.length ((i : Int) + 1) bt108.2.2)) else none) else none) else none))) (fun k => by rw [tree_Body.l0, if_pos (by omega), if_pos (by omega), if_pos (by omega), e0, wrap_id (by omega) (by omega)]) ?_
    refine Ev.bind (ident_Raw_ev (at35 l i).f2) ?_
    have hr : rawOf (at35 l i).f2 = (rawB (at35 l i).f2, true) := by unfold rawOf; rw [if_pos mi]
    rw [hr, digits_eq]
    simp only [Option.bind_some]
    have s1 : (dgB (at35 l i).f0 ++ (at35 l i).f1).size ≤ 262 := by rw [ByteArray.size_append]; omega
    have s2 : ((dgB (at35 l i).f0 ++ (at35 l i).f1) ++ (⟨#[0]⟩ : ByteArray)).size ≤ 263 := by rw [ByteArray.size_append, z1]; omega
    refine Ev.congr (f := fun k => tree_Body.l0 k l l.length ((i : Int) + 1) (acc ++ encB (at35 l i))) (fun k => ?_) ?_
    · rw [if_pos (by omega), if_pos (by omega), if_pos (by rw [rawB_size]; omega)]
      unfold Builder_WriteString.f
      rw [if_pos (by unfold encB at h3; omega)]
      rfl
    · rw [bodyF]
      exact_mod_cast ih (i + 1) _ (by omega) (by rw [ByteArray.size_append]; omega)
theorem ref_Body_l0 : ∀ (d i : Nat) (acc : ByteArray), i + d = l.length → acc.size ≤ i * 290 → Ev (fun k => graftageref15_Body.l0 k l (bytesOf acc) l.length i) (bodyF l d i acc, 0) := by
  intro d
  induction d with
  | zero =>
    intro i acc hi ha
    refine Ev.step (f := fun _ => some (acc, 0)) (fun k => by rw [graftageref15_Body.l0, if_neg (by omega), strOfNums_bytesOf]) (Ev.now _)
  | succ d ih =>
    intro i acc hi ha
    have hmay := hm i (by omega)
    obtain ⟨m1, m4, mp, _, mi⟩ := mayB_and hmay
    have h1 := dgB_size (at35 l i).f0
    have h2 := path_size mp
    have h3 := encB_size hmay
    have e0 : rd_T35 l (i : Int) = at35 l i := rfl
    refine Ev.step (f := fun k => (graftageref02_Raw.f k (at35 l i).f2).bind fun bt248 => ((graftageref15_digits.f (at35 l i).f0).bind fun t251 => (if (bytesOf acc).length + t251.size < 140737488355328 then ((some (bytesOf acc ++ bytesOf t251 : List Int)).bind fun y252 => (if y252.length + (at35 l i).f1.size < 140737488355328 then ((some (y252 ++ bytesOf (at35 l i).f1 : List Int)).bind fun y256 => (if y256.length < 140737488355328 then ((some (y256 ++ [0] : List Int)).bind fun y259 => (if y259.length + bt248.1.size < 140737488355328 then (graftageref15_Body.l0 k l (y259 ++ bytesOf bt248.1) l.length ((i : Int) + 1)) else none)) else none)) else none)) else none))) (fun k => by rw [graftageref15_Body.l0, if_pos (by omega), if_pos (by omega), if_pos (by omega), e0, wrap_id (by omega) (by omega)]) ?_
    refine Ev.bind (ref_Raw_ev (at35 l i).f2) ?_
    have hr : rawOf (at35 l i).f2 = (rawB (at35 l i).f2, true) := by unfold rawOf; rw [if_pos mi]
    rw [hr, ref_digits_eq _ m1 m4]
    simp only [Option.bind_some]
    refine Ev.congr (f := fun k => graftageref15_Body.l0 k l (bytesOf (acc ++ encB (at35 l i))) l.length ((i : Int) + 1)) (fun k => ?_) ?_
    · rw [if_pos (by rw [bytesOf_length]; omega), if_pos (by rw [List.length_append, bytesOf_length, bytesOf_length]; omega), if_pos (by simp only [List.length_append, bytesOf_length]; omega), if_pos (by simp only [List.length_append, bytesOf_length, List.length_singleton, rawB_size]; omega)]
      congr 1
      unfold encB
      simp only [bytesOf_append, List.append_assoc]
      rfl
    · rw [bodyF]
      exact_mod_cast ih (i + 1) _ (by omega) (by rw [ByteArray.size_append]; omega)
end
theorem Body_ev (l : List S35) (hs : l.length ≤ 1024 → ∀ x ∈ l, x.f1.size ≤ 4294967280) : Ev (fun k => tree_Body.f k l) (bodyOf l) := by
  refine Ev.bind (Check_ev' l hs) ?_
  unfold bodyOf
  refine ev_ite (fun h => ?_) (fun h => ?_)
  · rw [if_pos h]
    obtain ⟨h1, h2⟩ := checkB_zero h
    exact_mod_cast Body_l0 l h1 (fun j hj => (h2 j hj).1) l.length 0 ⟨#[]⟩ (by omega) (Nat.zero_le _)
  · rw [if_neg h]; exact Ev.now _
theorem ref_Body_ev (l : List S35) (hs : l.length ≤ 1024 → ∀ x ∈ l, x.f1.size ≤ 4294967280) : Ev (fun k => graftageref15_Body.f k l) (bodyOf l) := by
  refine Ev.bind (refCheck_ev l hs) ?_
  unfold bodyOf
  refine ev_ite (fun h => ?_) (fun h => ?_)
  · rw [if_pos h]
    obtain ⟨h1, h2⟩ := checkB_zero h
    have := ref_Body_l0 l h1 (fun j hj => (h2 j hj).1) l.length 0 ⟨#[]⟩ (by omega) (Nat.zero_le _)
    exact_mod_cast this
  · rw [if_neg h]; exact Ev.now _
theorem TreeChecks_ev (l : List S35) (hs : ∀ x ∈ l, x.f1.size ≤ 140737488351232 ∧ x.f2.size ≤ 140737488351232) (hn : l.length ≤ 140737488351232) : Ev (fun k => graftagelaw15_TreeChecks.f k l) true := by
  have hT : Ev (fun k => graftagelaw15_TreeChecks.j0 k l true) true :=
    Ev.step (f := fun k => (graftagelaw15_lives.f k).bind fun t => some t) (fun k => by rw [graftagelaw15_TreeChecks.j0, if_pos rfl]) liveOr15
  have hF : (l.length ≤ 1024 → ∀ x ∈ l, x.f1.size ≤ 4294967280) → Ev (fun k => graftagelaw15_TreeChecks.j0 k l false) true := by
    intro h
    refine Ev.step (f := fun k => (tree_Body.f k l).bind fun bt113 => ((graftageref15_Body.f k l).bind fun bt115 => ((tree_Check.f k l).bind fun t117 => ((graftageref15_Check.f k l).bind fun t118 => (if t117 = t118 then (if bt113.1.toList = bt115.1.toList then (if bt113.2 = bt115.2 then ((graftagelaw15_lives.f k).bind fun t119 => (some t119)) else (some false)) else (some false)) else (some false)))))) (fun k => by rw [graftagelaw15_TreeChecks.j0, if_neg (by decide)]) ?_
    refine Ev.bind (Body_ev l h) (Ev.bind (ref_Body_ev l h) (Ev.bind (Check_ev' l h) (Ev.bind (refCheck_ev l h) ?_)))
    simp only [if_true]
    exact liveOr15
  refine Ev.bind (few_ev l hs hn) (ev_ite (fun h => ?_) (fun h => ?_))
  · exact hF (fun _ x hx => by have := few_size h x hx; omega)
  · refine ev_ite (fun h1 => hT) (fun h1 => ?_)
    by_cases h2 : (l.length : Int) > 2000
    · rw [decide_eq_true h2]; exact hT
    · rw [decide_eq_false h2]; exact hF (fun h3 => by omega)
/-! ### one entry's bytes -/
def pre (a b : ByteArray) : Bool := decide (b.size ≤ a.size) && ((a.extract 0 b.size).toList == b.toList)
end Go.Proofs.YtccbpbdfihnlgaaDoor.Q


/- TreeChecks, over plain lists and numbers. -/
namespace Go.Proofs.YtccbpbdfihnlgaaDoor.Pure
open Go.Proofs.YtccbpbdfihnlgaaDoor.Q Go.Proofs.YtccbpbdfihnlgaaDoorW.PrintWords

theorem TreeChecks : ∀ (y0 : List (S35)), (y0.length * 40 ≤ 140737488351232 ∧ ∀ y_y0 ∈ y0, ((Lit.int .i64 y_y0.f0).wf = true ∧ y_y0.f1.size ≤ 140737488351232 ∧ y_y0.f2.size ≤ 140737488351232)) → ∃ k, graftagelaw15_TreeChecks.f k y0 = some true :=
  fun y0 h => (TreeChecks_ev y0 (fun x hx => (h.2 x hx).2) (by omega)).rounds

end Go.Proofs.YtccbpbdfihnlgaaDoor.Pure


/- What a law's argument reads as (numbers, bools, strings, structs, slices, nested) opens into the printed kinds, with the reach's bounds; for the rows of this seat. -/
namespace Go.Proofs.YtccbpbdfihnlgaaDoor.Ro
open Go.RowKit Go.Deep Go.Proofs.YtccbpbdfihnlgaaDoorW.PrintWords

/-- What a reading of type t by the form tells in the words of kind d; S: the bounds. -/
def Opens (P : Program) (t : TypeId) {α : Type} (d : Kd α) (S : α → Prop) : Prop :=
  ∀ {H : Type} (enc : TypeId × Value → H) (w : World) (fuel : Nat) (cs : List Value) (x : DataW H × List MemPlace),
    DataW.trod enc P w 0 (fun _ => true) true fuel t cs = some x → (∀ n ∈ DataW.weights P t x.1, n ≤ reachBytes) → ∃ y : α, d.K w y cs ∧ S y

section
variable {P : Program} {t e : TypeId}

theorem Opens.int {k : IntKind} (ht : P.underlying t = some (.int k)) : Opens P t (Kd.int k) (fun y => (Lit.int k y).wf = true) := by
  intro H enc w fuel cs x h _
  obtain ⟨n, rfl, rfl, hw⟩ := DataW.trod_int ht h
  exact ⟨n, rfl, hw⟩

theorem Opens.bool (ht : P.underlying t = some .bool) : Opens P t Kd.bool (fun _ => True) := by
  intro H enc w fuel cs x h _
  obtain ⟨b, rfl, rfl⟩ := DataW.trod_bool ht h
  exact ⟨b, rfl, trivial⟩

theorem Opens.string (ht : P.underlying t = some .string) : Opens P t Kd.string (fun y => y.size ≤ 140737488351232) := by
  intro H enc w fuel cs x h hn
  obtain ⟨s, rfl, rfl, _⟩ := DataW.trod_string ht h
  refine ⟨s, rfl, ?_⟩
  have := hn s.data.toList.length (by simp [DataW.weights])
  simpa [reachBytes] using this

theorem choose_list {α : Type} {n : Nat} {p : Nat → α → Prop} (h : ∀ i, i < n → ∃ y, p i y) : ∃ l : List α, l.length = n ∧ ∀ i y, l[i]? = some y → p i y := by
  induction n with
  | zero => exact ⟨[], rfl, fun i y hy => by simp at hy⟩
  | succ n ih =>
    obtain ⟨l, hl, hp⟩ := ih (fun i hi => h i (by omega))
    obtain ⟨y, hy⟩ := h n (by omega)
    refine ⟨l ++ [y], by simp [hl], fun i z hz => ?_⟩
    rcases Nat.lt_or_ge i l.length with hi | hi
    · rw [List.getElem?_append_left hi] at hz
      exact hp i z hz
    · rw [List.getElem?_append_right hi] at hz
      have : i - l.length = 0 := by
        have := (List.getElem?_eq_some_iff.1 hz).1
        simpa using this
      rw [this] at hz
      have h1 : i = n := by omega
      subst h1
      have : y = z := by simpa using hz
      subst this
      exact hy

theorem weightsAll_mem {H : Type} {e : TypeId} : ∀ {l : List (DataW H)} {d : DataW H}, d ∈ l → ∀ n ∈ d.weights P e, n ∈ DataW.weightsAll P e l
  | a :: l, d, hd, n, hn => by
    simp only [DataW.weightsAll, List.mem_append]
    rcases List.mem_cons.1 hd with rfl | hd
    · exact .inl hn
    · exact .inr (weightsAll_mem hd n hn)

theorem Opens.slice {α : Type} {d : Kd α} {S : α → Prop} {b : Nat} (ht : P.underlying t = some (.slice e)) (hc : P.cellsOf e = d.sz) (hb : P.bytesOf e = b) (h : Opens P e d S) :
    Opens P t (Kd.slice e d) (fun l => l.length * b ≤ 140737488351232 ∧ ∀ y ∈ l, S y) := by
  intro H enc w fuel cs x hx hn
  rcases open_slice ht hx with ⟨rfl, rfl⟩ | ⟨a, len, cap, m, n, D, Pl, rfl, _, hl, hm, hmm, rfl, hall⟩
  · exact ⟨[], ⟨none, 0, rfl, Nat.le_refl _, rfl, by simp, fun h => absurd h (by simp)⟩, by simp, by simp⟩
  · simp only [if_true] at hmm
    obtain rfl : m = cap := hmm
    have hel : ∀ i, i < len → ∃ y : α, (∃ cs', w.cells? 0 (a.add (i * P.cellsOf e)) (P.cellsOf e) = some cs' ∧ d.K w y cs') ∧ S y := by
      intro i hi
      obtain ⟨cs', h1, h2⟩ := hall i (by omega)
      obtain ⟨y, hy, hs⟩ := h enc w n cs' _ h2 (fun k hk => hn k (by
        simp only [DataW.weights, ht, List.mem_cons, List.mem_append]
        exact .inr (.inl (weightsAll_mem (List.mem_map.2 ⟨i, List.mem_range.2 hi, rfl⟩) k hk))))
      exact ⟨y, ⟨cs', h1, hy⟩, hs⟩
    obtain ⟨l, hll, hp⟩ := choose_list hel
    subst hll
    have hw : (l.length + (m - l.length)) * b ≤ reachBytes := by
      have := hn _ (by simp only [DataW.weights, ht, List.mem_cons]; exact .inl rfl)
      simpa [hb] using this
    refine ⟨l, ⟨some a, m, rfl, hl, rfl, by unfold maxLen at hm; omega, fun _ => ⟨a, rfl, fun j p hj => ?_⟩⟩, ?_, fun y hy => ?_⟩
    · obtain ⟨⟨cs', h1, hk⟩, _⟩ := hp j p hj
      obtain ⟨_, hlen, hcell⟩ := World.cells?_some h1
      refine ⟨cs', by rw [hlen, hc], hk, fun i u hu => ?_⟩
      have hi : i < P.cellsOf e := by
        have := (List.getElem?_eq_some_iff.1 hu).1
        omega
      have := hcell i hi
      rw [Go.Deep.add_add, hu, hc] at this
      exact this
    · have : l.length * b ≤ (l.length + (m - l.length)) * b := Nat.mul_le_mul_right _ (by omega)
      simp only [reachBytes] at hw
      omega
    · obtain ⟨j, hj⟩ := List.mem_iff_getElem?.1 hy
      exact (hp j y hj).2

/-- The fields from one on, in line. -/
def OpensF (P : Program) (fs : List Field) (o : Nat) {α : Type} (d : Kd α) (S : α → Prop) : Prop :=
  ∀ {H : Type} (enc : TypeId × Value → H) (w : World) (n : Nat) (cs : List Value) (ys : List (DataW H × List MemPlace)),
    (∀ (i : Nat) (f : Field), fs[i]? = some f → DataW.trod enc P w 0 (fun _ => true) true n f.type ((cs.drop f.offset).take (P.cellsOf f.type)) = ys[i]?) → ys.length = fs.length →
    (∀ k ∈ DataW.weightsEach P (fs.map (·.type)) (ys.map (·.1)), k ≤ reachBytes) → cs.length = o + d.sz → ∃ y : α, d.K w y (cs.drop o) ∧ S y

theorem OpensF.one {α : Type} {f : Field} {o : Nat} {d : Kd α} {S : α → Prop} (ho : f.offset = o) (hc : P.cellsOf f.type = d.sz) (h : Opens P f.type d S) : OpensF P [f] o d S := by
  intro H enc w n cs ys hf hl hw hlen
  match ys, hl with
  | [y], _ =>
    have h1 := hf 0 f rfl
    rw [ho, hc, List.take_of_length_le (by rw [List.length_drop]; omega)] at h1
    exact h enc w n _ y h1 (fun k hk => hw k (by simp [DataW.weightsEach, hk]))

theorem OpensF.cons {α β : Type} {f : Field} {fs : List Field} {o o' : Nat} {d : Kd α} {d' : Kd β} {S : α → Prop} {S' : β → Prop} (ho : f.offset = o) (hc : P.cellsOf f.type = d.sz) (ho' : o + d.sz = o')
    (h : Opens P f.type d S) (h' : OpensF P fs o' d' S') : OpensF P (f :: fs) o (Kd.pair d d') (fun z => S z.1 ∧ S' z.2) := by
  intro H enc w n cs ys hf hl hw hlen
  match ys, hl with
  | y :: ys, hl =>
    have h1 := hf 0 f rfl
    rw [ho, hc] at h1
    have hlen' : cs.length = o + (d.sz + d'.sz) := hlen
    obtain ⟨a, ha, hs⟩ := h enc w n _ y h1 (fun k hk => hw k (by simp only [List.map_cons, DataW.weightsEach, List.mem_append]; exact .inl hk))
    obtain ⟨b, hb, hs'⟩ := h' enc w n cs ys (fun i g hg => hf (i + 1) g (by simpa using hg)) (by simpa using hl) (fun k hk => hw k (by simp only [List.map_cons, DataW.weightsEach, List.mem_append]; exact .inr hk)) (by omega)
    refine ⟨(a, b), ⟨_, _, ?_, ha, hb⟩, hs, hs'⟩
    rw [← ho', ← List.drop_drop, List.take_append_drop]

theorem Opens.struct {α β : Type} {fs : Array Field} {d : Kd α} {S : α → Prop} {f : β → α} {g : α → β} (ht : P.underlying t = some (.struct fs)) (hc : P.cellsOf t = d.sz) (hfg : ∀ a, f (g a) = a) (h : OpensF P fs.toList 0 d S) :
    Opens P t (Kd.iso d f) (fun y => S (f y)) := by
  intro H enc w fuel cs x hx hn
  obtain ⟨xs, n, _, rfl, hl, hlen, hf⟩ := DataW.trod_struct ht hx
  obtain ⟨a, ha, hs⟩ := h enc w n cs xs (fun i q hq => hf i q (by simpa using hq)) (by simpa using hlen) (fun k hk => hn k (by simpa [DataW.weights, ht] using hk)) (by rw [hl, hc]; omega)
  refine ⟨g a, ?_, by show S (f (g a)); rw [hfg]; exact hs⟩
  show d.K w (f (g a)) cs
  rw [hfg]
  simpa using ha

theorem Opens.imp {α : Type} {d : Kd α} {S S' : α → Prop} (h : Opens P t d S) (hS : ∀ y, S y → S' y) : Opens P t d S' := by
  intro H enc w fuel cs x hx hn
  obtain ⟨y, hy, hs⟩ := h enc w fuel cs x hx hn
  exact ⟨y, hy, hS y hs⟩

/-- An argument: its cells, told. -/
theorem Opens.arg {H : Type} {enc : TypeId × Value → H} {α : Type} {d : Kd α} {S : α → Prop} {w : World} {ts : List TypeId} {ds : List (DataW H)} {j : Nat} {v : Value} {dd : DataW H} {ps : List MemPlace} (h : Opens P t d S)
    (hz : (DataW.weightsEach P ts ds).all (· ≤ reachBytes) = true) (ht : ts[j]? = some t) (hd : ds[j]? = some dd) (hv : DataW.Trod enc P w 0 (fun _ => true) true t v dd ps) : ∃ y : α, d.K w y v.cells.toList ∧ S y := by
  obtain ⟨fuel, hf⟩ := hv
  exact h enc w fuel _ (dd, ps) hf (fun n hn => by simpa using List.all_eq_true.1 hz n (DataW.weights_mem_each ht hd n hn))

theorem arg_lt {H : Type} {enc : TypeId × Value → H} {w : World} {v : Value} {dd : DataW H} {ps : List MemPlace} (hv : DataW.Trod enc P w 0 (fun _ => true) true t v dd ps) : ∀ x ∈ ps, x.block < w.heap.size := by
  obtain ⟨m, hm⟩ := hv
  exact DataW.trod_lt m _ _ _ hm
end
end Go.Proofs.YtccbpbdfihnlgaaDoor.Ro


/- The law TreeChecks holds: for every input it returns true, and each argument reads afterwards as it read before. -/
namespace Go.Proofs.YtccbpbdfihnlgaaDoor.treeChecks
open Go.ChangeShapes Go.WideShapes Go.ChangeAt Go.RowKit Go.Proofs.YtccbpbdfihnlgaaDoor.Ro Go.Proofs.YtccbpbdfihnlgaaDoor.Q Go.Proofs.YtccbpbdfihnlgaaDoorW.PrintWords
open Go.ChangeMaps (open_string shut_string)
theorem own : ownKnob Tryd.prog.godebug = none := by kernel_rfl
theorem laidOut : laidOutB Tryd.prog = true := by kernel_rfl
theorem opens22 : Opens Tryd.prog 22 (Kd.slice 35 k35) (fun y => (y.length * 40 ≤ 140737488351232 ∧ ∀ y_y ∈ y, ((Lit.int .i64 y_y.f0).wf = true ∧ y_y.f1.size ≤ 140737488351232 ∧ y_y.f2.size ≤ 140737488351232))) := (Opens.slice Tryd.underlying22 (by kernel_rfl) (by kernel_rfl) (Opens.struct (f := (fun x : S35 => (x.f0, x.f1, x.f2))) (g := (fun a => (⟨a.1, a.2.1, a.2.2⟩ : S35))) Tryd.underlying35 (by kernel_rfl) (fun _ => rfl) (OpensF.cons rfl (by kernel_rfl) rfl (Opens.int Tryd.underlying3) (OpensF.cons rfl (by kernel_rfl) rfl (Opens.string Tryd.underlying9) (OpensF.one rfl (by kernel_rfl) (Opens.string Tryd.underlying9))))))
set_option maxRecDepth 100000 in
theorem lifted (os : Os) (started : os.Started) (H : Type) (enc : TypeId × Value → H) :
    ReturnsInHanded {} Tryd.checked os 3 .any (fun w args => (Rows.treeChecksSpec.pre enc Tryd.prog Tryd.f3 [] false w args ∧ laidMetH Tryd.prog Rows.treeChecksRow.laid w) ∧ sizedMet enc Tryd.prog Tryd.f3 (OpenSpec.ofChange Rows.treeChecksSpec) false w args) (Rows.treeChecksSpec.post enc Tryd.prog Tryd.f3 false true false false) := by
  refine returnsInHanded_of_change_and (C := Tryd.checked) (X := fun w _ => laidMetH Tryd.prog Rows.treeChecksRow.laid w) (fun _ _ _ hh h => h.of_heap hh) own started (by kernel_rfl) Tryd.func3
    (ChangeSpec.witness_shaped (enc := enc) (C := Tryd.checked) (os := os) (X := fun w _ => laidMetH Tryd.prog Rows.treeChecksRow.laid w) false (World.laidAll Tryd.prog os Rows.treeChecksRow.laid) #[.slice none 0 0] 8 (World.laidAll_os _ _ _)
      (World.shaped_of_ZipB (by kernel_rfl) (by kernel_rfl)) (by kernel_rfl) (by kernel_rfl) (by kernel_rfl)
      (by rw [MakeChecks.laidMetH_plain _ _ _ (by kernel_rfl)]; exact laidMet_laidAll _ (by kernel_rfl) (by kernel_rfl))) ?_
  intro W base args ds gs before hval0 hW hcnd hsz0 _ _
  have hsz : (DataW.weightsEach Tryd.prog (Tryd.f3.params.toList ++ Rows.treeChecksSpec.plain.varTypes Tryd.prog) (ds ++ gs)).all (· ≤ reachBytes) = true := hsz0
  have hval : ∀ (j : Nat) t v, Tryd.f3.params[j]? = some t → args[j]? = some v → Value.okWide Tryd.prog W .any base t v := hval0
  have hW' := hW
  obtain ⟨p, q, hA0, hV, rfl, hfz, hnd⟩ := hW
  have hA : DataW.TrodAll enc Tryd.prog W 0 (fun _ => true) true Tryd.f3.params.toList args.toList ds p := hA0
  rw [Tryd.params3] at hA hval hsz
  obtain ⟨v0, vs0, d0, ds0, p0, q0, hargs, rfl, rfl, h0, r0⟩ := trodAll_cons hA
  obtain ⟨rfl, rfl, rfl⟩ := trodAll_nil r0
  obtain rfl : args = #[v0] := by cases args; simp_all
  obtain ⟨rfl, rfl⟩ := trodVars_none hV
  have lt0 := arg_lt h0
  obtain ⟨y0, hk0, w0⟩ := opens22.arg hsz (j := 0) rfl rfl h0
  obtain ⟨a0, len0, cap0, rfl⟩ := okWide_slice Tryd.underlying22 (hval 0 22 v0 rfl rfl)
  obtain ⟨A0, c0, e0, hl0, hr0⟩ := hk0
  obtain ⟨rfl, rfl, rfl⟩ : a0 = A0 ∧ len0 = y0.length ∧ cap0 = c0 := by simpa [Value.cells] using e0
  obtain ⟨k, hp⟩ := Pure.TreeChecks _ w0
  clear hA0 hval0 hsz0 hsz
  refine (Q.graftagelaw15_TreeChecks.calls k _ _ y0 true W hr0 hl0 hp).mono ?_
  rintro e W' ⟨rfl, bel0⟩
  have bel : Below W.heap.size W W' := bel0
  exact ⟨_, rfl, _, _, _, [], _, [], hW', trodAll_mk1 (shut_bool Tryd.underlying4 _), (trodAll_cons_mk (Below.trod laidOut (by kernel_rfl) (of_decide_eq_true (by kernel_rfl)) h0 bel lt0) trodAll_mk0), rfl, bel.frame _, fun h => by cases h⟩
theorem over : Rows.treeChecksRow.holds Tryd.pinned (OpenSpec.ofChange Rows.treeChecksSpec) :=
  OpenClaim.holds_of_wide 3 Tryd.f3 rfl rfl rfl rfl rfl rfl rfl ⟨rfl, rfl, rfl, rfl, rfl⟩ rfl rfl rfl rfl rfl (by kernel_rfl) Tryd.func3 (by kernel_rfl)
    (of_decide_eq_true (by kernel_rfl)) (by unfold Func.isWrapper; first | (rw [if_pos (by decide +kernel)]; kernel_rfl) | (rw [if_neg (by decide +kernel)]; exact ⟨rfl, rfl⟩))
    (fun os started H enc _ => lifted os started H enc)
theorem proved : Rows.TreeChecksSaid := over
theorem card_holds : Rows.TreeChecksCardSaid :=
  Claim7.holds_tied_plain_at .later [] [.data, .pinned] true (true, "f211dbb39e0f8aee4bdc9ae8c5517fa944c5333aa6a5e92b425f441664a6fa8b") false over (fun _ h => by cases h) (by kernel_rfl) (fun _ h => by cases h) treeChecks_row_tie rfl ⟨rfl, rfl⟩ (by kernel_rfl) rfl
    (fun f fn hf hfn => by
      obtain rfl : f = 3 := Option.some.inj ((show Tryd.prog.funcNamed "graftage/graftagelaw15.TreeChecks" = some 3 by kernel_rfl).symm.trans hf) |>.symm
      obtain rfl : fn = Tryd.f3 := (Option.some.inj (Tryd.func3.symm.trans hfn)).symm
      exact ⟨by kernel_rfl, fun j t ht => by
        rw [Tryd.params3] at ht
        have hm : t ∈ [22] := by simpa using Array.mem_of_getElem? ht
        have hall : ([22].all fun u => !Tryd.prog.wantsStandIn u) = true := by kernel_rfl
        exact (show Tryd.prog.wantsStandIn t = false by simpa using List.all_eq_true.1 hall t hm)⟩)
    (by kernel_rfl)
#print axioms card_holds
end Go.Proofs.YtccbpbdfihnlgaaDoor.treeChecks
namespace Go.Proofs.YtccbpbdfihnlgaaDoor
/-- The statement, under a short name, for the claim. -/
theorem treeChecks_holds : Rows.TreeChecksCardSaid := treeChecks.card_holds
end Go.Proofs.YtccbpbdfihnlgaaDoor


