/- The law SparseMarks holds: for every input it returns true, and each argument reads afterwards as it read before. -/
import Derived.Test.YtfkkbcmbabfipaaDoorMX1
import Derived.Test.YtfkkbcmbabfipaaDoorMX2
import Derived.Test.YtfkkbcmbabfipaaDoorMT1
import Derived.Test.YtfkkbcmbabfipaaDoorMT2
import Derived.Test.YtfkkbcmbabfipaaDoorMSparseMarks1
import Derived.Sort.Walk0
import Derived.Laws.Cover1
import Derived.Deep.Slices
import Derived.Lib.SmallJoins
import Derived.ChangeArms
import Derived.SizedLaws
import Derived.WalkKit
import Derived.ProofKit
import Derived.Test.YtfkkbcmbabfipaaDoorRows
import Derived.Test.YtfkkbcmbabfipaaDoorTie
import Derived.Test.YtfkkbcmbabfipaaDoorCards
import Derived.OpenShut
import Derived.ShutString
import Derived.ChangeOld
import Derived.Below
import Derived.Lay
import Derived.LaidOnce
import Derived.SevenTiedAt
import Derived.LaidLaws
import Derived.Handed
import Derived.ChangeVars
import Derived.JoinedOf
import Derived.Deep.DeepHandedRow
import Derived.Stop.Joined
set_option linter.unusedVariables false
set_option linter.unusedSimpArgs false
/- Cones: which are right, and which paths are at hand. -/
namespace Go.Proofs.YtfkkbcmbabfipaaDoor.Q
open Go.RowKit Go.Proofs.YtfkkbcmbabfipaaDoorW.PrintWords Go.Proofs.YtfkkbcmbabfipaaDoorW.PrintLast Go.Proofs.YtfkkbcmbabfipaaDoorW.PrintMore

theorem dirB_size (s : ByteArray) : (dirB s).size ≤ s.size := by
  unfold dirB
  rw [Lib.size_eq, Lib.extract_data, List.length_take, List.length_drop, ← Lib.size_eq]
  omega
theorem any_or3 (a b e : ByteArray → Bool) (l : List ByteArray) : l.any (fun c => a c || (b c || e c)) = (l.any a || (l.any b || l.any e)) := by
  induction l with
  | nil => rfl
  | cons x r ih => simp only [List.any_cons, ih]; cases a x <;> cases b x <;> cases e x <;> simp
def incB (l : List ByteArray) (p : ByteArray) : Bool := isPath p && (decide (l.length = 0) || ((dirB p).toList == [] || l.any (fun c => c.toList == (dirB p).toList || (withinB c (dirB p) || withinB (dirB p) c))))
theorem Includes_ev (l : List ByteArray) (p : ByteArray) (hl : ∀ x ∈ l, x.size ≤ 140737488351232) (hn : l.length ≤ 140737488351232) (hp : p.size ≤ 140737488351232) : Ev (fun k => sparse_Includes.f k l p) (incB l p) := by
  have hd := dirB_size p
  refine Ev.bind (path_Is_ev p) ?_
  unfold incB
  refine ev_ite (fun h => ?_) (fun h => ?_)
  · rw [h, Bool.true_and]
    refine Ev.bind (path_Dir_ev p hp) ?_
    refine ev_ite (fun h0 => ?_) (fun h0 => ?_)
    · rw [decide_eq_true (by omega)]; exact Ev.now _
    · rw [decide_eq_false (by omega), Bool.false_or]
      refine ev_ite (fun h1 => ?_) (fun h1 => ?_)
      · rw [h1]; exact Ev.now _
      · rw [beq_eq_false_iff_ne.mpr h1, Bool.false_or]
        refine Ev.bind (ContainsFunc_ev l _ (fun c => c.toList == (dirB p).toList || (withinB c (dirB p) || withinB (dirB p) c)) (fun c hc => ?_) hn) (Ev.now _)
        have hcs := hl c hc
        unfold sparse_Includes_1.f
        rw [path_Within_eq _ _ hcs, path_Within_eq _ _ (by omega)]
        by_cases h2 : c.toList = (dirB p).toList
        · rw [if_pos h2, h2]; simp
        · rw [if_neg h2, beq_eq_false_iff_ne.mpr h2]
          simp only [Option.bind_some, Bool.false_or]
          cases withinB c (dirB p) <;> simp
  · rw [Bool.not_eq_true] at h
    rw [h]; exact Ev.now _
theorem Has_l0 (l : List ByteArray) (d : ByteArray) (hn : l.length ≤ 140737488351232) : ∀ (e k i : Nat), i + e = l.length → e < k → graftageref06_Has.l0 k l d i = some ((l.drop i).any (fun c => c.toList == d.toList)) := by
  intro e
  induction e with
  | zero =>
    intro k i hi hk
    obtain ⟨k, rfl⟩ : ∃ m, k = m + 1 := ⟨k - 1, by omega⟩
    simp only [graftageref06_Has.l0]
    rw [if_neg (by omega), List.drop_of_length_le (by omega)]; rfl
  | succ e ih =>
    intro k i hi hk
    obtain ⟨k, rfl⟩ : ∃ m, k = m + 1 := ⟨k - 1, by omega⟩
    have hi' : i < l.length := by omega
    have := ih k (i + 1) (by omega) (by omega)
    simp only [graftageref06_Has.l0]
    rw [if_pos (by omega), if_pos (by omega), rd_ext l i hi', wrap_id (by omega) (by omega), List.drop_eq_getElem_cons hi', List.any_cons]
    by_cases h : l[i].toList = d.toList
    · rw [if_pos h, h]; simp
    · rw [if_neg h, beq_eq_false_iff_ne.mpr h, Bool.false_or]; exact_mod_cast this
theorem Has_ev (l : List ByteArray) (d : ByteArray) (hn : l.length ≤ 140737488351232) : Ev (fun k => graftageref06_Has.f k l d) (l.any (fun c => c.toList == d.toList)) :=
  Ev.of (fun k => graftageref06_Has.mono l d k) (k := l.length + 1) (by exact_mod_cast Has_l0 l d hn l.length _ 0 (by omega) (by omega))
theorem In_l0 (l : List ByteArray) (d : ByteArray) (hd : d.size ≤ 140737488351232) (hn : l.length ≤ 140737488351232) : ∀ (e k i : Nat), i + e = l.length → e < k → graftageref33_In.l0 k l d i = some ((l.drop i).any (fun c => withinB d c)) := by
  intro e
  induction e with
  | zero =>
    intro k i hi hk
    obtain ⟨k, rfl⟩ : ∃ m, k = m + 1 := ⟨k - 1, by omega⟩
    simp only [graftageref33_In.l0]
    rw [if_neg (by omega), List.drop_of_length_le (by omega)]; rfl
  | succ e ih =>
    intro k i hi hk
    obtain ⟨k, rfl⟩ : ∃ m, k = m + 1 := ⟨k - 1, by omega⟩
    have hi' : i < l.length := by omega
    have := ih k (i + 1) (by omega) (by omega)
    simp only [graftageref33_In.l0]
    rw [if_pos (by omega), if_pos (by omega), rd_ext l i hi', ref_Within_eq _ _ hd, wrap_id (by omega) (by omega), List.drop_eq_getElem_cons hi', List.any_cons]
    simp only [Option.bind_some]
    by_cases h : withinB d l[i] = true
    · rw [if_pos h, h]; simp
    · rw [if_neg h]
      rw [Bool.not_eq_true] at h
      rw [h, Bool.false_or]; exact_mod_cast this
theorem In_ev (l : List ByteArray) (p : ByteArray) (hl : ∀ x ∈ l, x.size ≤ 140737488351232) (hn : l.length ≤ 140737488351232) (hp : p.size ≤ 4294967280) : Ev (fun k => graftageref33_In.f k l p) (incB l p) := by
  have hd := dirB_size p
  have yes : Ev (fun k => graftageref33_In.j0 k l (dirB p) true) true := Ev.step (fun k => by rw [graftageref33_In.j0, if_pos rfl]) (Ev.now _)
  refine Ev.bind (ref_Is_ev p hp) ?_
  unfold incB
  refine ev_ite (fun h => ?_) (fun h => ?_)
  · rw [h, Bool.true_and]
    refine Ev.bind (ref_Dir_ev p (by omega)) ?_
    refine ev_ite (fun h0 => ?_) (fun h0 => ?_)
    · rw [decide_eq_true (by omega)]; exact yes
    · rw [decide_eq_false (by omega), Bool.false_or]
      refine ev_ite (fun h1 => ?_) (fun h1 => ?_)
      · rw [h1]; exact yes
      · rw [beq_eq_false_iff_ne.mpr h1, Bool.false_or, any_or3]
        refine Ev.bind (Has_ev l (dirB p) hn) (ev_ite (fun h2 => ?_) (fun h2 => ?_))
        · rw [h2]; exact yes
        · rw [Bool.not_eq_true] at h2
          rw [h2, Bool.false_or]
          refine Ev.bind (inside_ev l (dirB p) hl hn) ?_
          cases h3 : l.any (fun x => withinB x (dirB p)) with
          | true => exact yes
          | false =>
            rw [Bool.false_or]
            refine Ev.step (f := fun k => graftageref33_In.l0 k l (dirB p) 0) (fun k => by rw [graftageref33_In.j0, if_neg (by simp)]) ?_
            exact Ev.of (fun k => (graftageref33_In.mono_l k).2 _ _ _) (k := l.length + 1) (by exact_mod_cast In_l0 l (dirB p) (by omega) hn l.length _ 0 (by omega) (by omega))
  · rw [Bool.not_eq_true] at h
    rw [h]; exact Ev.now _

/-! ### right cones -/
def atB (l : List ByteArray) (i : Nat) : ByteArray := rdOf ByteArray.empty l i
def vF (l : List ByteArray) : Nat → Nat → Bool
  | 0, _ => decide (l.length ≤ 4096)
  | d + 1, i => isPath (atB l i) && ((decide (i = 0) || Op.bytesLess (atB l (i - 1)).toList (atB l i).toList) && (!((l.take i).any (fun c => withinB c (atB l i))) && vF l d (i + 1)))
def rF (l : List ByteArray) : Nat → Nat → Bool
  | 0, _ => decide (l.length ≤ 4096)
  | d + 1, i => isPath (atB l i) && ((decide (i = 0) || Op.bytesLess (atB l (i - 1)).toList (atB l i).toList) && (!(l.any (fun c => withinB c (atB l i))) && rF l d (i + 1)))
theorem atB_size (l : List ByteArray) (hl : ∀ x ∈ l, x.size ≤ 4294967280) (i : Nat) (h : i < l.length) : (atB l i).size ≤ 4294967280 := by
  unfold atB; rw [rd_ext l i h]; exact hl _ (List.getElem_mem h)
section
variable (l : List ByteArray) (hl : ∀ x ∈ l, x.size ≤ 4294967280) (hn : l.length ≤ 4294967280)
include hl hn
theorem Valid_l0 : ∀ (d i : Nat), i + d = l.length → Ev (fun k => sparse_Valid.l0 k l l l.length i) (vF l d i) := by
  intro d
  induction d with
  | zero =>
    intro i hi
    refine Ev.step (f := fun _ => some (decide ((l.length : Int) ≤ 4096))) (fun k => by rw [sparse_Valid.l0, if_neg (by omega)]) ?_
    rw [vF, decide_eq_decide.2 (show ((l.length : Int) ≤ 4096) ↔ l.length ≤ 4096 by omega)]
    exact Ev.now _
  | succ d ih =>
    intro i hi
    have hi' : i < l.length := by omega
    have hz := atB_size l hl i hi'
    have e0 : rdOf ByteArray.empty l (i : Int) = atB l i := rfl
    rw [vF]
    have tail : Ev (fun k => (slices_ContainsFunc_string_string.f k (l.take i) (fun z0 => sparse_Valid_1.f z0 (atB l i))).bind fun t => (if t = true then (some false) else (sparse_Valid.l0 k l l (l.length : Int) (wrap64 ((i : Int) + 1))))) (!((l.take i).any (fun c => withinB c (atB l i))) && vF l d (i + 1)) := by
      refine Ev.bind (ContainsFunc_ev (l.take i) _ (fun c => withinB c (atB l i)) (fun c hc => by
        have := hl c (List.mem_of_mem_take hc)
        unfold sparse_Valid_1.f
        rw [path_Within_eq _ _ (by omega)]; rfl) (by rw [List.length_take]; omega)) (ev_ite (fun h => ?_) (fun h => ?_))
      · rw [h]; exact Ev.now _
      · rw [Bool.not_eq_true] at h
        rw [h, wrap_id (by omega) (by omega)]
        simp only [Bool.not_false, Bool.true_and]
        exact_mod_cast ih (i + 1) (by omega)
    by_cases h0 : i = 0
    · subst h0
      refine Ev.step (f := fun k => (path_Is.f k (atB l 0)).bind fun t => if t = true then ((slices_ContainsFunc_string_string.f k (l.take 0) (fun z0 => sparse_Valid_1.f z0 (atB l 0))).bind fun t => (if t = true then (some false) else (sparse_Valid.l0 k l l (l.length : Int) (wrap64 (((0 : Nat) : Int) + 1))))) else some false) (fun k => ?_) (Ev.bind (path_Is_ev _) (ev_ite (fun h => ?_) (fun h => ?_)))
      · rw [sparse_Valid.l0, if_pos (by omega), if_pos (by omega), if_pos (by omega), e0]
        have g0 : ¬ (((0 : Nat) : Int) > 0) := by omega
        have g1 : ((0 : Nat) : Int) ≤ (l.length : Int) := by omega
        simp only [if_neg g0, if_pos g1, Int.toNat_natCast]
      · rw [h, decide_eq_true rfl, Bool.true_or, Bool.true_and, Bool.true_and]; exact tail
      · rw [Bool.not_eq_true] at h
        rw [h]; exact Ev.now _
    · refine Ev.step (f := fun k => (path_Is.f k (atB l i)).bind fun t => if t = true then (if Op.bytesLess (atB l (i - 1)).toList (atB l i).toList = true then ((slices_ContainsFunc_string_string.f k (l.take i) (fun z0 => sparse_Valid_1.f z0 (atB l i))).bind fun t => (if t = true then (some false) else (sparse_Valid.l0 k l l (l.length : Int) (wrap64 ((i : Int) + 1))))) else some false) else some false) (fun k => ?_) (Ev.bind (path_Is_ev _) (ev_ite (fun h => ?_) (fun h => ?_)))
      · rw [sparse_Valid.l0, if_pos (by omega), if_pos (by omega), if_pos (by omega), e0]
        have g0 : ((i : Int) > 0) := by omega
        have g1 : (i : Int) ≤ (l.length : Int) := by omega
        have g2 : wrap64 ((i : Int) - 1) = ((i - 1 : Nat) : Int) := by rw [wrap_id (by omega) (by omega)]; omega
        have g3 : (0 : Int) ≤ ((i - 1 : Nat) : Int) := by omega
        have g4 : ((i - 1 : Nat) : Int) < (l.length : Int) := by omega
        have e1 : rdOf ByteArray.empty l ((i - 1 : Nat) : Int) = atB l (i - 1) := rfl
        simp only [if_pos g0, if_pos g1, g2, if_pos g3, if_pos g4, e1, Int.toNat_natCast]
      · rw [h, decide_eq_false h0, Bool.false_or, Bool.true_and]
        refine ev_ite (fun h2 => ?_) (fun h2 => ?_)
        · rw [h2, Bool.true_and]; exact tail
        · rw [Bool.not_eq_true] at h2
          rw [h2]; exact Ev.now _
      · rw [Bool.not_eq_true] at h
        rw [h]; exact Ev.now _
theorem Right_l0 : ∀ (d i : Nat), i + d = l.length → Ev (fun k => graftageref33_Right.l0 k l i) (rF l d i) := by
  intro d
  induction d with
  | zero =>
    intro i hi
    refine Ev.step (f := fun _ => some (decide ((l.length : Int) ≤ 4096))) (fun k => by rw [graftageref33_Right.l0, if_neg (by omega)]) ?_
    rw [rF, decide_eq_decide.2 (show ((l.length : Int) ≤ 4096) ↔ l.length ≤ 4096 by omega)]
    exact Ev.now _
  | succ d ih =>
    intro i hi
    have hi' : i < l.length := by omega
    have hz := atB_size l hl i hi'
    have e0 : rdOf ByteArray.empty l (i : Int) = atB l i := rfl
    rw [rF]
    have tail : Ev (fun k => (graftageref33_inside.f k l (atB l i)).bind fun t => (if t = true then (some false) else (graftageref33_Right.l0 k l (wrap64 ((i : Int) + 1))))) (!(l.any (fun c => withinB c (atB l i))) && rF l d (i + 1)) := by
      refine Ev.bind (inside_ev l _ (fun c hc => by have := hl c hc; omega) (by omega)) (ev_ite (fun h => ?_) (fun h => ?_))
      · rw [h]; exact Ev.now _
      · rw [Bool.not_eq_true] at h
        rw [h, wrap_id (by omega) (by omega)]
        simp only [Bool.not_false, Bool.true_and]
        exact_mod_cast ih (i + 1) (by omega)
    by_cases h0 : i = 0
    · subst h0
      refine Ev.step (f := fun k => (graftageref06_Is.f k (atB l 0)).bind fun t => if t = true then ((graftageref33_inside.f k l (atB l 0)).bind fun t => (if t = true then (some false) else (graftageref33_Right.l0 k l (wrap64 (((0 : Nat) : Int) + 1))))) else some false) (fun k => ?_) (Ev.bind (ref_Is_ev _ hz) (ev_ite (fun h => ?_) (fun h => ?_)))
      · rw [graftageref33_Right.l0, if_pos (by omega), if_pos (by omega), e0]
        have g0 : ¬ (((0 : Nat) : Int) > 0) := by omega
        simp only [if_neg g0]
      · rw [h, decide_eq_true rfl, Bool.true_or, Bool.true_and, Bool.true_and]; exact tail
      · rw [Bool.not_eq_true] at h
        rw [h]; exact Ev.now _
    · refine Ev.step (f := fun k => (graftageref06_Is.f k (atB l i)).bind fun t => if t = true then (if Op.bytesLess (atB l (i - 1)).toList (atB l i).toList = true then ((graftageref33_inside.f k l (atB l i)).bind fun t => (if t = true then (some false) else (graftageref33_Right.l0 k l (wrap64 ((i : Int) + 1))))) else some false) else some false) (fun k => ?_) (Ev.bind (ref_Is_ev _ hz) (ev_ite (fun h => ?_) (fun h => ?_)))
      · rw [graftageref33_Right.l0, if_pos (by omega), if_pos (by omega), e0]
        have g0 : ((i : Int) > 0) := by omega
        have g2 : wrap64 ((i : Int) - 1) = ((i - 1 : Nat) : Int) := by rw [wrap_id (by omega) (by omega)]; omega
        have g3 : (0 : Int) ≤ ((i - 1 : Nat) : Int) := by omega
        have g4 : ((i - 1 : Nat) : Int) < (l.length : Int) := by omega
        have e1 : rdOf ByteArray.empty l ((i - 1 : Nat) : Int) = atB l (i - 1) := rfl
        simp only [if_pos g0, g2, if_pos g3, if_pos g4, e1]
      · rw [h, decide_eq_false h0, Bool.false_or, Bool.true_and]
        refine ev_ite (fun h2 => ?_) (fun h2 => ?_)
        · rw [h2, Bool.true_and]; exact tail
        · rw [Bool.not_eq_true] at h2
          rw [h2]; exact Ev.now _
      · rw [Bool.not_eq_true] at h
        rw [h]; exact Ev.now _
end
end Go.Proofs.YtfkkbcmbabfipaaDoor.Q

/- Contracts of Go functions as calls of plain Lean functions, written by a program of this session over the kit's print. -/
namespace Go.Proofs.YtfkkbcmbabfipaaDoor.Q
open Go.RowKit Go.Proofs.YtfkkbcmbabfipaaDoorW.PrintWords Go.Proofs.YtfkkbcmbabfipaaDoorW.PrintLast Go.Proofs.YtfkkbcmbabfipaaDoorW.PrintMore
attribute [local go_sem] max2_int min2_int max_two min_two max_three min_three max_four min_four   -- for this text's walks alone

/-! ### graftageref33_Text: function 36 -/
def graftageref33_Text.l0 : Nat → List ByteArray → ByteArray → Int → Option (ByteArray)
  | 0, _, _, _ => none
  | k + 1, x0, x3, x4 => if x4 < (x0.length : Int) then (if x3.size + 1 ≤ 9223372036854775807 then (if 0 ≤ x4 then (if (x3 ++ (⟨#[47]⟩ : ByteArray)).size + (rdOf ByteArray.empty x0 x4).size ≤ 9223372036854775807 then (if ((x3 ++ (⟨#[47]⟩ : ByteArray)) ++ (rdOf ByteArray.empty x0 x4)).size + 2 ≤ 9223372036854775807 then (graftageref33_Text.l0 k x0 (((x3 ++ (⟨#[47]⟩ : ByteArray)) ++ (rdOf ByteArray.empty x0 x4)) ++ (⟨#[47, 10]⟩ : ByteArray)) (wrap64 (x4 + 1))) else (none)) else (none)) else (none)) else (none)) else (some x3)
def graftageref33_Text.f (k : Nat) (l0 : List ByteArray) : Option (ByteArray) := (graftageref33_Right.f k l0).bind fun t101 => (if t101 = true then (graftageref33_Text.l0 k l0 (⟨#[]⟩ : ByteArray) 0) else (some (⟨#[]⟩ : ByteArray)))
theorem graftageref33_Text.mono_l : ∀ k, (∀ y0 y1 y2, LeO (graftageref33_Text.l0 k y0 y1 y2) (graftageref33_Text.l0 (k + 1) y0 y1 y2))
  | 0 => fun _ _ _ r h => by simp [graftageref33_Text.l0] at h
  | k + 1 => by
    have ih0 := graftageref33_Text.mono_l k
    · intro y0 y1 y2
      unfold graftageref33_Text.l0
      repeat' first
      | (with_reducible exact ih0 _ _ _)
      | (with_reducible exact graftageref33_Right.mono _ _)
      | (with_reducible exact LeO.refl _)
      | (with_reducible exact LeO.none _)
      | (with_reducible refine LeO.ite ?_ ?_)
      | (with_reducible refine LeO.bind ?_ (fun _ => ?_))
      | exact ih0 _ _ _
      | exact graftageref33_Right.mono _ _
      | exact LeO.none _
      | refine LeO.ite ?_ ?_
      | refine LeO.bind ?_ (fun _ => ?_)
theorem graftageref33_Text.mono : ∀ a0 k, LeO (graftageref33_Text.f k a0) (graftageref33_Text.f (k + 1) a0) := by
  intro a0 k
  have ih0 := graftageref33_Text.mono_l k
  unfold graftageref33_Text.f
  repeat' first
      | (with_reducible exact ih0 _ _ _)
      | (with_reducible exact graftageref33_Right.mono _ _)
      | (with_reducible exact LeO.refl _)
      | (with_reducible exact LeO.none _)
      | (with_reducible refine LeO.ite ?_ ?_)
      | (with_reducible refine LeO.bind ?_ (fun _ => ?_))
      | exact ih0 _ _ _
      | exact graftageref33_Right.mono _ _
      | exact LeO.none _
      | refine LeO.ite ?_ ?_
      | refine LeO.bind ?_ (fun _ => ?_)
set_option maxHeartbeats 8000000 in
set_option maxRecDepth 100000 in
theorem graftageref33_Text.calls (k : Nat) (A0 : Option Addr) (c0 : Nat) (l0 : List ByteArray) (r : ByteArray) (w : World) (hr0 : Kd.C Kd.string w A0 l0.length l0) (hc0 : l0.length ≤ c0) (h : graftageref33_Text.f k l0 = some r) :
    Calls Tryd.prog 36 #[.slice A0 l0.length c0] w fun e w' => e = .returned (.string r) ∧ Below w.heap.size w w' := by
  have HR0 := Aside0.mk hr0
  have HC0 := Aside0.mk hc0
  clear hr0 hc0
  have HB := Aside0.mk (Below.refl w.heap.size w)
  have H : ((graftageref33_Right.f k l0).bind fun t101 => (if t101 = true then (graftageref33_Text.l0 k l0 (⟨#[]⟩ : ByteArray) 0) else (some (⟨#[]⟩ : ByteArray)))) = some r := h
  clear h
  replace H := Option.bind_eq_some_iff.mp H
  obtain ⟨t101, A20, H⟩ := H
  replace H : (if t101 = true then (graftageref33_Text.l0 k l0 (⟨#[]⟩ : ByteArray) 0) else (some (⟨#[]⟩ : ByteArray))) = some r := H
  have A2 := Aside0.mk A20
  clear A20
  by_cases c3 : t101 = true
  · subst c3
    have H1 : (graftageref33_Text.l0 k l0 (⟨#[]⟩ : ByteArray) 0) = some r := by rw [if_pos rfl] at H; exact H
    clear H
    have H := H1
    clear H1
    have H' := Aside0.mk H
    clear H
    go_enter Tryd.func36, Tryd.ntmps36
    go_wp2_with (first | ((with_reducible refine gate_callee (f := 34) rfl ?_); refine goesL_ (some 6) rfl rfl Tryd.func34 (by kernel_rfl) rfl #[.slice A0 l0.length c0] rfl (by (try simp only [List.map_toArray, List.map_cons, List.map_nil]); first | done | rfl | (simp only [List.length_drop, List.length_take]; rfl)) ?_; (with_reducible refine (graftageref33_Right.calls k _ _ l0 true _ ?side1 ?side2 A2.out).mono ?_); (case side1 => repeat (first | exact HR0.out | (with_reducible refine Kd.C_alloc ?_ _) | (with_reducible refine Kd.C_drewN ?_ _) | (with_reducible refine Kd.C_drew ?_))); (case side2 => exact HC0.out); rintro e w4 ⟨rfl, hb⟩; refine ⟨_, rfl, ?_⟩; have n0_ := Aside0.mk (below_step (by repeat (first | (with_reducible first | exact HB.out | apply below_alloc | apply pw_below_drewN | apply below_drew1) | exact HB.out)) hb); clear HB; have HB := n0_; clear n0_; (try clear hb); (try clear hb2); (try clear hk); (try clear hi)))
    go_loopg [3, 4] k (fun kq v3 v4 w' => ∃ (x3_1 : ByteArray) (x4_1 : Int), v3 = .string x3_1 ∧ v4 = .int .i64 x4_1 ∧ Aside0 (graftageref33_Text.l0 kq l0 x3_1 x4_1 = some r) ∧ Aside0 (kq ≤ k) ∧ Aside0 (Below w.heap.size w w'))
    case atStart => exact ⟨((⟨#[]⟩ : ByteArray)), (0), (by first | rfl | (simp; done) | (simp [*]; done) | (simp [ne_nil_bool]; done) | (simp [*, ne_nil_bool]; done)), (by first | rfl | (simp; done) | (simp [*]; done) | (simp [ne_nil_bool]; done) | (simp [*, ne_nil_bool]; done)), H', ⟨Nat.le_refl _⟩, ⟨by repeat (first | (with_reducible first | exact HB.out | apply below_alloc | apply pw_below_drewN | apply below_drew1) | exact HB.out)⟩⟩
    case round =>
      clear H'
      try clear p2
      try clear c3
      obtain ⟨x3_1, x4_1, rfl, rfl, HA, HK1, HB⟩ := hrel
      cases gk with
      | zero => exact absurd HA.out (by simp [graftageref33_Text.l0])
      | succ k1 =>
        have H := HA.out
        clear HA
        simp only [graftageref33_Text.l0] at H
        by_cases c5 : x4_1 < (l0.length : Int)
        · rw [if_pos c5] at H
          have c5b0 : decide (x4_1 < (l0.length : Int)) = true := decide_eq_true c5
          clear c5
          by_cases c6 : x3_1.size + 1 ≤ 9223372036854775807
          · rw [if_pos c6] at H
            have c6b0 := eq_true c6
            have c6b1 : decide (x3_1.size + 1 ≤ 9223372036854775807) = true := decide_eq_true c6
            try have c6b2 : (9223372036854775807 < x3_1.size + 1) = False := eq_false (Nat.not_lt.2 c6)
            by_cases c7 : 0 ≤ x4_1
            · rw [if_pos c7] at H
              have c7b0 : decide (0 ≤ x4_1) = true := decide_eq_true c7
              clear c7
              by_cases c8 : (x3_1 ++ (⟨#[47]⟩ : ByteArray)).size + (rdOf ByteArray.empty l0 x4_1).size ≤ 9223372036854775807
              · rw [if_pos c8] at H
                have c8b0 := eq_true c8
                have c8b1 : decide ((x3_1 ++ (⟨#[47]⟩ : ByteArray)).size + (rdOf ByteArray.empty l0 x4_1).size ≤ 9223372036854775807) = true := decide_eq_true c8
                try have c8b3 : (9223372036854775807 < x3_1.size + 1 + (rdOf ByteArray.empty l0 x4_1).size) = False := (by have h_ := c8; simp only [ByteArray.size_append] at h_; exact eq_false (Nat.not_lt.2 h_))
                try have c8b2 : (9223372036854775807 < (x3_1 ++ (⟨#[47]⟩ : ByteArray)).size + (rdOf ByteArray.empty l0 x4_1).size) = False := eq_false (Nat.not_lt.2 c8)
                by_cases c9 : ((x3_1 ++ (⟨#[47]⟩ : ByteArray)) ++ (rdOf ByteArray.empty l0 x4_1)).size + 2 ≤ 9223372036854775807
                · rw [if_pos c9] at H
                  have c9b0 := eq_true c9
                  have c9b1 : decide (((x3_1 ++ (⟨#[47]⟩ : ByteArray)) ++ (rdOf ByteArray.empty l0 x4_1)).size + 2 ≤ 9223372036854775807) = true := decide_eq_true c9
                  try have c9b3 : (9223372036854775807 < x3_1.size + 1 + (rdOf ByteArray.empty l0 x4_1).size + 2) = False := (by have h_ := c9; simp only [ByteArray.size_append] at h_; exact eq_false (Nat.not_lt.2 h_))
                  try have c9b2 : (9223372036854775807 < ((x3_1 ++ (⟨#[47]⟩ : ByteArray)) ++ (rdOf ByteArray.empty l0 x4_1)).size + 2) = False := eq_false (Nat.not_lt.2 c9)
                  have H' := Aside0.mk H
                  clear H
                  have p102 : 0 ≤ (x4_1 : Int) := of_decide_eq_true (by first | (with_reducible assumption) | assumption)
                  have q102 : x4_1 < (l0.length : Int) := of_decide_eq_true (by first | (with_reducible assumption) | assumption)
                  obtain ⟨ad102, e102, hx102_0⟩ := Kd.at_string HR0.out x4_1 p102 q102
                  cases e102
                  replace hx102_0 := (HB.out.cell (World.block_lt_of_cell? w _ hx102_0)).trans hx102_0
                  replace p102 := eq_true p102
                  replace q102 := eq_true q102
                  go_wp2
                  go_roundg k1
                  case measure => have := HK1.out; omega
                  case rel => exact ⟨(((x3_1 ++ (⟨#[47]⟩ : ByteArray)) ++ (rdOf ByteArray.empty l0 x4_1)) ++ (⟨#[47, 10]⟩ : ByteArray)), (wrap64 (x4_1 + 1)), (by first | rfl | (simp; done) | (simp [*]; done) | (simp [ne_nil_bool]; done) | (simp [*, ne_nil_bool]; done)), (by first | rfl | (simp; done) | (simp [*]; done) | (simp [ne_nil_bool]; done) | (simp [*, ne_nil_bool]; done)), H', ⟨by have := HK1.out; omega⟩, ⟨by repeat (first | (with_reducible first | exact HB.out | apply below_alloc | apply pw_below_drewN | apply below_drew1) | exact HB.out)⟩⟩
                · rw [if_neg c9] at H
                  exact absurd H (by simp)
              · rw [if_neg c8] at H
                exact absurd H (by simp)
            · rw [if_neg c7] at H
              exact absurd H (by simp)
          · rw [if_neg c6] at H
            exact absurd H (by simp)
        · rw [if_neg c5] at H
          have c5b0 : decide (x4_1 < (l0.length : Int)) = false := decide_eq_false c5
          clear c5
          obtain rfl := Option.some.inj H
          go_wp2
          go_ret
          exact ⟨by first | rfl | (simp [errW_none, errW_some] <;> rfl) | (simp [*, errW_none, errW_some] <;> rfl) | (simp [ne_nil_bool]; done) | (simp [*, ne_nil_bool]; done), by repeat (first | (with_reducible first | exact HB.out | apply below_alloc | apply pw_below_drewN | apply below_drew1) | exact HB.out)⟩
  · replace c3 := Bool.eq_false_iff.mpr c3
    subst c3
    have H1 : (some (⟨#[]⟩ : ByteArray)) = some r := by rw [if_neg (show ¬ (false = true) by decide)] at H; exact H
    clear H
    have H := H1
    clear H1
    obtain rfl := Option.some.inj H
    go_enter Tryd.func36, Tryd.ntmps36
    go_wp2_with (first | ((with_reducible refine gate_callee (f := 34) rfl ?_); refine goesL_ (some 6) rfl rfl Tryd.func34 (by kernel_rfl) rfl #[.slice A0 l0.length c0] rfl (by (try simp only [List.map_toArray, List.map_cons, List.map_nil]); first | done | rfl | (simp only [List.length_drop, List.length_take]; rfl)) ?_; (with_reducible refine (graftageref33_Right.calls k _ _ l0 false _ ?side1 ?side2 A2.out).mono ?_); (case side1 => repeat (first | exact HR0.out | (with_reducible refine Kd.C_alloc ?_ _) | (with_reducible refine Kd.C_drewN ?_ _) | (with_reducible refine Kd.C_drew ?_))); (case side2 => exact HC0.out); rintro e w10 ⟨rfl, hb⟩; refine ⟨_, rfl, ?_⟩; have n0_ := Aside0.mk (below_step (by repeat (first | (with_reducible first | exact HB.out | apply below_alloc | apply pw_below_drewN | apply below_drew1) | exact HB.out)) hb); clear HB; have HB := n0_; clear n0_; (try clear hb); (try clear hb2); (try clear hk); (try clear hi)))
    go_ret
    exact ⟨by first | rfl | (simp [errW_none, errW_some] <;> rfl) | (simp [*, errW_none, errW_some] <;> rfl) | (simp [ne_nil_bool]; done) | (simp [*, ne_nil_bool]; done), by repeat (first | (with_reducible first | exact HB.out | apply below_alloc | apply pw_below_drewN | apply below_drew1) | exact HB.out)⟩

end Go.Proofs.YtfkkbcmbabfipaaDoor.Q

/- Contracts of Go functions as calls of plain Lean functions, written by a program of this session over the kit's print. -/
namespace Go.Proofs.YtfkkbcmbabfipaaDoor.Q
open Go.RowKit Go.Proofs.YtfkkbcmbabfipaaDoorW.PrintWords Go.Proofs.YtfkkbcmbabfipaaDoorW.PrintLast Go.Proofs.YtfkkbcmbabfipaaDoorW.PrintMore
attribute [local go_sem] max2_int min2_int max_two min_two max_three min_three max_four min_four   -- for this text's walks alone

/-! ### graftagelaw33_SparseTells: function 8 -/
def graftagelaw33_SparseTells.j0 : Nat → List ByteArray → ByteArray → Bool → Option (Bool)
  | 0, _, _, _ => none
  | k + 1, x0, x1, x20 => if x20 = true then (some false) else ((graftageref33_Right.f k x0).bind fun t108 => (if t108 = true then ((sparse_Includes.f k x0 x1).bind fun t109 => ((graftageref33_In.f k x0 x1).bind fun t110 => (if (t109 == t110) = true then ((graftagelaw33_lives.f k).bind fun t111 => (some t111)) else (some false)))) else ((graftagelaw33_lives.f k).bind fun t112 => (some t112))))
def graftagelaw33_SparseTells.f (k : Nat) (l0 : List ByteArray) (a1 : ByteArray) : Option (Bool) := if (l0.length : Int) > 40 then ((graftagelaw33_lives.f k).bind fun t103 => (some t103)) else ((sparse_Valid.f k l0).bind fun t104 => ((graftageref33_Right.f k l0).bind fun t105 => (if (t104 != t105) = true then (graftagelaw33_SparseTells.j0 k l0 a1 true) else ((sparse_Text.f k l0).bind fun t106 => ((graftageref33_Text.f k l0).bind fun t107 => (graftagelaw33_SparseTells.j0 k l0 a1 (t106.toList != t107.toList)))))))
theorem graftagelaw33_SparseTells.mono_l : ∀ k, (∀ y0 y1 y2, LeO (graftagelaw33_SparseTells.j0 k y0 y1 y2) (graftagelaw33_SparseTells.j0 (k + 1) y0 y1 y2))
  | 0 => fun _ _ _ r h => by simp [graftagelaw33_SparseTells.j0] at h
  | k + 1 => by
    have ih0 := graftagelaw33_SparseTells.mono_l k
    · intro y0 y1 y2
      unfold graftagelaw33_SparseTells.j0
      repeat' first
      | (with_reducible exact ih0 _ _ _)
      | (with_reducible exact graftagelaw33_lives.mono _)
      | (with_reducible exact graftageref33_In.mono _ _ _)
      | (with_reducible exact graftageref33_Right.mono _ _)
      | (with_reducible exact graftageref33_Text.mono _ _)
      | (with_reducible exact sparse_Includes.mono _ _ _)
      | (with_reducible exact sparse_Text.mono _ _)
      | (with_reducible exact sparse_Valid.mono _ _)
      | (with_reducible exact LeO.refl _)
      | (with_reducible exact LeO.none _)
      | (with_reducible refine LeO.ite ?_ ?_)
      | (with_reducible refine LeO.bind ?_ (fun _ => ?_))
      | exact ih0 _ _ _
      | exact graftagelaw33_lives.mono _
      | exact graftageref33_In.mono _ _ _
      | exact graftageref33_Right.mono _ _
      | exact graftageref33_Text.mono _ _
      | exact sparse_Includes.mono _ _ _
      | exact sparse_Text.mono _ _
      | exact sparse_Valid.mono _ _
      | exact LeO.none _
      | refine LeO.ite ?_ ?_
      | refine LeO.bind ?_ (fun _ => ?_)
theorem graftagelaw33_SparseTells.mono : ∀ a0 a1 k, LeO (graftagelaw33_SparseTells.f k a0 a1) (graftagelaw33_SparseTells.f (k + 1) a0 a1) := by
  intro a0 a1 k
  have ih0 := graftagelaw33_SparseTells.mono_l k
  unfold graftagelaw33_SparseTells.f
  repeat' first
      | (with_reducible exact ih0 _ _ _)
      | (with_reducible exact graftagelaw33_lives.mono _)
      | (with_reducible exact graftageref33_In.mono _ _ _)
      | (with_reducible exact graftageref33_Right.mono _ _)
      | (with_reducible exact graftageref33_Text.mono _ _)
      | (with_reducible exact sparse_Includes.mono _ _ _)
      | (with_reducible exact sparse_Text.mono _ _)
      | (with_reducible exact sparse_Valid.mono _ _)
      | (with_reducible exact LeO.refl _)
      | (with_reducible exact LeO.none _)
      | (with_reducible refine LeO.ite ?_ ?_)
      | (with_reducible refine LeO.bind ?_ (fun _ => ?_))
      | exact ih0 _ _ _
      | exact graftagelaw33_lives.mono _
      | exact graftageref33_In.mono _ _ _
      | exact graftageref33_Right.mono _ _
      | exact graftageref33_Text.mono _ _
      | exact sparse_Includes.mono _ _ _
      | exact sparse_Text.mono _ _
      | exact sparse_Valid.mono _ _
      | exact LeO.none _
      | refine LeO.ite ?_ ?_
      | refine LeO.bind ?_ (fun _ => ?_)
set_option maxHeartbeats 8000000 in
set_option maxRecDepth 100000 in
theorem graftagelaw33_SparseTells.calls (k : Nat) (A0 : Option Addr) (c0 : Nat) (l0 : List ByteArray) (a1 : ByteArray) (r : Bool) (w : World) (hr0 : Kd.C Kd.string w A0 l0.length l0) (hc0 : l0.length ≤ c0) (h : graftagelaw33_SparseTells.f k l0 a1 = some r) :
    Calls Tryd.prog 8 #[.slice A0 l0.length c0, .string a1] w fun e w' => e = .returned (.bool r) ∧ Below w.heap.size w w' := by
  have HR0 := Aside0.mk hr0
  have HC0 := Aside0.mk hc0
  clear hr0 hc0
  have HB := Aside0.mk (Below.refl w.heap.size w)
  have H : (if (l0.length : Int) > 40 then ((graftagelaw33_lives.f k).bind fun t103 => (some t103)) else ((sparse_Valid.f k l0).bind fun t104 => ((graftageref33_Right.f k l0).bind fun t105 => (if (t104 != t105) = true then (graftagelaw33_SparseTells.j0 k l0 a1 true) else ((sparse_Text.f k l0).bind fun t106 => ((graftageref33_Text.f k l0).bind fun t107 => (graftagelaw33_SparseTells.j0 k l0 a1 (t106.toList != t107.toList)))))))) = some r := h
  clear h
  by_cases c3 : (l0.length : Int) > 40
  · rw [if_pos c3] at H
    have c3b0 : decide (40 < (l0.length : Int)) = true := decide_eq_true c3
    have c3b1 : decide (40 < l0.length) = true := decide_eq_true (by omega)
    clear c3
    replace H := Option.bind_eq_some_iff.mp H
    obtain ⟨t103, A40, H⟩ := H
    replace H : (some t103) = some r := H
    have A4 := Aside0.mk A40
    clear A40
    obtain rfl := Option.some.inj H
    go_enter Tryd.func8, Tryd.ntmps8
    go_wp2_with (first | ((with_reducible refine gate_callee (f := 32) rfl ?_); refine goesL_ (some 8) rfl rfl Tryd.func32 (by kernel_rfl) rfl #[] rfl (by (try simp only [List.map_toArray, List.map_cons, List.map_nil]); first | done | rfl | (simp only [List.length_drop, List.length_take]; rfl)) ?_; (with_reducible refine (graftagelaw33_lives.calls k  t103 _ A4.out).mono ?_); rintro e w5 ⟨rfl, hb⟩; refine ⟨_, rfl, ?_⟩; have n0_ := Aside0.mk (below_step (by repeat (first | (with_reducible first | exact HB.out | apply below_alloc | apply pw_below_drewN | apply below_drew1) | exact HB.out)) hb); clear HB; have HB := n0_; clear n0_; (try clear hb); (try clear hb2); (try clear hk); (try clear hi)))
    go_ret
    exact ⟨by first | rfl | (simp [errW_none, errW_some] <;> rfl) | (simp [*, errW_none, errW_some] <;> rfl) | (simp [ne_nil_bool]; done) | (simp [*, ne_nil_bool]; done), by repeat (first | (with_reducible first | exact HB.out | apply below_alloc | apply pw_below_drewN | apply below_drew1) | exact HB.out)⟩
  · rw [if_neg c3] at H
    have c3b0 : decide (40 < (l0.length : Int)) = false := decide_eq_false c3
    have c3b1 : decide (40 < l0.length) = false := decide_eq_false (by omega)
    clear c3
    have HC6 := Aside0.mk H
    clear H
    go_enter Tryd.func8, Tryd.ntmps8
    go_upto_region 3 with (fail)
    go_cut [20] (fun v20 wc => ∃ (kq : Nat) (x20_5 : Bool), v20 = .bool x20_5 ∧ Aside0 (graftagelaw33_SparseTells.j0 kq l0 a1 x20_5 = some r) ∧ Aside0 (kq ≤ k) ∧ Aside0 (Below w.heap.size w wc))
    case first =>
      have H := HC6.out
      clear HC6
      replace H := Option.bind_eq_some_iff.mp H
      obtain ⟨t104, A70, H⟩ := H
      replace H : ((graftageref33_Right.f k l0).bind fun t105 => (if (t104 != t105) = true then (graftagelaw33_SparseTells.j0 k l0 a1 true) else ((sparse_Text.f k l0).bind fun t106 => ((graftageref33_Text.f k l0).bind fun t107 => (graftagelaw33_SparseTells.j0 k l0 a1 (t106.toList != t107.toList)))))) = some r := H
      have A7 := Aside0.mk A70
      clear A70
      replace H := Option.bind_eq_some_iff.mp H
      obtain ⟨t105, A80, H⟩ := H
      replace H : (if (t104 != t105) = true then (graftagelaw33_SparseTells.j0 k l0 a1 true) else ((sparse_Text.f k l0).bind fun t106 => ((graftageref33_Text.f k l0).bind fun t107 => (graftagelaw33_SparseTells.j0 k l0 a1 (t106.toList != t107.toList))))) = some r := H
      have A8 := Aside0.mk A80
      clear A80
      by_cases c9 : (t104 != t105) = true
      · rw [if_pos c9] at H
        have c9b0 : (t104 != t105) = true := c9
        (try (have c9b1 : decide (t104 = t105) = false := by simpa using c9))
        (try (have c9b2 : (t104 == t105) = false := by simpa using c9))
        (try (have c9b3 : ¬ (t104 = t105) := by simpa using c9))
        clear c9
        (first | rw [c9b0] | (simp only [i64_w, i32_w]; rw [c9b0]) | skip)
        have H' := Aside0.mk H
        clear H
        go_wp2_with (first | ((with_reducible refine gate_callee (f := 33) rfl ?_); refine goesL_ (some 10) rfl rfl Tryd.func33 (by kernel_rfl) rfl #[.slice A0 l0.length c0] rfl (by (try simp only [List.map_toArray, List.map_cons, List.map_nil]); first | done | rfl | (simp only [List.length_drop, List.length_take]; rfl)) ?_; (with_reducible refine (sparse_Valid.calls k _ _ l0 t104 _ ?side1 ?side2 A7.out).mono ?_); (case side1 => repeat (first | exact (Kd.C_below HR0.out HB.out) | (with_reducible refine Kd.C_alloc ?_ _) | (with_reducible refine Kd.C_drewN ?_ _) | (with_reducible refine Kd.C_drew ?_))); (case side2 => exact HC0.out); rintro e w10 ⟨rfl, hb⟩; refine ⟨_, rfl, ?_⟩; have n0_ := Aside0.mk (below_step (by repeat (first | (with_reducible first | exact HB.out | apply below_alloc | apply pw_below_drewN | apply below_drew1) | exact HB.out)) hb); clear HB; have HB := n0_; clear n0_; (try clear hb); (try clear hb2); (try clear hk); (try clear hi)) | ((with_reducible refine gate_callee (f := 34) rfl ?_); refine goesL_ (some 12) rfl rfl Tryd.func34 (by kernel_rfl) rfl #[.slice A0 l0.length c0] rfl (by (try simp only [List.map_toArray, List.map_cons, List.map_nil]); first | done | rfl | (simp only [List.length_drop, List.length_take]; rfl)) ?_; (with_reducible refine (graftageref33_Right.calls k _ _ l0 t105 _ ?side1 ?side2 A8.out).mono ?_); (case side1 => repeat (first | exact (Kd.C_below HR0.out HB.out) | (with_reducible refine Kd.C_alloc ?_ _) | (with_reducible refine Kd.C_drewN ?_ _) | (with_reducible refine Kd.C_drew ?_))); (case side2 => exact HC0.out); rintro e w11 ⟨rfl, hb⟩; refine ⟨_, rfl, ?_⟩; have n0_ := Aside0.mk (below_step (by repeat (first | (with_reducible first | exact HB.out | apply below_alloc | apply pw_below_drewN | apply below_drew1) | exact HB.out)) hb); clear HB; have HB := n0_; clear n0_; (try clear hb); (try clear hb2); (try clear hk); (try clear hi)))
        go_meet
        case rel => exact ⟨_, (true), (by first | rfl | (simp; done) | (simp [*]; done) | (simp [ne_nil_bool]; done) | (simp [*, ne_nil_bool]; done)), H', ⟨by first | omega | exact Nat.le_refl _⟩, ⟨by repeat (first | (with_reducible first | exact HB.out | apply below_alloc | apply pw_below_drewN | apply below_drew1) | exact HB.out)⟩⟩
      · rw [if_neg c9] at H
        have c9b0 : (t104 != t105) = false := by simpa using c9
        (try (have c9b1 : decide (t104 = t105) = true := by simpa using c9))
        (try (have c9b2 : (t104 == t105) = true := by simpa using c9))
        clear c9
        (first | rw [c9b0] | (simp only [i64_w, i32_w]; rw [c9b0]) | skip)
        replace H := Option.bind_eq_some_iff.mp H
        obtain ⟨t106, A120, H⟩ := H
        replace H : ((graftageref33_Text.f k l0).bind fun t107 => (graftagelaw33_SparseTells.j0 k l0 a1 (t106.toList != t107.toList))) = some r := H
        have A12 := Aside0.mk A120
        clear A120
        replace H := Option.bind_eq_some_iff.mp H
        obtain ⟨t107, A130, H⟩ := H
        replace H : (graftagelaw33_SparseTells.j0 k l0 a1 (t106.toList != t107.toList)) = some r := H
        have A13 := Aside0.mk A130
        clear A130
        have H' := Aside0.mk H
        clear H
        go_wp2_with (first | ((with_reducible refine gate_callee (f := 33) rfl ?_); refine goesL_ (some 10) rfl rfl Tryd.func33 (by kernel_rfl) rfl #[.slice A0 l0.length c0] rfl (by (try simp only [List.map_toArray, List.map_cons, List.map_nil]); first | done | rfl | (simp only [List.length_drop, List.length_take]; rfl)) ?_; (with_reducible refine (sparse_Valid.calls k _ _ l0 t104 _ ?side1 ?side2 A7.out).mono ?_); (case side1 => repeat (first | exact (Kd.C_below HR0.out HB.out) | (with_reducible refine Kd.C_alloc ?_ _) | (with_reducible refine Kd.C_drewN ?_ _) | (with_reducible refine Kd.C_drew ?_))); (case side2 => exact HC0.out); rintro e w14 ⟨rfl, hb⟩; refine ⟨_, rfl, ?_⟩; have n0_ := Aside0.mk (below_step (by repeat (first | (with_reducible first | exact HB.out | apply below_alloc | apply pw_below_drewN | apply below_drew1) | exact HB.out)) hb); clear HB; have HB := n0_; clear n0_; (try clear hb); (try clear hb2); (try clear hk); (try clear hi)) | ((with_reducible refine gate_callee (f := 34) rfl ?_); refine goesL_ (some 12) rfl rfl Tryd.func34 (by kernel_rfl) rfl #[.slice A0 l0.length c0] rfl (by (try simp only [List.map_toArray, List.map_cons, List.map_nil]); first | done | rfl | (simp only [List.length_drop, List.length_take]; rfl)) ?_; (with_reducible refine (graftageref33_Right.calls k _ _ l0 t105 _ ?side1 ?side2 A8.out).mono ?_); (case side1 => repeat (first | exact (Kd.C_below HR0.out HB.out) | (with_reducible refine Kd.C_alloc ?_ _) | (with_reducible refine Kd.C_drewN ?_ _) | (with_reducible refine Kd.C_drew ?_))); (case side2 => exact HC0.out); rintro e w15 ⟨rfl, hb⟩; refine ⟨_, rfl, ?_⟩; have n0_ := Aside0.mk (below_step (by repeat (first | (with_reducible first | exact HB.out | apply below_alloc | apply pw_below_drewN | apply below_drew1) | exact HB.out)) hb); clear HB; have HB := n0_; clear n0_; (try clear hb); (try clear hb2); (try clear hk); (try clear hi)) | (go_at_call 35; (with_reducible refine (sparse_Text.calls k _ _ l0 t106 _ ?side1 ?side2 A12.out).mono ?_); (case side1 => repeat (first | exact (Kd.C_below HR0.out HB.out) | (with_reducible refine Kd.C_alloc ?_ _) | (with_reducible refine Kd.C_drewN ?_ _) | (with_reducible refine Kd.C_drew ?_))); (case side2 => exact HC0.out); rintro e w16 ⟨rfl, hb⟩; have n0_ := Aside0.mk (below_step (by repeat (first | (with_reducible first | exact HB.out | apply below_alloc | apply pw_below_drewN | apply below_drew1) | exact HB.out)) hb); clear HB; have HB := n0_; clear n0_; (try clear hb); (try clear hb2); (try clear hk); (try clear hi)) | (go_at_call 36; (with_reducible refine (graftageref33_Text.calls k _ _ l0 t107 _ ?side1 ?side2 A13.out).mono ?_); (case side1 => repeat (first | exact (Kd.C_below HR0.out HB.out) | (with_reducible refine Kd.C_alloc ?_ _) | (with_reducible refine Kd.C_drewN ?_ _) | (with_reducible refine Kd.C_drew ?_))); (case side2 => exact HC0.out); rintro e w17 ⟨rfl, hb⟩; have n0_ := Aside0.mk (below_step (by repeat (first | (with_reducible first | exact HB.out | apply below_alloc | apply pw_below_drewN | apply below_drew1) | exact HB.out)) hb); clear HB; have HB := n0_; clear n0_; (try clear hb); (try clear hb2); (try clear hk); (try clear hi)))
        go_meet
        case rel => exact ⟨_, ((t106.toList != t107.toList)), (by first | rfl | (simp; done) | (simp [*]; done) | (simp [ne_nil_bool]; done) | (simp [*, ne_nil_bool]; done)), H', ⟨by first | omega | exact Nat.le_refl _⟩, ⟨by repeat (first | (with_reducible first | exact HB.out | apply below_alloc | apply pw_below_drewN | apply below_drew1) | exact HB.out)⟩⟩
    case rest =>
      clear HC6
      try clear p2
      try clear c3
      try clear c3b0
      try clear c3b1
      try clear c8
      try clear c9
      try clear c9b0
      try clear c9b1
      try clear c9b2
      obtain ⟨kq, x20_5, rfl, HA, HJ5, HB⟩ := hcut
      cases kq with
      | zero => exact absurd HA.out (by simp [graftagelaw33_SparseTells.j0])
      | succ kj5 =>
        have H := HA.out
        clear HA
        simp only [graftagelaw33_SparseTells.j0] at H
        by_cases c18 : x20_5 = true
        · subst c18
          have H1 : (some false) = some r := by rw [if_pos rfl] at H; exact H
          clear H
          have H := H1
          clear H1
          obtain rfl := Option.some.inj H
          go_wp2
          go_ret
          exact ⟨by first | rfl | (simp [errW_none, errW_some] <;> rfl) | (simp [*, errW_none, errW_some] <;> rfl) | (simp [ne_nil_bool]; done) | (simp [*, ne_nil_bool]; done), by repeat (first | (with_reducible first | exact HB.out | apply below_alloc | apply pw_below_drewN | apply below_drew1) | exact HB.out)⟩
        · replace c18 := Bool.eq_false_iff.mpr c18
          subst c18
          have H1 : ((graftageref33_Right.f kj5 l0).bind fun t108 => (if t108 = true then ((sparse_Includes.f kj5 l0 a1).bind fun t109 => ((graftageref33_In.f kj5 l0 a1).bind fun t110 => (if (t109 == t110) = true then ((graftagelaw33_lives.f kj5).bind fun t111 => (some t111)) else (some false)))) else ((graftagelaw33_lives.f kj5).bind fun t112 => (some t112)))) = some r := by rw [if_neg (show ¬ (false = true) by decide)] at H; exact H
          clear H
          have H := H1
          clear H1
          replace H := Option.bind_eq_some_iff.mp H
          obtain ⟨t108, A190, H⟩ := H
          replace H : (if t108 = true then ((sparse_Includes.f kj5 l0 a1).bind fun t109 => ((graftageref33_In.f kj5 l0 a1).bind fun t110 => (if (t109 == t110) = true then ((graftagelaw33_lives.f kj5).bind fun t111 => (some t111)) else (some false)))) else ((graftagelaw33_lives.f kj5).bind fun t112 => (some t112))) = some r := H
          have A19 := Aside0.mk A190
          clear A190
          by_cases c20 : t108 = true
          · subst c20
            have H1 : ((sparse_Includes.f kj5 l0 a1).bind fun t109 => ((graftageref33_In.f kj5 l0 a1).bind fun t110 => (if (t109 == t110) = true then ((graftagelaw33_lives.f kj5).bind fun t111 => (some t111)) else (some false)))) = some r := by rw [if_pos rfl] at H; exact H
            clear H
            have H := H1
            clear H1
            replace H := Option.bind_eq_some_iff.mp H
            obtain ⟨t109, A210, H⟩ := H
            replace H : ((graftageref33_In.f kj5 l0 a1).bind fun t110 => (if (t109 == t110) = true then ((graftagelaw33_lives.f kj5).bind fun t111 => (some t111)) else (some false))) = some r := H
            have A21 := Aside0.mk A210
            clear A210
            replace H := Option.bind_eq_some_iff.mp H
            obtain ⟨t110, A220, H⟩ := H
            replace H : (if (t109 == t110) = true then ((graftagelaw33_lives.f kj5).bind fun t111 => (some t111)) else (some false)) = some r := H
            have A22 := Aside0.mk A220
            clear A220
            by_cases c23 : (t109 == t110) = true
            · rw [if_pos c23] at H
              have c23b0 : (t109 == t110) = true := c23
              (try (have c23b1 : decide (t109 = t110) = true := by simpa using c23))
              (try (have c23b2 : (t109 == t110) = true := by simpa using c23))
              clear c23
              replace H := Option.bind_eq_some_iff.mp H
              obtain ⟨t111, A240, H⟩ := H
              replace H : (some t111) = some r := H
              have A24 := Aside0.mk A240
              clear A240
              obtain rfl := Option.some.inj H
              go_wp2_with (first | ((with_reducible refine gate_callee (f := 34) rfl ?_); refine goesL_ (some 22) rfl rfl Tryd.func34 (by kernel_rfl) rfl #[.slice A0 l0.length c0] rfl (by (try simp only [List.map_toArray, List.map_cons, List.map_nil]); first | done | rfl | (simp only [List.length_drop, List.length_take]; rfl)) ?_; (with_reducible refine (graftageref33_Right.calls kj5 _ _ l0 true _ ?side1 ?side2 A19.out).mono ?_); (case side1 => repeat (first | exact (Kd.C_below HR0.out HB.out) | (with_reducible refine Kd.C_alloc ?_ _) | (with_reducible refine Kd.C_drewN ?_ _) | (with_reducible refine Kd.C_drew ?_))); (case side2 => exact HC0.out); rintro e w25 ⟨rfl, hb⟩; refine ⟨_, rfl, ?_⟩; have n0_ := Aside0.mk (below_step (by repeat (first | (with_reducible first | exact HB.out | apply below_alloc | apply pw_below_drewN | apply below_drew1) | exact HB.out)) hb); clear HB; have HB := n0_; clear n0_; (try clear hb); (try clear hb2); (try clear hk); (try clear hi)) | (go_at_call 37; (with_reducible refine (sparse_Includes.calls kj5 _ _ l0 a1 t109 _ ?side1 ?side2 A21.out).mono ?_); (case side1 => repeat (first | exact (Kd.C_below HR0.out HB.out) | (with_reducible refine Kd.C_alloc ?_ _) | (with_reducible refine Kd.C_drewN ?_ _) | (with_reducible refine Kd.C_drew ?_))); (case side2 => exact HC0.out); rintro e w26 ⟨rfl, hb⟩; have n0_ := Aside0.mk (below_step (by repeat (first | (with_reducible first | exact HB.out | apply below_alloc | apply pw_below_drewN | apply below_drew1) | exact HB.out)) hb); clear HB; have HB := n0_; clear n0_; (try clear hb); (try clear hb2); (try clear hk); (try clear hi)) | (go_at_call 38; (with_reducible refine (graftageref33_In.calls kj5 _ _ l0 a1 t110 _ ?side1 ?side2 A22.out).mono ?_); (case side1 => repeat (first | exact (Kd.C_below HR0.out HB.out) | (with_reducible refine Kd.C_alloc ?_ _) | (with_reducible refine Kd.C_drewN ?_ _) | (with_reducible refine Kd.C_drew ?_))); (case side2 => exact HC0.out); rintro e w27 ⟨rfl, hb⟩; have n0_ := Aside0.mk (below_step (by repeat (first | (with_reducible first | exact HB.out | apply below_alloc | apply pw_below_drewN | apply below_drew1) | exact HB.out)) hb); clear HB; have HB := n0_; clear n0_; (try clear hb); (try clear hb2); (try clear hk); (try clear hi)) | (go_at_call 32; (with_reducible refine (graftagelaw33_lives.calls kj5  t111 _ A24.out).mono ?_); rintro e w28 ⟨rfl, hb⟩; have n0_ := Aside0.mk (below_step (by repeat (first | (with_reducible first | exact HB.out | apply below_alloc | apply pw_below_drewN | apply below_drew1) | exact HB.out)) hb); clear HB; have HB := n0_; clear n0_; (try clear hb); (try clear hb2); (try clear hk); (try clear hi)))
              go_ret
              exact ⟨by first | rfl | (simp [errW_none, errW_some] <;> rfl) | (simp [*, errW_none, errW_some] <;> rfl) | (simp [ne_nil_bool]; done) | (simp [*, ne_nil_bool]; done), by repeat (first | (with_reducible first | exact HB.out | apply below_alloc | apply pw_below_drewN | apply below_drew1) | exact HB.out)⟩
            · rw [if_neg c23] at H
              have c23b0 : (t109 == t110) = false := by simpa using c23
              (try (have c23b1 : decide (t109 = t110) = false := by simpa using c23))
              (try (have c23b2 : (t109 == t110) = false := by simpa using c23))
              (try (have c23b3 : ¬ (t109 = t110) := by simpa using c23))
              clear c23
              obtain rfl := Option.some.inj H
              go_wp2_with (first | ((with_reducible refine gate_callee (f := 34) rfl ?_); refine goesL_ (some 22) rfl rfl Tryd.func34 (by kernel_rfl) rfl #[.slice A0 l0.length c0] rfl (by (try simp only [List.map_toArray, List.map_cons, List.map_nil]); first | done | rfl | (simp only [List.length_drop, List.length_take]; rfl)) ?_; (with_reducible refine (graftageref33_Right.calls kj5 _ _ l0 true _ ?side1 ?side2 A19.out).mono ?_); (case side1 => repeat (first | exact (Kd.C_below HR0.out HB.out) | (with_reducible refine Kd.C_alloc ?_ _) | (with_reducible refine Kd.C_drewN ?_ _) | (with_reducible refine Kd.C_drew ?_))); (case side2 => exact HC0.out); rintro e w29 ⟨rfl, hb⟩; refine ⟨_, rfl, ?_⟩; have n0_ := Aside0.mk (below_step (by repeat (first | (with_reducible first | exact HB.out | apply below_alloc | apply pw_below_drewN | apply below_drew1) | exact HB.out)) hb); clear HB; have HB := n0_; clear n0_; (try clear hb); (try clear hb2); (try clear hk); (try clear hi)) | (go_at_call 37; (with_reducible refine (sparse_Includes.calls kj5 _ _ l0 a1 t109 _ ?side1 ?side2 A21.out).mono ?_); (case side1 => repeat (first | exact (Kd.C_below HR0.out HB.out) | (with_reducible refine Kd.C_alloc ?_ _) | (with_reducible refine Kd.C_drewN ?_ _) | (with_reducible refine Kd.C_drew ?_))); (case side2 => exact HC0.out); rintro e w30 ⟨rfl, hb⟩; have n0_ := Aside0.mk (below_step (by repeat (first | (with_reducible first | exact HB.out | apply below_alloc | apply pw_below_drewN | apply below_drew1) | exact HB.out)) hb); clear HB; have HB := n0_; clear n0_; (try clear hb); (try clear hb2); (try clear hk); (try clear hi)) | (go_at_call 38; (with_reducible refine (graftageref33_In.calls kj5 _ _ l0 a1 t110 _ ?side1 ?side2 A22.out).mono ?_); (case side1 => repeat (first | exact (Kd.C_below HR0.out HB.out) | (with_reducible refine Kd.C_alloc ?_ _) | (with_reducible refine Kd.C_drewN ?_ _) | (with_reducible refine Kd.C_drew ?_))); (case side2 => exact HC0.out); rintro e w31 ⟨rfl, hb⟩; have n0_ := Aside0.mk (below_step (by repeat (first | (with_reducible first | exact HB.out | apply below_alloc | apply pw_below_drewN | apply below_drew1) | exact HB.out)) hb); clear HB; have HB := n0_; clear n0_; (try clear hb); (try clear hb2); (try clear hk); (try clear hi)))
              go_ret
              exact ⟨by first | rfl | (simp [errW_none, errW_some] <;> rfl) | (simp [*, errW_none, errW_some] <;> rfl) | (simp [ne_nil_bool]; done) | (simp [*, ne_nil_bool]; done), by repeat (first | (with_reducible first | exact HB.out | apply below_alloc | apply pw_below_drewN | apply below_drew1) | exact HB.out)⟩
          · replace c20 := Bool.eq_false_iff.mpr c20
            subst c20
            have H1 : ((graftagelaw33_lives.f kj5).bind fun t112 => (some t112)) = some r := by rw [if_neg (show ¬ (false = true) by decide)] at H; exact H
            clear H
            have H := H1
            clear H1
            replace H := Option.bind_eq_some_iff.mp H
            obtain ⟨t112, A320, H⟩ := H
            replace H : (some t112) = some r := H
            have A32 := Aside0.mk A320
            clear A320
            obtain rfl := Option.some.inj H
            go_wp2_with (first | ((with_reducible refine gate_callee (f := 34) rfl ?_); refine goesL_ (some 22) rfl rfl Tryd.func34 (by kernel_rfl) rfl #[.slice A0 l0.length c0] rfl (by (try simp only [List.map_toArray, List.map_cons, List.map_nil]); first | done | rfl | (simp only [List.length_drop, List.length_take]; rfl)) ?_; (with_reducible refine (graftageref33_Right.calls kj5 _ _ l0 false _ ?side1 ?side2 A19.out).mono ?_); (case side1 => repeat (first | exact (Kd.C_below HR0.out HB.out) | (with_reducible refine Kd.C_alloc ?_ _) | (with_reducible refine Kd.C_drewN ?_ _) | (with_reducible refine Kd.C_drew ?_))); (case side2 => exact HC0.out); rintro e w33 ⟨rfl, hb⟩; refine ⟨_, rfl, ?_⟩; have n0_ := Aside0.mk (below_step (by repeat (first | (with_reducible first | exact HB.out | apply below_alloc | apply pw_below_drewN | apply below_drew1) | exact HB.out)) hb); clear HB; have HB := n0_; clear n0_; (try clear hb); (try clear hb2); (try clear hk); (try clear hi)) | (go_at_call 32; (with_reducible refine (graftagelaw33_lives.calls kj5  t112 _ A32.out).mono ?_); rintro e w34 ⟨rfl, hb⟩; have n0_ := Aside0.mk (below_step (by repeat (first | (with_reducible first | exact HB.out | apply below_alloc | apply pw_below_drewN | apply below_drew1) | exact HB.out)) hb); clear HB; have HB := n0_; clear n0_; (try clear hb); (try clear hb2); (try clear hk); (try clear hi)))
            go_ret
            exact ⟨by first | rfl | (simp [errW_none, errW_some] <;> rfl) | (simp [*, errW_none, errW_some] <;> rfl) | (simp [ne_nil_bool]; done) | (simp [*, ne_nil_bool]; done), by repeat (first | (with_reducible first | exact HB.out | apply below_alloc | apply pw_below_drewN | apply below_drew1) | exact HB.out)⟩

end Go.Proofs.YtfkkbcmbabfipaaDoor.Q

/- Cones: the program's test and the reference's agree; their texts; SparseTells. -/
namespace Go.Proofs.YtfkkbcmbabfipaaDoor.Q
open Go.RowKit Go.Proofs.YtfkkbcmbabfipaaDoorW.PrintWords Go.Proofs.YtfkkbcmbabfipaaDoorW.PrintLast Go.Proofs.YtfkkbcmbabfipaaDoorW.PrintMore

theorem pre_lt (c : List UInt8) (b : UInt8) (x : List UInt8) : c < c ++ b :: x := by
  induction c with
  | nil => exact List.nil_lt_cons b x
  | cons a r ih => exact List.cons_lt_cons_iff.2 (.inr ⟨rfl, ih⟩)
def okAt (l : List ByteArray) (j : Nat) : Prop := isPath (atB l j) = true ∧ (j = 0 ∨ (atB l (j - 1)).toList < (atB l j).toList)
theorem vF_all (l : List ByteArray) : ∀ (d i : Nat), vF l d i = true ↔ l.length ≤ 4096 ∧ ∀ j, i ≤ j → j < i + d → okAt l j ∧ (l.take j).any (fun c => withinB c (atB l j)) = false := by
  intro d
  induction d with
  | zero => intro i; simp only [vF, decide_eq_true_eq]; exact ⟨fun h => ⟨h, fun j h1 h2 => by omega⟩, fun h => h.1⟩
  | succ d ih =>
    intro i
    rw [vF, Bool.and_eq_true, Bool.and_eq_true, Bool.and_eq_true, ih, Bool.or_eq_true, decide_eq_true_eq, Go.Proofs.bytesLess_eq, decide_eq_true_eq, Bool.not_eq_true']
    constructor
    · rintro ⟨a, b, c, h, r⟩
      refine ⟨h, fun j h1 h2 => ?_⟩
      by_cases hj : j = i
      · rw [hj]; exact ⟨⟨a, b⟩, c⟩
      · exact r j (by omega) (by omega)
    · rintro ⟨h, r⟩
      obtain ⟨⟨a, b⟩, c⟩ := r i (Nat.le_refl _) (by omega)
      exact ⟨a, b, c, h, fun j h1 h2 => r j (by omega) (by omega)⟩
theorem rF_all (l : List ByteArray) : ∀ (d i : Nat), rF l d i = true ↔ l.length ≤ 4096 ∧ ∀ j, i ≤ j → j < i + d → okAt l j ∧ l.any (fun c => withinB c (atB l j)) = false := by
  intro d
  induction d with
  | zero => intro i; simp only [rF, decide_eq_true_eq]; exact ⟨fun h => ⟨h, fun j h1 h2 => by omega⟩, fun h => h.1⟩
  | succ d ih =>
    intro i
    rw [rF, Bool.and_eq_true, Bool.and_eq_true, Bool.and_eq_true, ih, Bool.or_eq_true, decide_eq_true_eq, Go.Proofs.bytesLess_eq, decide_eq_true_eq, Bool.not_eq_true']
    constructor
    · rintro ⟨a, b, c, h, r⟩
      refine ⟨h, fun j h1 h2 => ?_⟩
      by_cases hj : j = i
      · rw [hj]; exact ⟨⟨a, b⟩, c⟩
      · exact r j (by omega) (by omega)
    · rintro ⟨h, r⟩
      obtain ⟨⟨a, b⟩, c⟩ := r i (Nat.le_refl _) (by omega)
      exact ⟨a, b, c, h, fun j h1 h2 => r j (by omega) (by omega)⟩
theorem isPath_ne {s : ByteArray} (h : isPath s = true) : s.data.toList ≠ [] := isPath_iff' s h
theorem within_lt {a b : ByteArray} (ha : a.data.toList ≠ []) (h : withinB a b = true) : a.toList < b.toList := by
  have hsa := Lib.size_eq a
  have hsb := Lib.size_eq b
  unfold withinB at h
  rw [Lib.toList_data a, Lib.toList_data b, if_neg ha] at h
  simp only [Bool.and_eq_true, decide_eq_true_eq, beq_iff_eq] at h
  obtain ⟨h1, h2, h3⟩ := h
  rw [Lib.toList_data, Lib.extract_data, List.drop_zero, Nat.sub_zero, hsa] at h2
  rw [Lib.toList_data, Lib.toList_data]
  have hlt : a.data.toList.length < b.data.toList.length := by omega
  have e : b.data.toList = a.data.toList ++ b.data.toList[a.data.toList.length] :: b.data.toList.drop (a.data.toList.length + 1) := by
    conv => lhs; rw [← List.take_append_drop a.data.toList.length b.data.toList, List.drop_eq_getElem_cons hlt, h2]
  rw [e]
  exact pre_lt _ _ _
theorem atB_get (l : List ByteArray) (i : Nat) (h : i < l.length) : atB l i = l[i] := rd_ext l i h
theorem sorted_lt (l : List ByteArray) (h : ∀ j, j < l.length → okAt l j) : ∀ (n j : Nat), j + n + 1 < l.length → (atB l j).toList < (atB l (j + n + 1)).toList := by
  intro n
  induction n with
  | zero =>
    intro j hj
    rcases (h (j + 1) hj).2 with h0 | h0
    · omega
    · exact h0
  | succ n ih =>
    intro j hj
    have h1 := ih j (by omega)
    rcases (h (j + (n + 1) + 1) hj).2 with h0 | h0
    · omega
    · exact List.lt_trans h1 h0
theorem right_eq (l : List ByteArray) : vF l l.length 0 = rF l l.length 0 := by
  rw [Bool.eq_iff_iff, vF_all, rF_all]
  constructor
  · rintro ⟨h, r⟩
    refine ⟨h, fun j h1 h2 => ⟨(r j h1 h2).1, ?_⟩⟩
    rw [Bool.eq_false_iff]
    intro hany
    obtain ⟨c, hc, hw⟩ := List.any_eq_true.1 hany
    obtain ⟨m, hm, rfl⟩ := List.mem_iff_getElem.1 hc
    have hok : ∀ j, j < l.length → okAt l j := fun j hj => (r j (Nat.zero_le _) (by omega)).1
    have hlt := within_lt (isPath_ne (by rw [← atB_get l m hm]; exact (hok m hm).1)) hw
    rw [← atB_get l m hm] at hlt
    rcases Nat.lt_trichotomy m j with hmj | hmj | hmj
    · have hf := (r j h1 h2).2
      rw [Bool.eq_false_iff] at hf
      apply hf
      refine List.any_eq_true.2 ⟨l[m], ?_, hw⟩
      rw [List.mem_take_iff_getElem]
      exact ⟨m, by omega, rfl⟩
    · rw [hmj] at hlt
      exact List.lt_irrefl _ hlt
    · have hs := sorted_lt l hok (m - j - 1) j (by omega)
      rw [show j + (m - j - 1) + 1 = m by omega] at hs
      exact List.lt_irrefl _ (List.lt_trans hlt hs)
  · rintro ⟨h, r⟩
    refine ⟨h, fun j h1 h2 => ⟨(r j h1 h2).1, ?_⟩⟩
    have hf := (r j h1 h2).2
    rw [Bool.eq_false_iff] at hf ⊢
    intro hany
    obtain ⟨c, hc, hw⟩ := List.any_eq_true.1 hany
    exact hf (List.any_eq_true.2 ⟨c, List.mem_of_mem_take hc, hw⟩)
def rightB (l : List ByteArray) : Bool := rF l l.length 0
section
variable (l : List ByteArray) (hl : ∀ x ∈ l, x.size ≤ 4294967280) (hn : l.length ≤ 4294967280)
include hl hn
theorem Valid_ev : Ev (fun k => sparse_Valid.f k l) (rightB l) := by
  unfold rightB
  rw [← right_eq]
  exact_mod_cast Valid_l0 l hl hn l.length 0 (by omega)
theorem Right_ev : Ev (fun k => graftageref33_Right.f k l) (rightB l) := by
  exact_mod_cast Right_l0 l hl hn l.length 0 (by omega)
end
theorem right_all {l : List ByteArray} (h : rightB l = true) : l.length ≤ 4096 ∧ ∀ j, j < l.length → (atB l j).size ≤ 255 := by
  obtain ⟨h1, r⟩ := (rF_all l l.length 0).1 h
  exact ⟨h1, fun j hj => isPath_size (r j (Nat.zero_le _) (by omega)).1.1⟩
def tB (l : List ByteArray) : Nat → Nat → ByteArray → ByteArray
  | 0, _, acc => acc
  | d + 1, i, acc => tB l d (i + 1) (acc ++ (((⟨#[47]⟩ : ByteArray) ++ atB l i) ++ (⟨#[47, 10]⟩ : ByteArray)))
theorem tB_assoc (a b c d : ByteArray) : ((a ++ b) ++ c) ++ d = a ++ ((b ++ c) ++ d) := by
  apply ba_ext
  simp
section
variable (l : List ByteArray) (hn : l.length ≤ 4096) (h5 : ∀ j, j < l.length → (atB l j).size ≤ 255)
include hn h5
theorem Text_l0 : ∀ (d i : Nat) (acc : ByteArray), i + d = l.length → acc.size ≤ i * 258 → Ev (fun k => sparse_Text.l0 k l l.length i acc) (tB l d i acc) := by
  intro d
  induction d with
  | zero =>
    intro i acc hi ha
    exact Ev.step (f := fun _ => some acc) (fun k => by rw [sparse_Text.l0, if_neg (by omega)]; rfl) (Ev.now _)
  | succ d ih =>
    intro i acc hi ha
    have h := h5 i (by omega)
    have e0 : rdOf ByteArray.empty l (i : Int) = atB l i := rfl
    have s1 : ((⟨#[47]⟩ : ByteArray) ++ atB l i).size = 1 + (atB l i).size := by rw [ByteArray.size_append]; rfl
    have s2 : (((⟨#[47]⟩ : ByteArray) ++ atB l i) ++ (⟨#[47, 10]⟩ : ByteArray)).size = 3 + (atB l i).size := by rw [ByteArray.size_append, s1, show (⟨#[47, 10]⟩ : ByteArray).size = 2 from rfl]; omega
    have hw : Builder_WriteString.f acc (((⟨#[47]⟩ : ByteArray) ++ atB l i) ++ (⟨#[47, 10]⟩ : ByteArray)) = some (((((⟨#[47]⟩ : ByteArray) ++ atB l i) ++ (⟨#[47, 10]⟩ : ByteArray)).size : Int), none, acc ++ (((⟨#[47]⟩ : ByteArray) ++ atB l i) ++ (⟨#[47, 10]⟩ : ByteArray))) := by
      unfold Builder_WriteString.f
      rw [if_pos (by rw [s2]; omega)]
    refine Ev.step (f := fun k => sparse_Text.l0 k l l.length ((i : Int) + 1) (acc ++ (((⟨#[47]⟩ : ByteArray) ++ atB l i) ++ (⟨#[47, 10]⟩ : ByteArray)))) (fun k => ?_) ?_
    · rw [sparse_Text.l0, if_pos (by omega), if_pos (by omega), if_pos (by omega), e0, if_pos (by omega), if_pos (by rw [s1]; omega), hw, wrap_id (by omega) (by omega)]
      rfl
    · rw [tB]
      exact_mod_cast ih (i + 1) _ (by omega) (by rw [ByteArray.size_append, s2]; omega)
theorem ref_Text_l0 : ∀ (d i : Nat) (acc : ByteArray), i + d = l.length → acc.size ≤ i * 258 → Ev (fun k => graftageref33_Text.l0 k l acc i) (tB l d i acc) := by
  intro d
  induction d with
  | zero =>
    intro i acc hi ha
    exact Ev.step (f := fun _ => some acc) (fun k => by rw [graftageref33_Text.l0, if_neg (by omega)]) (Ev.now _)
  | succ d ih =>
    intro i acc hi ha
    have h := h5 i (by omega)
    have e0 : rdOf ByteArray.empty l (i : Int) = atB l i := rfl
    have s1 : (acc ++ (⟨#[47]⟩ : ByteArray)).size = acc.size + 1 := by rw [ByteArray.size_append]; rfl
    have s2 : ((acc ++ (⟨#[47]⟩ : ByteArray)) ++ atB l i).size = acc.size + 1 + (atB l i).size := by rw [ByteArray.size_append, s1]
    refine Ev.step (f := fun k => graftageref33_Text.l0 k l (((acc ++ (⟨#[47]⟩ : ByteArray)) ++ atB l i) ++ (⟨#[47, 10]⟩ : ByteArray)) ((i : Int) + 1)) (fun k => ?_) ?_
    · rw [graftageref33_Text.l0, if_pos (by omega), if_pos (by omega), if_pos (by omega), e0, if_pos (by rw [s1]; omega), if_pos (by rw [s2]; omega), wrap_id (by omega) (by omega)]
    · rw [tB, tB_assoc]
      exact_mod_cast ih (i + 1) _ (by omega) (by rw [← tB_assoc, ByteArray.size_append, s2, show (⟨#[47, 10]⟩ : ByteArray).size = 2 from rfl]; omega)
end
def textB (l : List ByteArray) : ByteArray := if rightB l = true then tB l l.length 0 ⟨#[]⟩ else ⟨#[]⟩
section
variable (l : List ByteArray) (hl : ∀ x ∈ l, x.size ≤ 4294967280) (hn : l.length ≤ 4294967280)
include hl hn
theorem Text_ev : Ev (fun k => sparse_Text.f k l) (textB l) := by
  refine Ev.bind (Valid_ev l hl hn) ?_
  unfold textB
  by_cases h : rightB l = true
  · simp only [if_pos h]
    obtain ⟨h1, h2⟩ := right_all h
    exact_mod_cast Text_l0 l h1 h2 l.length 0 ⟨#[]⟩ (by omega) (Nat.zero_le _)
  · simp only [if_neg h]
    exact Ev.now _
theorem ref_Text_ev : Ev (fun k => graftageref33_Text.f k l) (textB l) := by
  refine Ev.bind (Right_ev l hl hn) ?_
  unfold textB
  by_cases h : rightB l = true
  · simp only [if_pos h]
    obtain ⟨h1, h2⟩ := right_all h
    exact_mod_cast ref_Text_l0 l h1 h2 l.length 0 ⟨#[]⟩ (by omega) (Nat.zero_le _)
  · simp only [if_neg h]
    exact Ev.now _
theorem SparseTells_ev (p : ByteArray) (hp : p.size ≤ 4294967280) : Ev (fun k => graftagelaw33_SparseTells.f k l p) true := by
  unfold graftagelaw33_SparseTells.f
  refine ev_ite (fun _ => liveOr33) (fun _ => Ev.bind (Valid_ev l hl hn) (Ev.bind (Right_ev l hl hn) ?_))
  simp only [bne_self_eq_false, Bool.false_eq_true, if_false]
  refine Ev.bind (Text_ev l hl hn) (Ev.bind (ref_Text_ev l hl hn) ?_)
  simp only [bne_self_eq_false]
  refine Ev.step (fun k => by rw [graftagelaw33_SparseTells.j0, if_neg (by simp)]) (Ev.bind (Right_ev l hl hn) (ev_ite (fun _ => ?_) (fun _ => liveOr33)))
  refine Ev.bind (Includes_ev l p (fun x hx => by have := hl x hx; omega) (by omega) (by omega)) (Ev.bind (In_ev l p (fun x hx => by have := hl x hx; omega) (by omega) hp) ?_)
  simp only [beq_self_eq_true, if_true]
  exact liveOr33
end
theorem sum_mem (l : List ByteArray) {x : ByteArray} (h : x ∈ l) : x.size + 1 ≤ (l.map (fun y => y.size + 1)).sum := by
  induction l with
  | nil => simp at h
  | cons y r ih =>
    simp only [List.map_cons, List.sum_cons]
    rcases List.mem_cons.1 h with rfl | h
    · omega
    · have := ih h; omega
theorem sum_len (l : List ByteArray) : l.length ≤ (l.map (fun y => y.size + 1)).sum := by
  induction l with
  | nil => simp
  | cons y r ih => simp only [List.map_cons, List.sum_cons, List.length_cons]; omega
end Go.Proofs.YtfkkbcmbabfipaaDoor.Q

/- SparseMarks: which slots are at hand. (59: the type of an index entry in this seat's translation.) -/
namespace Go.Proofs.YtfkkbcmbabfipaaDoor.Q
open Go.RowKit Go.Proofs.YtfkkbcmbabfipaaDoorW.PrintWords Go.Proofs.YtfkkbcmbabfipaaDoorW.PrintLast Go.Proofs.YtfkkbcmbabfipaaDoorW.PrintMore

def markE (c : List ByteArray) (x : S59) : S59 := if x.f1 = 0 then ⟨x.f0, x.f1, x.f2, x.f3, !incB c x.f0, x.f5⟩ else x
theorem rd59_get (l : List S59) (i : Nat) (h : i < l.length) : rd_T59 l i = l[i] := by
  simp [rd_T59, List.getD, List.getElem?_eq_getElem h]
def curM (c : List ByteArray) (l : List S59) (i : Nat) : List S59 := (l.take i).map (markE c) ++ l.drop i
theorem curM_length (c : List ByteArray) (l : List S59) (i : Nat) : (curM c l i).length = l.length := by
  unfold curM; rw [List.length_append, List.length_map, List.length_take, List.length_drop]; omega
theorem curM_split (c : List ByteArray) (l : List S59) (i : Nat) (h : i < l.length) : curM c l i = (l.take i).map (markE c) ++ l[i] :: l.drop (i + 1) := by
  unfold curM; rw [List.drop_eq_getElem_cons h]
theorem curM_succ (c : List ByteArray) (l : List S59) (i : Nat) (h : i < l.length) : curM c l (i + 1) = (l.take i).map (markE c) ++ markE c l[i] :: l.drop (i + 1) := by
  unfold curM
  rw [List.take_succ_eq_append_getElem h, List.map_append, List.append_assoc]
  rfl
theorem curM_rd (c : List ByteArray) (l : List S59) (i : Nat) (h : i < l.length) : rd_T59 (curM c l i) i = l[i] := by
  rw [rd59_get _ _ (by rw [curM_length]; exact h)]
  have hl : ((l.take i).map (markE c)).length = i := by rw [List.length_map, List.length_take]; omega
  have : (curM c l i)[i]? = some l[i] := by
    rw [curM_split c l i h, List.getElem?_append_right (by omega), hl]; simp
  exact (List.getElem?_eq_some_iff.1 this).2
theorem curM_set (c : List ByteArray) (l : List S59) (i : Nat) (h : i < l.length) (y : S59) (hy : y = markE c l[i]) : (curM c l i).set i y = curM c l (i + 1) := by
  have hl : ((l.take i).map (markE c)).length = i := by rw [List.length_map, List.length_take]; omega
  rw [curM_split c l i h, curM_succ c l i h, List.set_append_right _ _ (by omega), hl, Nat.sub_self, hy]
  rfl
section
variable (c : List ByteArray) (hl : ∀ x ∈ c, x.size ≤ 4294967280) (hn : c.length ≤ 4294967280) (l : List S59) (hs : ∀ x ∈ l, x.f0.size ≤ 4294967280) (hm : l.length ≤ 4294967280)
include hl hn hs hm
theorem Mark_l0 : ∀ (d i : Nat), i + d = l.length → Ev (fun k => sparse_Mark.l0 k c (curM c l i) l.length i) (l.map (markE c)) := by
  intro d
  induction d with
  | zero =>
    intro i hi
    refine Ev.step (f := fun _ => some (curM c l i)) (fun k => by rw [sparse_Mark.l0, if_neg (by omega)]) ?_
    have : curM c l i = l.map (markE c) := by unfold curM; rw [List.take_of_length_le (by omega), List.drop_of_length_le (by omega), List.append_nil]
    rw [this]; exact Ev.now _
  | succ d ih =>
    intro i hi
    have hi' : i < l.length := by omega
    have hcl := curM_length c l i
    have hz := hs _ (List.getElem_mem hi')
    by_cases h : l[i].f1 = 0
    · refine Ev.step (f := fun k => (sparse_Includes.f k c l[i].f0).bind fun t => sparse_Mark.l0 k c ((curM c l i).set i (⟨l[i].f0, l[i].f1, l[i].f2, l[i].f3, !t, l[i].f5⟩ : S59)) l.length ((i : Int) + 1)) (fun k => by rw [sparse_Mark.l0, if_pos (by omega), if_pos (by omega), if_pos (by omega), curM_rd c l i hi', if_pos h, wrap_id (by omega) (by omega), Int.toNat_natCast]) ?_
      refine Ev.bind (Includes_ev c _ (fun x hx => by have := hl x hx; omega) (by omega) (by omega)) ?_
      rw [curM_set c l i hi' _ (by unfold markE; rw [if_pos h])]
      exact_mod_cast ih (i + 1) (by omega)
    · refine Ev.step (f := fun k => sparse_Mark.l0 k c (curM c l i) l.length ((i : Int) + 1)) (fun k => by rw [sparse_Mark.l0, if_pos (by omega), if_pos (by omega), if_pos (by omega), curM_rd c l i hi', if_neg h, wrap_id (by omega) (by omega)]) ?_
      have : curM c l i = curM c l (i + 1) := by
        rw [curM_split c l i hi', curM_succ c l i hi']
        unfold markE
        rw [if_neg h]
      rw [this]
      exact_mod_cast ih (i + 1) (by omega)
theorem Mark_ev : Ev (fun k => sparse_Mark.f k c l) (l.map (markE c)) := by
  have h0 : api_IndexEntry.f l = some l := by
    unfold api_IndexEntry.f
    simp only [Option.bind_some]
    rw [if_pos (by simp; omega)]; rfl
  unfold sparse_Mark.f
  rw [h0]
  simp only [Option.bind_some]
  have := Mark_l0 c hl hn l hs hm l.length 0 (by omega)
  simpa [curM] using this
theorem ref_Mark_l0 : ∀ (d i : Nat), i + d = l.length → Ev (fun k => graftageref33_Mark.l0 k c l ((l.take i).map (markE c)) i) (l.map (markE c)) := by
  intro d
  induction d with
  | zero =>
    intro i hi
    refine Ev.step (f := fun _ => some ((l.take i).map (markE c))) (fun k => by rw [graftageref33_Mark.l0, if_neg (by omega)]) ?_
    rw [List.take_of_length_le (by omega)]; exact Ev.now _
  | succ d ih =>
    intro i hi
    have hi' : i < l.length := by omega
    have hz := hs _ (List.getElem_mem hi')
    have hll : ((l.take i).map (markE c)).length = i := by rw [List.length_map, List.length_take]; omega
    have hnext : (l.take i).map (markE c) ++ [markE c l[i]] = (l.take (i + 1)).map (markE c) := by
      rw [List.take_succ_eq_append_getElem hi', List.map_append]; rfl
    by_cases h : l[i].f1 = 0
    · refine Ev.step (f := fun k => (graftageref33_In.f k c l[i].f0).bind fun t => if ((l.take i).map (markE c)).length < 2513169434916 then graftageref33_Mark.l0 k c l ((l.take i).map (markE c) ++ [(⟨l[i].f0, l[i].f1, l[i].f2, l[i].f3, !t, l[i].f5⟩ : S59)]) ((i : Int) + 1) else none) (fun k => by rw [graftageref33_Mark.l0, if_pos (by omega), if_pos (by omega), rd59_get l i hi', if_pos h, wrap_id (by omega) (by omega)]) ?_
      refine Ev.bind (In_ev c _ (fun x hx => by have := hl x hx; omega) (by omega) hz) ?_
      simp only [if_pos (show ((l.take i).map (markE c)).length < 2513169434916 by omega)]
      have e : (⟨l[i].f0, l[i].f1, l[i].f2, l[i].f3, !incB c l[i].f0, l[i].f5⟩ : S59) = markE c l[i] := by unfold markE; rw [if_pos h]
      rw [e, hnext]
      exact_mod_cast ih (i + 1) (by omega)
    · have e : (⟨l[i].f0, l[i].f1, l[i].f2, l[i].f3, l[i].f4, l[i].f5⟩ : S59) = markE c l[i] := by unfold markE; rw [if_neg h]
      refine Ev.step (f := fun k => graftageref33_Mark.l0 k c l ((l.take (i + 1)).map (markE c)) ((i : Int) + 1)) (fun k => by rw [graftageref33_Mark.l0, if_pos (by omega), if_pos (by omega), rd59_get l i hi', if_neg h, if_pos (by omega), wrap_id (by omega) (by omega), e, hnext]) ?_
      exact_mod_cast ih (i + 1) (by omega)
end
theorem Slots_l0 (l : List S59) (hm : l.length ≤ 4294967280) : ∀ (d k i : Nat), i + d = l.length → d < k → graftageref33_Slots.l0 k l l i = some true := by
  intro d
  induction d with
  | zero =>
    intro k i hi hk
    obtain ⟨k, rfl⟩ : ∃ m, k = m + 1 := ⟨k - 1, by omega⟩
    simp only [graftageref33_Slots.l0]
    rw [if_neg (by omega)]
  | succ d ih =>
    intro k i hi hk
    obtain ⟨k, rfl⟩ : ∃ m, k = m + 1 := ⟨k - 1, by omega⟩
    have := ih k (i + 1) (by omega) (by omega)
    simp only [graftageref33_Slots.l0]
    rw [if_pos (by omega), if_pos (by omega), if_pos (by omega), if_neg (by simp), wrap_id (by omega) (by omega)]
    exact_mod_cast this
theorem Slots_ev (l : List S59) (hm : l.length ≤ 4294967280) : Ev (fun k => graftageref33_Slots.f k l l) true := by
  refine Ev.of (fun k => graftageref33_Slots.mono l l k) (k := l.length + 1) ?_
  unfold graftageref33_Slots.f
  rw [if_pos rfl]
  exact Slots_l0 l hm l.length _ 0 (by omega) (by omega)
theorem SparseMarks_ev (c : List ByteArray) (hl : ∀ x ∈ c, x.size ≤ 4294967280) (hn : c.length ≤ 4294967280) (l : List S59) (hs : ∀ x ∈ l, x.f0.size ≤ 4294967280) (hm : l.length ≤ 4294967280) : Ev (fun k => graftagelaw33_SparseMarks.f k c l) true := by
  have live : Ev (fun k => graftagelaw33_SparseMarks.j0 k c l true) true := Ev.step (f := fun k => (graftagelaw33_lives.f k).bind fun t => some t) (fun k => by rw [graftagelaw33_SparseMarks.j0, if_pos rfl]) liveOr33
  unfold graftagelaw33_SparseMarks.f
  refine ev_ite (fun _ => live) (fun _ => ev_ite (fun _ => live) (fun _ => Ev.bind (Right_ev c hl hn) ?_))
  cases rightB c with
  | false => exact live
  | true =>
    have hr : Ev (fun k => graftageref33_Mark.f k c l) (l.map (markE c)) := by
      have := ref_Mark_l0 c hl hn l hs hm l.length 0 (by omega)
      unfold graftageref33_Mark.f
      simpa using this
    refine Ev.step (fun k => by rw [graftagelaw33_SparseMarks.j0, if_neg (by simp)]) (Ev.bind (Mark_ev c hl hn l hs hm) (Ev.bind hr (Ev.bind (Slots_ev (l.map (markE c)) (by rw [List.length_map]; exact hm)) ?_)))
    simp only [if_true]
    exact liveOr33
end Go.Proofs.YtfkkbcmbabfipaaDoor.Q

/- SparseMarks, over plain lists and numbers. -/
namespace Go.Proofs.YtfkkbcmbabfipaaDoor.Pure
open Go.Proofs.YtfkkbcmbabfipaaDoor.Q Go.Proofs.YtfkkbcmbabfipaaDoorW.PrintWords

theorem sum_memE {α : Type} (f : α → Nat) (l : List α) {x : α} (h : x ∈ l) : f x ≤ (l.map f).sum := by
  induction l with
  | nil => simp at h
  | cons y r ih =>
    simp only [List.map_cons, List.sum_cons]
    rcases List.mem_cons.1 h with rfl | h
    · omega
    · have := ih h; omega
theorem sum_lenE {α : Type} (f : α → Nat) (hf : ∀ x, 1 ≤ f x) (l : List α) : l.length ≤ (l.map f).sum := by
  induction l with
  | nil => simp
  | cons y r ih => have := hf y; simp only [List.map_cons, List.sum_cons, List.length_cons]; omega
theorem SparseMarks : ∀ (y0 : List (ByteArray)), ∀ (y1 : List (S59)), (∀ y_y0 ∈ y0, True) → (∀ y_y1 ∈ y1, (True ∧ (Lit.int .i64 y_y1.f1).wf = true ∧ (Lit.int .i64 y_y1.f2).wf = true ∧ True ∧ True ∧ True)) → ((y0.map (fun y_y0 => (y_y0.size + 1))).sum + 1) + ((y1.map (fun y_y1 => (((y_y1.f0.size + 1) + (1 + (1 + ((y_y1.f3.size + 1) + (1 + 1))))) + 1))).sum + 1) ≤ 1048576 → ∃ k, graftagelaw33_SparseMarks.f k y0 y1 = some true := by
  intro y0 y1 _ _ h
  refine (SparseMarks_ev y0 (fun x hx => ?_) ?_ y1 (fun x hx => ?_) ?_).rounds
  · have := sum_mem y0 hx; omega
  · have := sum_len y0; omega
  · have := sum_memE (fun y_y1 : S59 => (((y_y1.f0.size + 1) + (1 + (1 + ((y_y1.f3.size + 1) + (1 + 1))))) + 1)) y1 hx
    omega
  · have := sum_lenE (fun y_y1 : S59 => (((y_y1.f0.size + 1) + (1 + (1 + ((y_y1.f3.size + 1) + (1 + 1))))) + 1)) (fun x => by omega) y1
    omega

end Go.Proofs.YtfkkbcmbabfipaaDoor.Pure

/- What a law's argument reads as (numbers, bools, strings, structs, slices, nested) opens into the printed kinds, with the reach's bounds; for the rows of this seat. -/
namespace Go.Proofs.YtfkkbcmbabfipaaDoor.Ro
open Go.RowKit Go.Deep Go.Proofs.YtfkkbcmbabfipaaDoorW.PrintWords

/-- What a reading of type t by the form tells in the words of kind d; S: the bounds. -/
def Opens (P : Program) (t : TypeId) {α : Type} (d : Kd α) (S : α → Prop) : Prop :=
  ∀ {H : Type} (enc : TypeId × Value → H) (w : World) (fuel : Nat) (cs : List Value) (x : DataW H × List MemPlace),
    DataW.trod enc P w 0 (fun _ => true) true fuel t cs = some x → (∀ n ∈ DataW.weights P t x.1, n ≤ reachBytes) → ∃ y : α, d.K w y cs ∧ S y

section
variable {P : Program} {t e : TypeId}

theorem Opens.int {k : IntKind} (ht : P.underlying t = some (.int k)) : Opens P t (Kd.int k) (fun y => (Lit.int k y).wf = true) := by
  intro H enc w fuel cs x h _
  obtain ⟨n, rfl, rfl, hw⟩ := DataW.trod_int ht h
  exact ⟨n, rfl, hw⟩

theorem Opens.bool (ht : P.underlying t = some .bool) : Opens P t Kd.bool (fun _ => True) := by
  intro H enc w fuel cs x h _
  obtain ⟨b, rfl, rfl⟩ := DataW.trod_bool ht h
  exact ⟨b, rfl, trivial⟩

theorem Opens.string (ht : P.underlying t = some .string) : Opens P t Kd.string (fun y => y.size ≤ 140737488351232) := by
  intro H enc w fuel cs x h hn
  obtain ⟨s, rfl, rfl, _⟩ := DataW.trod_string ht h
  refine ⟨s, rfl, ?_⟩
  have := hn s.data.toList.length (by simp [DataW.weights])
  simpa [reachBytes] using this

theorem choose_list {α : Type} {n : Nat} {p : Nat → α → Prop} (h : ∀ i, i < n → ∃ y, p i y) : ∃ l : List α, l.length = n ∧ ∀ i y, l[i]? = some y → p i y := by
  induction n with
  | zero => exact ⟨[], rfl, fun i y hy => by simp at hy⟩
  | succ n ih =>
    obtain ⟨l, hl, hp⟩ := ih (fun i hi => h i (by omega))
    obtain ⟨y, hy⟩ := h n (by omega)
    refine ⟨l ++ [y], by simp [hl], fun i z hz => ?_⟩
    rcases Nat.lt_or_ge i l.length with hi | hi
    · rw [List.getElem?_append_left hi] at hz
      exact hp i z hz
    · rw [List.getElem?_append_right hi] at hz
      have : i - l.length = 0 := by
        have := (List.getElem?_eq_some_iff.1 hz).1
        simpa using this
      rw [this] at hz
      have h1 : i = n := by omega
      subst h1
      have : y = z := by simpa using hz
      subst this
      exact hy

theorem weightsAll_mem {H : Type} {e : TypeId} : ∀ {l : List (DataW H)} {d : DataW H}, d ∈ l → ∀ n ∈ d.weights P e, n ∈ DataW.weightsAll P e l
  | a :: l, d, hd, n, hn => by
    simp only [DataW.weightsAll, List.mem_append]
    rcases List.mem_cons.1 hd with rfl | hd
    · exact .inl hn
    · exact .inr (weightsAll_mem hd n hn)

theorem Opens.slice {α : Type} {d : Kd α} {S : α → Prop} {b : Nat} (ht : P.underlying t = some (.slice e)) (hc : P.cellsOf e = d.sz) (hb : P.bytesOf e = b) (h : Opens P e d S) :
    Opens P t (Kd.slice e d) (fun l => l.length * b ≤ 140737488351232 ∧ ∀ y ∈ l, S y) := by
  intro H enc w fuel cs x hx hn
  rcases open_slice ht hx with ⟨rfl, rfl⟩ | ⟨a, len, cap, m, n, D, Pl, rfl, _, hl, hm, hmm, rfl, hall⟩
  · exact ⟨[], ⟨none, 0, rfl, Nat.le_refl _, rfl, by simp, fun h => absurd h (by simp)⟩, by simp, by simp⟩
  · simp only [if_true] at hmm
    obtain rfl : m = cap := hmm
    have hel : ∀ i, i < len → ∃ y : α, (∃ cs', w.cells? 0 (a.add (i * P.cellsOf e)) (P.cellsOf e) = some cs' ∧ d.K w y cs') ∧ S y := by
      intro i hi
      obtain ⟨cs', h1, h2⟩ := hall i (by omega)
      obtain ⟨y, hy, hs⟩ := h enc w n cs' _ h2 (fun k hk => hn k (by
        simp only [DataW.weights, ht, List.mem_cons, List.mem_append]
        exact .inr (.inl (weightsAll_mem (List.mem_map.2 ⟨i, List.mem_range.2 hi, rfl⟩) k hk))))
      exact ⟨y, ⟨cs', h1, hy⟩, hs⟩
    obtain ⟨l, hll, hp⟩ := choose_list hel
    subst hll
    have hw : (l.length + (m - l.length)) * b ≤ reachBytes := by
      have := hn _ (by simp only [DataW.weights, ht, List.mem_cons]; exact .inl rfl)
      simpa [hb] using this
    refine ⟨l, ⟨some a, m, rfl, hl, rfl, by unfold maxLen at hm; omega, fun _ => ⟨a, rfl, fun j p hj => ?_⟩⟩, ?_, fun y hy => ?_⟩
    · obtain ⟨⟨cs', h1, hk⟩, _⟩ := hp j p hj
      obtain ⟨_, hlen, hcell⟩ := World.cells?_some h1
      refine ⟨cs', by rw [hlen, hc], hk, fun i u hu => ?_⟩
      have hi : i < P.cellsOf e := by
        have := (List.getElem?_eq_some_iff.1 hu).1
        omega
      have := hcell i hi
      rw [Go.Deep.add_add, hu, hc] at this
      exact this
    · have : l.length * b ≤ (l.length + (m - l.length)) * b := Nat.mul_le_mul_right _ (by omega)
      simp only [reachBytes] at hw
      omega
    · obtain ⟨j, hj⟩ := List.mem_iff_getElem?.1 hy
      exact (hp j y hj).2

/-- The fields from one on, in line. -/
def OpensF (P : Program) (fs : List Field) (o : Nat) {α : Type} (d : Kd α) (S : α → Prop) : Prop :=
  ∀ {H : Type} (enc : TypeId × Value → H) (w : World) (n : Nat) (cs : List Value) (ys : List (DataW H × List MemPlace)),
    (∀ (i : Nat) (f : Field), fs[i]? = some f → DataW.trod enc P w 0 (fun _ => true) true n f.type ((cs.drop f.offset).take (P.cellsOf f.type)) = ys[i]?) → ys.length = fs.length →
    (∀ k ∈ DataW.weightsEach P (fs.map (·.type)) (ys.map (·.1)), k ≤ reachBytes) → cs.length = o + d.sz → ∃ y : α, d.K w y (cs.drop o) ∧ S y

theorem OpensF.one {α : Type} {f : Field} {o : Nat} {d : Kd α} {S : α → Prop} (ho : f.offset = o) (hc : P.cellsOf f.type = d.sz) (h : Opens P f.type d S) : OpensF P [f] o d S := by
  intro H enc w n cs ys hf hl hw hlen
  match ys, hl with
  | [y], _ =>
    have h1 := hf 0 f rfl
    rw [ho, hc, List.take_of_length_le (by rw [List.length_drop]; omega)] at h1
    exact h enc w n _ y h1 (fun k hk => hw k (by simp [DataW.weightsEach, hk]))

theorem OpensF.cons {α β : Type} {f : Field} {fs : List Field} {o o' : Nat} {d : Kd α} {d' : Kd β} {S : α → Prop} {S' : β → Prop} (ho : f.offset = o) (hc : P.cellsOf f.type = d.sz) (ho' : o + d.sz = o')
    (h : Opens P f.type d S) (h' : OpensF P fs o' d' S') : OpensF P (f :: fs) o (Kd.pair d d') (fun z => S z.1 ∧ S' z.2) := by
  intro H enc w n cs ys hf hl hw hlen
  match ys, hl with
  | y :: ys, hl =>
    have h1 := hf 0 f rfl
    rw [ho, hc] at h1
    have hlen' : cs.length = o + (d.sz + d'.sz) := hlen
    obtain ⟨a, ha, hs⟩ := h enc w n _ y h1 (fun k hk => hw k (by simp only [List.map_cons, DataW.weightsEach, List.mem_append]; exact .inl hk))
    obtain ⟨b, hb, hs'⟩ := h' enc w n cs ys (fun i g hg => hf (i + 1) g (by simpa using hg)) (by simpa using hl) (fun k hk => hw k (by simp only [List.map_cons, DataW.weightsEach, List.mem_append]; exact .inr hk)) (by omega)
    refine ⟨(a, b), ⟨_, _, ?_, ha, hb⟩, hs, hs'⟩
    rw [← ho', ← List.drop_drop, List.take_append_drop]

theorem Opens.struct {α β : Type} {fs : Array Field} {d : Kd α} {S : α → Prop} {f : β → α} {g : α → β} (ht : P.underlying t = some (.struct fs)) (hc : P.cellsOf t = d.sz) (hfg : ∀ a, f (g a) = a) (h : OpensF P fs.toList 0 d S) :
    Opens P t (Kd.iso d f) (fun y => S (f y)) := by
  intro H enc w fuel cs x hx hn
  obtain ⟨xs, n, _, rfl, hl, hlen, hf⟩ := DataW.trod_struct ht hx
  obtain ⟨a, ha, hs⟩ := h enc w n cs xs (fun i q hq => hf i q (by simpa using hq)) (by simpa using hlen) (fun k hk => hn k (by simpa [DataW.weights, ht] using hk)) (by rw [hl, hc]; omega)
  refine ⟨g a, ?_, by show S (f (g a)); rw [hfg]; exact hs⟩
  show d.K w (f (g a)) cs
  rw [hfg]
  simpa using ha

theorem Opens.imp {α : Type} {d : Kd α} {S S' : α → Prop} (h : Opens P t d S) (hS : ∀ y, S y → S' y) : Opens P t d S' := by
  intro H enc w fuel cs x hx hn
  obtain ⟨y, hy, hs⟩ := h enc w fuel cs x hx hn
  exact ⟨y, hy, hS y hs⟩

/-- An argument: its cells, told. -/
theorem Opens.arg {H : Type} {enc : TypeId × Value → H} {α : Type} {d : Kd α} {S : α → Prop} {w : World} {ts : List TypeId} {ds : List (DataW H)} {j : Nat} {v : Value} {dd : DataW H} {ps : List MemPlace} (h : Opens P t d S)
    (hz : (DataW.weightsEach P ts ds).all (· ≤ reachBytes) = true) (ht : ts[j]? = some t) (hd : ds[j]? = some dd) (hv : DataW.Trod enc P w 0 (fun _ => true) true t v dd ps) : ∃ y : α, d.K w y v.cells.toList ∧ S y := by
  obtain ⟨fuel, hf⟩ := hv
  exact h enc w fuel _ (dd, ps) hf (fun n hn => by simpa using List.all_eq_true.1 hz n (DataW.weights_mem_each ht hd n hn))

theorem arg_lt {H : Type} {enc : TypeId × Value → H} {w : World} {v : Value} {dd : DataW H} {ps : List MemPlace} (hv : DataW.Trod enc P w 0 (fun _ => true) true t v dd ps) : ∀ x ∈ ps, x.block < w.heap.size := by
  obtain ⟨m, hm⟩ := hv
  exact DataW.trod_lt m _ _ _ hm
end
end Go.Proofs.YtfkkbcmbabfipaaDoor.Ro

/- What a law's argument reads as opens into the printed kinds, its bulk bounding what it holds: for the rows of the second form. -/
namespace Go.Proofs.YtfkkbcmbabfipaaDoor.Ro
open Go.RowKit Go.Deep Go.Proofs.YtfkkbcmbabfipaaDoorW.PrintWords

/-- What a reading of type t tells in the words of kind d; S: what holds of it; m: its bulk at the least. -/
def OpensU (P : Program) (t : TypeId) {α : Type} (d : Kd α) (S : α → Prop) (m : α → Nat) : Prop :=
  ∀ {H : Type} (enc : TypeId × Value → H) (w : World) (fuel : Nat) (cs : List Value) (x : DataW H × List MemPlace),
    DataW.trod enc P w 0 (fun _ => true) true fuel t cs = some x → ∃ y : α, d.K w y cs ∧ S y ∧ m y ≤ Rows.uptoBulk x.1
theorem bulk_one {H : Type} (d : DataW H) : 1 ≤ Rows.uptoBulk d := by
  cases d with
  | lit l => cases l <;> simp [Rows.uptoBulk]
  | nil => simp [Rows.uptoBulk]
  | ptr d => simp [Rows.uptoBulk]
  | slice elems spare => simp [Rows.uptoBulk]
  | agg parts => simp [Rows.uptoBulk]
  | iface t d => simp [Rows.uptoBulk]
  | map entries => simp [Rows.uptoBulk]
  | held h => simp [Rows.uptoBulk]
theorem bulk_append {H : Type} (l r : List (DataW H)) : Rows.uptoBulkAll (l ++ r) = Rows.uptoBulkAll l + Rows.uptoBulkAll r := by
  induction l with
  | nil => simp [Rows.uptoBulkAll]
  | cons x l ih => simp only [List.cons_append, Rows.uptoBulkAll, ih]; omega
theorem bulk_range {H : Type} {α : Type} (m : α → Nat) (D : Nat → DataW H) : ∀ (n : Nat) (l : List α), l.length = n → (∀ i y, l[i]? = some y → m y ≤ Rows.uptoBulk (D i)) → (l.map m).sum ≤ Rows.uptoBulkAll ((List.range n).map D) := by
  intro n
  induction n with
  | zero =>
    intro l hl _
    have : l = [] := List.eq_nil_of_length_eq_zero hl
    subst this
    simp
  | succ n ih =>
    intro l hl h
    have hne : l ≠ [] := by intro e; rw [e] at hl; simp at hl
    obtain ⟨r, y, rfl⟩ : ∃ r y, l = r ++ [y] := ⟨l.dropLast, l.getLast hne, (List.dropLast_concat_getLast hne).symm⟩
    have hr : r.length = n := by simpa using hl
    have h1 := ih r hr (fun i z hz => h i z (by rw [List.getElem?_append_left (List.getElem?_eq_some_iff.1 hz).1]; exact hz))
    have h2 := h n y (by rw [List.getElem?_append_right (by omega), hr]; simp)
    rw [List.range_succ]
    simp only [List.map_append, bulk_append, List.sum_append, List.map_cons, List.map_nil, Rows.uptoBulkAll, List.sum_cons, List.sum_nil]
    omega
section
variable {P : Program} {t e : TypeId}
theorem OpensU.int {k : IntKind} (ht : P.underlying t = some (.int k)) : OpensU P t (Kd.int k) (fun y => (Lit.int k y).wf = true) (fun _ => 1) := by
  intro H enc w fuel cs x h
  obtain ⟨n, rfl, rfl, hw⟩ := DataW.trod_int ht h
  exact ⟨n, rfl, hw, bulk_one _⟩
theorem OpensU.bool (ht : P.underlying t = some .bool) : OpensU P t Kd.bool (fun _ => True) (fun _ => 1) := by
  intro H enc w fuel cs x h
  obtain ⟨b, rfl, rfl⟩ := DataW.trod_bool ht h
  exact ⟨b, rfl, trivial, bulk_one _⟩
theorem OpensU.string (ht : P.underlying t = some .string) : OpensU P t Kd.string (fun _ => True) (fun y => y.size + 1) := by
  intro H enc w fuel cs x h
  obtain ⟨s, rfl, rfl, _⟩ := DataW.trod_string ht h
  exact ⟨s, rfl, trivial, by simp [Rows.uptoBulk]⟩
theorem OpensU.slice {α : Type} {d : Kd α} {S : α → Prop} {m : α → Nat} (ht : P.underlying t = some (.slice e)) (hc : P.cellsOf e = d.sz) (h : OpensU P e d S m) :
    OpensU P t (Kd.slice e d) (fun l => ∀ y ∈ l, S y) (fun l => (l.map m).sum + 1) := by
  intro H enc w fuel cs x hx
  rcases open_slice ht hx with ⟨rfl, rfl⟩ | ⟨a, len, cap, mm, n, D, Pl, rfl, _, hl, hm, hmm, rfl, hall⟩
  · exact ⟨[], ⟨none, 0, rfl, Nat.le_refl _, rfl, by simp, fun h => absurd h (by simp)⟩, by simp, bulk_one _⟩
  · simp only [if_true] at hmm
    obtain rfl : mm = cap := hmm
    have hel : ∀ i, i < len → ∃ y : α, (∃ cs', w.cells? 0 (a.add (i * P.cellsOf e)) (P.cellsOf e) = some cs' ∧ d.K w y cs') ∧ S y ∧ m y ≤ Rows.uptoBulk (D i) := by
      intro i hi
      obtain ⟨cs', h1, h2⟩ := hall i (by omega)
      obtain ⟨y, hy, hs, hb⟩ := h enc w n cs' _ h2
      exact ⟨y, ⟨cs', h1, hy⟩, hs, hb⟩
    obtain ⟨l, hll, hp⟩ := choose_list hel
    subst hll
    refine ⟨l, ⟨some a, mm, rfl, hl, rfl, by unfold maxLen at hm; omega, fun _ => ⟨a, rfl, fun j p hj => ?_⟩⟩, fun y hy => ?_, ?_⟩
    · obtain ⟨⟨cs', h1, hk⟩, _⟩ := hp j p hj
      obtain ⟨_, hlen, hcell⟩ := World.cells?_some h1
      refine ⟨cs', by rw [hlen, hc], hk, fun i u hu => ?_⟩
      have hi : i < P.cellsOf e := by
        have := (List.getElem?_eq_some_iff.1 hu).1
        omega
      have := hcell i hi
      rw [Go.Deep.add_add, hu, hc] at this
      exact this
    · obtain ⟨j, hj⟩ := List.mem_iff_getElem?.1 hy
      exact (hp j y hj).2.1
    · have := bulk_range m D l.length l rfl (fun i y hy => (hp i y hy).2.2)
      simp only [Rows.uptoBulk]
      omega
/-- The fields from one on, in line. -/
def OpensUF (P : Program) (fs : List Field) (o : Nat) {α : Type} (d : Kd α) (S : α → Prop) (m : α → Nat) : Prop :=
  ∀ {H : Type} (enc : TypeId × Value → H) (w : World) (n : Nat) (cs : List Value) (ys : List (DataW H × List MemPlace)),
    (∀ (i : Nat) (f : Field), fs[i]? = some f → DataW.trod enc P w 0 (fun _ => true) true n f.type ((cs.drop f.offset).take (P.cellsOf f.type)) = ys[i]?) → ys.length = fs.length →
    cs.length = o + d.sz → ∃ y : α, d.K w y (cs.drop o) ∧ S y ∧ m y ≤ Rows.uptoBulkAll (ys.map (·.1))
theorem OpensUF.one {α : Type} {f : Field} {o : Nat} {d : Kd α} {S : α → Prop} {m : α → Nat} (ho : f.offset = o) (hc : P.cellsOf f.type = d.sz) (h : OpensU P f.type d S m) : OpensUF P [f] o d S m := by
  intro H enc w n cs ys hf hl hlen
  match ys, hl with
  | [y], _ =>
    have h1 := hf 0 f rfl
    rw [ho, hc, List.take_of_length_le (by rw [List.length_drop]; omega)] at h1
    obtain ⟨z, hz, hs, hb⟩ := h enc w n _ y h1
    exact ⟨z, hz, hs, by simp only [List.map_cons, List.map_nil, Rows.uptoBulkAll]; omega⟩
theorem OpensUF.cons {α β : Type} {f : Field} {fs : List Field} {o o' : Nat} {d : Kd α} {d' : Kd β} {S : α → Prop} {S' : β → Prop} {m : α → Nat} {m' : β → Nat} (ho : f.offset = o) (hc : P.cellsOf f.type = d.sz) (ho' : o + d.sz = o')
    (h : OpensU P f.type d S m) (h' : OpensUF P fs o' d' S' m') : OpensUF P (f :: fs) o (Kd.pair d d') (fun z => S z.1 ∧ S' z.2) (fun z => m z.1 + m' z.2) := by
  intro H enc w n cs ys hf hl hlen
  match ys, hl with
  | y :: ys, hl =>
    have h1 := hf 0 f rfl
    rw [ho, hc] at h1
    have hlen' : cs.length = o + (d.sz + d'.sz) := hlen
    obtain ⟨a, ha, hs, hb⟩ := h enc w n _ y h1
    obtain ⟨b, hb', hs', hbb⟩ := h' enc w n cs ys (fun i g hg => hf (i + 1) g (by simpa using hg)) (by simpa using hl) (by omega)
    refine ⟨(a, b), ⟨_, _, ?_, ha, hb'⟩, ⟨hs, hs'⟩, by simp only [List.map_cons, Rows.uptoBulkAll]; omega⟩
    rw [← ho', ← List.drop_drop, List.take_append_drop]
theorem OpensU.struct {α β : Type} {fs : Array Field} {d : Kd α} {S : α → Prop} {m : α → Nat} {f : β → α} {g : α → β} (ht : P.underlying t = some (.struct fs)) (hc : P.cellsOf t = d.sz) (hfg : ∀ a, f (g a) = a) (h : OpensUF P fs.toList 0 d S m) :
    OpensU P t (Kd.iso d f) (fun y => S (f y)) (fun y => m (f y) + 1) := by
  intro H enc w fuel cs x hx
  obtain ⟨xs, n, _, rfl, hl, hlen, hf⟩ := DataW.trod_struct ht hx
  obtain ⟨a, ha, hs, hb⟩ := h enc w n cs xs (fun i q hq => hf i q (by simpa using hq)) (by simpa using hlen) (by rw [hl, hc]; omega)
  refine ⟨g a, ?_, by show S (f (g a)); rw [hfg]; exact hs, ?_⟩
  · show d.K w (f (g a)) cs
    rw [hfg]
    simpa using ha
  · show m (f (g a)) + 1 ≤ _
    rw [hfg]
    simp only [Rows.uptoBulk]
    omega
/-- An argument: its cells, told. -/
theorem OpensU.arg {H : Type} {enc : TypeId × Value → H} {α : Type} {d : Kd α} {S : α → Prop} {m : α → Nat} {w : World} {v : Value} {dd : DataW H} {ps : List MemPlace} (h : OpensU P t d S m)
    (hv : DataW.Trod enc P w 0 (fun _ => true) true t v dd ps) : ∃ y : α, d.K w y v.cells.toList ∧ S y ∧ m y ≤ Rows.uptoBulk dd := by
  obtain ⟨fuel, hf⟩ := hv
  exact h enc w fuel _ (dd, ps) hf
end
end Go.Proofs.YtfkkbcmbabfipaaDoor.Ro

/- The law SparseMarks holds: for every input it returns true, and each argument reads afterwards as it read before. -/
namespace Go.Proofs.YtfkkbcmbabfipaaDoor.sparseMarks
open Go.ChangeShapes Go.WideShapes Go.ChangeAt Go.RowKit Go.Proofs.YtfkkbcmbabfipaaDoor.Ro Go.Proofs.YtfkkbcmbabfipaaDoor.Q Go.Proofs.YtfkkbcmbabfipaaDoorW.PrintWords
open Go.ChangeMaps (open_string shut_string)
theorem own : ownKnob Tryd.prog.godebug = none := by kernel_rfl
theorem laidOut : laidOutB Tryd.prog = true := by kernel_rfl
theorem opens22 : OpensU Tryd.prog 22 (Kd.slice 9 Kd.string) (fun y => (∀ y_y ∈ y, True)) (fun y => ((y.map (fun y_y => (y_y.size + 1))).sum + 1)) := (OpensU.slice Tryd.underlying22 (by kernel_rfl) (OpensU.string Tryd.underlying9))
theorem opens36 : OpensU Tryd.prog 36 (Kd.slice 59 k59) (fun y => (∀ y_y ∈ y, (True ∧ (Lit.int .i64 y_y.f1).wf = true ∧ (Lit.int .i64 y_y.f2).wf = true ∧ True ∧ True ∧ True))) (fun y => ((y.map (fun y_y => (((y_y.f0.size + 1) + (1 + (1 + ((y_y.f3.size + 1) + (1 + 1))))) + 1))).sum + 1)) := (OpensU.slice Tryd.underlying36 (by kernel_rfl) (OpensU.struct (f := (fun x : S59 => (x.f0, x.f1, x.f2, x.f3, x.f4, x.f5))) (g := (fun a => (⟨a.1, a.2.1, a.2.2.1, a.2.2.2.1, a.2.2.2.2.1, a.2.2.2.2.2⟩ : S59))) Tryd.underlying59 (by kernel_rfl) (fun _ => rfl) (OpensUF.cons rfl (by kernel_rfl) rfl (OpensU.string Tryd.underlying9) (OpensUF.cons rfl (by kernel_rfl) rfl (OpensU.int Tryd.underlying3) (OpensUF.cons rfl (by kernel_rfl) rfl (OpensU.int Tryd.underlying3) (OpensUF.cons rfl (by kernel_rfl) rfl (OpensU.string Tryd.underlying9) (OpensUF.cons rfl (by kernel_rfl) rfl (OpensU.bool Tryd.underlying4) (OpensUF.one rfl (by kernel_rfl) (OpensU.bool Tryd.underlying4)))))))))
theorem reads (os : Os) {H : Type} (enc : TypeId × Value → H) : ∃ places, DataW.whole enc Tryd.prog ((World.laidAll Tryd.prog os Rows.sparseMarksUptoRow.laid).forCall (fun _ _ => 0) ⟨#[], #[.slice none 0 0, .slice none 0 0], []⟩).memory Tryd.f10.params.toList Rows.sparseMarksSpec.vars false (#[.slice none 0 0, .slice none 0 0] : Array Value).toList 8 = some ([.nil, .nil], [], places) := ⟨[], by kernel_rfl⟩
set_option maxRecDepth 100000 in
theorem lifted (os : Os) (started : os.Started) (H : Type) (enc : TypeId × Value → H) (F : Stop.Interp) :
    ReturnsInHanded {} Tryd.checked os 10 .any ((Rows.OpenSpec.upto Rows.sparseMarksSpec).preRow enc Tryd.prog Tryd.f10 Rows.sparseMarksUptoRow.domain false Rows.sparseMarksUptoRow.laid) (((Rows.OpenSpec.upto Rows.sparseMarksSpec).at F).post enc Tryd.prog Tryd.f10 false true false false) := by
  obtain ⟨places, hx⟩ := reads os enc
  refine returnsInHanded_of_row (C := Tryd.checked) (s := (Rows.OpenSpec.upto Rows.sparseMarksSpec)) own started (by kernel_rfl) Tryd.func10
    (witness_row_at (enc := enc) (C := Tryd.checked) false (World.laidAll Tryd.prog os Rows.sparseMarksUptoRow.laid) #[.slice none 0 0, .slice none 0 0] (World.laidAll_os _ _ _) (by kernel_rfl) (by kernel_rfl) (by kernel_rfl)
      (OpenSpec.preRow_of_cond 8 hx (by kernel_rfl) (fun k hk => by cases hk; kernel_rfl) (by kernel_rfl) (by rw [MakeChecks.laidMetH_plain _ _ _ (by kernel_rfl)]; exact laidMet_laidAll _ (by kernel_rfl) (by kernel_rfl)))) ?_
  intro W base args ds gs before hval0 hW _ hcond _ hL _ _
  have hbulk : Rows.uptoBulkAll (ds ++ gs) ≤ 1048576 := of_decide_eq_true (hcond _ rfl)
  have hval : ∀ (j : Nat) t v, Tryd.f10.params[j]? = some t → args[j]? = some v → Value.okWide Tryd.prog W .any base t v := hval0
  have hW' := hW
  obtain ⟨p, q, hA0, hV, rfl, hfz, hnd⟩ := hW
  have hA : DataW.TrodAll enc Tryd.prog W 0 (fun _ => true) true Tryd.f10.params.toList args.toList ds p := hA0
  rw [Tryd.params10] at hA hval
  obtain ⟨v0, vs0, d0, ds0, p0, q0, hargs, rfl, rfl, h0, r0⟩ := trodAll_cons hA
  obtain ⟨v1, vs1, d1, ds1, p1, q1, rfl, rfl, rfl, h1, r1⟩ := trodAll_cons r0
  obtain ⟨rfl, rfl, rfl⟩ := trodAll_nil r1
  obtain rfl : args = #[v0, v1] := by cases args; simp_all
  obtain ⟨rfl, rfl⟩ := trodVars_none hV
  have lt0 := arg_lt h0
  obtain ⟨y0, hk0, w0, b0⟩ := opens22.arg h0
  obtain ⟨a0, len0, cap0, rfl⟩ := okWide_slice Tryd.underlying22 (hval 0 22 v0 rfl rfl)
  obtain ⟨A0, c0, e0, hl0, hr0⟩ := hk0
  obtain ⟨rfl, rfl, rfl⟩ : a0 = A0 ∧ len0 = y0.length ∧ cap0 = c0 := by simpa [Value.cells] using e0
  have lt1 := arg_lt h1
  obtain ⟨y1, hk1, w1, b1⟩ := opens36.arg h1
  obtain ⟨a1, len1, cap1, rfl⟩ := okWide_slice Tryd.underlying36 (hval 1 36 v1 rfl rfl)
  obtain ⟨A1, c1, e1, hl1, hr1⟩ := hk1
  obtain ⟨rfl, rfl, rfl⟩ : a1 = A1 ∧ len1 = y1.length ∧ cap1 = c1 := by simpa [Value.cells] using e1
  simp only [Rows.uptoBulkAll, List.append_nil, List.nil_append, List.cons_append] at hbulk
  have hsum : ((y0.map (fun y_y0 => (y_y0.size + 1))).sum + 1) + ((y1.map (fun y_y1 => (((y_y1.f0.size + 1) + (1 + (1 + ((y_y1.f3.size + 1) + (1 + 1))))) + 1))).sum + 1) ≤ 1048576 := by first | omega | (dsimp only at *; omega)
  obtain ⟨k, hp⟩ := Pure.SparseMarks _ _ w0 w1 hsum
  clear hA0 hval0
  refine (Q.graftagelaw33_SparseMarks.calls k _ _ y0 _ _ y1 true W hr0 hl0 hr1 hl1 hp).mono ?_
  rintro e W' ⟨rfl, bel0⟩
  have bel : Below W.heap.size W W' := bel0
  exact ⟨_, rfl, _, _, _, [], _, [], hW', trodAll_mk1 (shut_bool Tryd.underlying4 _), (trodAll_cons_mk (Below.trod laidOut (by kernel_rfl) (of_decide_eq_true (by kernel_rfl)) h0 bel lt0) (trodAll_cons_mk (Below.trod laidOut (by kernel_rfl) (of_decide_eq_true (by kernel_rfl)) h1 bel lt1) trodAll_mk0)), rfl, bel.frame _, fun h => by cases h⟩
theorem over : Rows.sparseMarksUptoRow.holds Tryd.pinned (Rows.OpenSpec.upto Rows.sparseMarksSpec) :=
  OpenClaim.holds_of_cond 10 Tryd.f10 rfl rfl rfl rfl rfl rfl rfl ⟨rfl, rfl, rfl, rfl, rfl⟩ rfl rfl rfl rfl rfl (by kernel_rfl) Tryd.func10 (by kernel_rfl)
    (of_decide_eq_true (by kernel_rfl)) (by unfold Func.isWrapper; first | (rw [if_pos (by decide +kernel)]; kernel_rfl) | (rw [if_neg (by decide +kernel)]; exact ⟨rfl, rfl⟩))
    (fun os started H enc _ F => by rw [OpenClaim.pre_eq_preRow]; exact lifted os started H enc F)
theorem proved : Rows.SparseMarksUptoSaid := over
theorem card_holds : Rows.SparseMarksUptoCardSaid :=
  Claim7.holds_tied_plain_at .later [] [.data, .pinned] true (true, "ee9f5152e3bf1d4477e5b03ff39066a230a9e22607e6aac393ddaf4034755f7a") false over (fun _ h => by cases h) (by kernel_rfl) (fun _ h => by cases h) sparseMarksUpto_row_tie rfl ⟨rfl, rfl⟩ (by kernel_rfl) rfl
    (fun f fn hf hfn => by
      obtain rfl : f = 10 := Option.some.inj ((show Tryd.prog.funcNamed "graftage/graftagelaw33.SparseMarks" = some 10 by kernel_rfl).symm.trans hf) |>.symm
      obtain rfl : fn = Tryd.f10 := (Option.some.inj (Tryd.func10.symm.trans hfn)).symm
      exact ⟨by kernel_rfl, fun j t ht => by
        rw [Tryd.params10] at ht
        have hm : t ∈ [22, 36] := by simpa using Array.mem_of_getElem? ht
        have hall : ([22, 36].all fun u => !Tryd.prog.wantsStandIn u) = true := by kernel_rfl
        exact (show Tryd.prog.wantsStandIn t = false by simpa using List.all_eq_true.1 hall t hm)⟩)
    (by kernel_rfl)
#print axioms card_holds
end Go.Proofs.YtfkkbcmbabfipaaDoor.sparseMarks
namespace Go.Proofs.YtfkkbcmbabfipaaDoor
/-- The statement, under a short name, for the claim. -/
theorem sparseMarks_holds : Rows.SparseMarksUptoCardSaid := sparseMarks.card_holds
end Go.Proofs.YtfkkbcmbabfipaaDoor

