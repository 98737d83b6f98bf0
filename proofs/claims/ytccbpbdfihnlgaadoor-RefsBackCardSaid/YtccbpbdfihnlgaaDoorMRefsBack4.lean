/- The law RefsBack holds: for every input it returns true, and each argument reads afterwards as it read before. -/
import Derived.Test.YtccbpbdfihnlgaaDoorMYRefsBack1
import Derived.Test.YtccbpbdfihnlgaaDoorMRefsBack1
import Derived.Test.YtccbpbdfihnlgaaDoorMRefsBack2
import Derived.Test.YtccbpbdfihnlgaaDoorMRefsBack3
import Derived.Laws.Cover1
import Derived.Deep.Slices
import Derived.Lib.SmallJoins
import Derived.ChangeArms
import Derived.SizedLaws
import Derived.WalkKit
import Derived.ProofKit
import Derived.Test.YtccbpbdfihnlgaaDoorRows
import Derived.Test.YtccbpbdfihnlgaaDoorTie
import Derived.Test.YtccbpbdfihnlgaaDoorCards
import Derived.OpenShut
import Derived.ShutString
import Derived.ChangeOld
import Derived.Below
import Derived.Lay
import Derived.LaidOnce
import Derived.SevenTiedAt
import Derived.LaidLaws
import Derived.Handed
import Derived.ChangeVars
import Derived.JoinedOf
set_option linter.unusedVariables false
set_option linter.unusedSimpArgs false
/- Contracts of Go functions as calls of plain Lean functions, written by a program of this session over the kit's print. -/
namespace Go.Proofs.YtccbpbdfihnlgaaDoor.Q
open Go.RowKit Go.Proofs.YtccbpbdfihnlgaaDoorW.PrintWords Go.Proofs.YtccbpbdfihnlgaaDoorW.PrintLast Go.Proofs.YtccbpbdfihnlgaaDoorW.PrintMore
attribute [local go_sem] max2_int min2_int max_two min_two max_three min_three max_four min_four   -- for this text's walks alone

/-! ### graftageref37_Text: function 39 -/
def graftageref37_Text.l0 : Nat → List (S55) → List Int → Int → Int → Option (ByteArray × Int)
  | 0, _, _, _, _ => none
  | k + 1, x0, x5, x13, x14 => if x14 < x13 then (if 0 ≤ x14 then (if x14 < (x0.length : Int) then (if ((rd_T55 x0 x14).f2).toList = ([] : List UInt8) then (if ((rd_T55 x0 x14).f1).size + 1 ≤ 9223372036854775807 then (if (((rd_T55 x0 x14).f1) ++ (⟨#[32]⟩ : ByteArray)).size + ((rd_T55 x0 x14).f0).size ≤ 9223372036854775807 then (if ((((rd_T55 x0 x14).f1) ++ (⟨#[32]⟩ : ByteArray)) ++ ((rd_T55 x0 x14).f0)).size + 1 ≤ 9223372036854775807 then (if x5.length + (((((rd_T55 x0 x14).f1) ++ (⟨#[32]⟩ : ByteArray)) ++ ((rd_T55 x0 x14).f0)) ++ (⟨#[10]⟩ : ByteArray)).size < 140737488355328 then (graftageref37_Text.l0 k x0 (x5 ++ bytesOf (((((rd_T55 x0 x14).f1) ++ (⟨#[32]⟩ : ByteArray)) ++ ((rd_T55 x0 x14).f0)) ++ (⟨#[10]⟩ : ByteArray))) x13 (wrap64 (x14 + 1))) else (none)) else (none)) else (none)) else (none)) else (if 1 + ((rd_T55 x0 x14).f2).size ≤ 9223372036854775807 then (if x5.length + ((⟨#[64]⟩ : ByteArray) ++ ((rd_T55 x0 x14).f2)).size < 140737488355328 then ((some (x5 ++ bytesOf ((⟨#[64]⟩ : ByteArray) ++ ((rd_T55 x0 x14).f2)) : List Int)).bind fun y131 => (if ((rd_T55 x0 x14).f1).size + 1 ≤ 9223372036854775807 then (if (((rd_T55 x0 x14).f1) ++ (⟨#[32]⟩ : ByteArray)).size + ((rd_T55 x0 x14).f0).size ≤ 9223372036854775807 then (if ((((rd_T55 x0 x14).f1) ++ (⟨#[32]⟩ : ByteArray)) ++ ((rd_T55 x0 x14).f0)).size + 1 ≤ 9223372036854775807 then (if y131.length + (((((rd_T55 x0 x14).f1) ++ (⟨#[32]⟩ : ByteArray)) ++ ((rd_T55 x0 x14).f0)) ++ (⟨#[10]⟩ : ByteArray)).size < 140737488355328 then (graftageref37_Text.l0 k x0 (y131 ++ bytesOf (((((rd_T55 x0 x14).f1) ++ (⟨#[32]⟩ : ByteArray)) ++ ((rd_T55 x0 x14).f0)) ++ (⟨#[10]⟩ : ByteArray))) x13 (wrap64 (x14 + 1))) else (none)) else (none)) else (none)) else (none))) else (none)) else (none))) else (none)) else (none)) else (some (strOfNums x5, 0))
def graftageref37_Text.f (k : Nat) (l0 : List (S55)) : Option (ByteArray × Int) := (graftageref37_Check.f k l0).bind fun t123 => (if t123 = 0 then (graftageref37_Text.l0 k l0 ([] : List Int) (l0.length : Int) 0) else (some ((⟨#[]⟩ : ByteArray), t123)))
end Go.Proofs.YtccbpbdfihnlgaaDoor.Q


/- Contracts of Go functions as calls of plain Lean functions, written by a program of this session over the kit's print. -/
namespace Go.Proofs.YtccbpbdfihnlgaaDoor.Q
open Go.RowKit Go.Proofs.YtccbpbdfihnlgaaDoorW.PrintWords Go.Proofs.YtccbpbdfihnlgaaDoorW.PrintLast Go.Proofs.YtccbpbdfihnlgaaDoorW.PrintMore
attribute [local go_sem] max2_int min2_int max_two min_two max_three min_three max_four min_four   -- for this text's walks alone

/-! ### graftageref37_one: function 92 -/
def graftageref37_one.j0 : Nat → ByteArray → Int → Int → Bool → Option (ByteArray × ByteArray × ByteArray × Bool)
  | 0, _, _, _, _ => none
  | k + 1, x0, x4, x5, x31 => if x31 = true then (some ((⟨#[]⟩ : ByteArray), (⟨#[]⟩ : ByteArray), (⟨#[]⟩ : ByteArray), false)) else (if 0 < (x0.size : Int) then (if (bt x0 0) = 64 then (if 0 ≤ (wrap64 (x4 + 1)) then (if (wrap64 (x4 + 1)) ≤ x5 then (if x5 ≤ (x0.size : Int) then (if 1 ≤ x4 then (if x4 ≤ (x0.size : Int) then (some (x0.extract ((wrap64 (x4 + 1)) : Int).toNat (x5 : Int).toNat, (⟨#[]⟩ : ByteArray), x0.extract 1 (x4 : Int).toNat, decide (x4 > 1))) else (none)) else (none)) else (none)) else (none)) else (none)) else (if 0 ≤ (wrap64 (x4 + 1)) then (if (wrap64 (x4 + 1)) ≤ x5 then (if x5 ≤ (x0.size : Int) then (if 0 ≤ x4 then (if x4 ≤ (x0.size : Int) then ((graftageref02_Is.f k (x0.extract 0 (x4 : Int).toNat)).bind fun t113 => (some (x0.extract ((wrap64 (x4 + 1)) : Int).toNat (x5 : Int).toNat, x0.extract 0 (x4 : Int).toNat, (⟨#[]⟩ : ByteArray), t113))) else (none)) else (none)) else (none)) else (none)) else (none))) else (none))
def graftageref37_one.f (k : Nat) (a0 : ByteArray) : Option (ByteArray × ByteArray × ByteArray × Bool) := (graftageref14_Find.f k a0 32 0).bind fun t111 => (if t111 < 0 then (graftageref37_one.j0 k a0 t111 (wrap64 ((a0.size : Int) - 1)) true) else (if 0 ≤ (wrap64 ((a0.size : Int) - 1)) then (if (wrap64 ((a0.size : Int) - 1)) < (a0.size : Int) then (if (bt a0 (wrap64 ((a0.size : Int) - 1))) = 10 then (if (wrap64 ((a0.size : Int) - 1)) = (wrap64 (t111 + 1)) then (graftageref37_one.j0 k a0 t111 (wrap64 ((a0.size : Int) - 1)) true) else ((graftageref14_Find.f k a0 32 (wrap64 (t111 + 1))).bind fun t112 => (graftageref37_one.j0 k a0 t111 (wrap64 ((a0.size : Int) - 1)) (decide (t112 ≥ 0))))) else (graftageref37_one.j0 k a0 t111 (wrap64 ((a0.size : Int) - 1)) true)) else (none)) else (none)))
end Go.Proofs.YtccbpbdfihnlgaaDoor.Q


/- Contracts of Go functions as calls of plain Lean functions, written by a program of this session over the kit's print. -/
namespace Go.Proofs.YtccbpbdfihnlgaaDoor.Q
open Go.RowKit Go.Proofs.YtccbpbdfihnlgaaDoorW.PrintWords Go.Proofs.YtccbpbdfihnlgaaDoorW.PrintLast Go.Proofs.YtccbpbdfihnlgaaDoorW.PrintMore
attribute [local go_sem] max2_int min2_int max_two min_two max_three min_three max_four min_four   -- for this text's walks alone

/-! ### graftageref37_Parse: function 41 -/
def graftageref37_Parse.l0 : Nat → List ByteArray → List (S55) → Int → Int → Option ((List (S55)) × Int)
  | 0, _, _, _, _ => none
  | k + 1, x4, x5, x13, x14 => if x14 < x13 then (if 0 ≤ x14 then (if x14 < (x4.length : Int) then ((graftageref37_one.f k (rdOf ByteArray.empty x4 x14)).bind fun bt295 => (if bt295.2.2.2 = true then (if x5.length < 2932031007402 then (graftageref37_Parse.l0 k x4 (x5 ++ [(⟨bt295.1, bt295.2.1, bt295.2.2.1⟩ : S55)]) x13 (wrap64 (x14 + 1))) else (none)) else (some (([] : List (S55)), 2)))) else (none)) else (none)) else ((graftageref37_Check.f k x5).bind fun t303 => (if t303 = 0 then (some (x5, 0)) else (some (([] : List (S55)), t303))))
def graftageref37_Parse.f (k : Nat) (a0 : ByteArray) : Option ((List (S55)) × Int) := (graftageref05_Split.f k a0).bind fun t291 => (graftageref37_Parse.l0 k t291 ([] : List (S55)) (t291.length : Int) 0)
end Go.Proofs.YtccbpbdfihnlgaaDoor.Q


/- Refs: texts. -/
namespace Go.Proofs.YtccbpbdfihnlgaaDoor.Q
open Go.RowKit Go.Proofs.YtccbpbdfihnlgaaDoorW.PrintWords Go.Proofs.YtccbpbdfihnlgaaDoorW.PrintLast Go.Proofs.YtccbpbdfihnlgaaDoorW.PrintMore
/-! ### texts -/
def encR (r : S55) : ByteArray := (((if r.f2.toList = [] then r.f1 else ⟨#[64]⟩ ++ r.f2) ++ ⟨#[32]⟩) ++ r.f0) ++ ⟨#[10]⟩
def textF (l : List S55) : Nat → Nat → ByteArray → ByteArray
  | 0, _, acc => acc
  | d + 1, i, acc => textF l d (i + 1) (acc ++ encR (at55 l i))
theorem b1 (c : UInt8) : (⟨#[c]⟩ : ByteArray).size = 1 := rfl
theorem nameB_size {s : ByteArray} (h : nameB s = true) : s.size ≤ 255 := by
  unfold nameB at h
  rw [Bool.or_eq_true, decide_eq_true_eq] at h
  rcases h with h | h
  · have := Lib.size_eq s
    rw [← Lib.toList_data, h] at this
    simp at this; omega
  · unfold nameIn at h
    rw [Bool.and_eq_true] at h
    exact isPath_size h.1
theorem nameB_high {s : ByteArray} (h : nameB s = true) : ∀ b ∈ s.data.toList, 32 < b.toNat := by
  unfold nameB at h
  rw [Bool.or_eq_true, decide_eq_true_eq] at h
  rcases h with h | h
  · rw [← Lib.toList_data, h]
    decide
  · unfold nameIn at h
    simp only [Bool.and_eq_true] at h
    have := h.2.2.2.2.2.1
    intro b hb
    have := List.all_eq_true.1 this b hb
    simpa using this
theorem chkR_zero {r : S55} (h : chkR r = 0) : nameB r.f0 = true ∧ wholeB r = true := by
  unfold chkR at h
  split at h
  · rename_i h1
    split at h
    · rename_i h2; exact ⟨h1, h2⟩
    · cases h
  · cases h
theorem whole_cases {r : S55} (h : wholeB r = true) : (r.f2.toList = [] ∧ idOk r.f1 = true) ∨ (r.f2.toList ≠ [] ∧ r.f1.toList = [] ∧ nameB r.f2 = true) := by
  unfold wholeB at h
  split at h
  · rename_i h1; exact .inl ⟨h1, h⟩
  · rename_i h1
    rw [Bool.and_eq_true, decide_eq_true_eq] at h
    exact .inr ⟨h1, h.1, h.2⟩
theorem nil_size {s : ByteArray} (h : s.toList = []) : s.size = 0 := by
  have := Lib.size_eq s
  rw [← Lib.toList_data, h] at this
  simpa using this
theorem nil_is {s : ByteArray} (h : s.toList = []) : s = ⟨#[]⟩ := ba_ext (by rw [← Lib.toList_data, h])
theorem ref_sizes {r : S55} (h : chkR r = 0) : r.f0.size ≤ 255 ∧ r.f1.size ≤ 40 ∧ r.f2.size ≤ 255 := by
  obtain ⟨h1, h2⟩ := chkR_zero h
  refine ⟨nameB_size h1, ?_⟩
  rcases whole_cases h2 with ⟨h3, h4⟩ | ⟨_, h3, h4⟩
  · have := nil_size h3
    have := idOk_size h4
    omega
  · have := nil_size h3
    have := nameB_size h4
    omega
theorem encR_size {r : S55} (h : chkR r = 0) : (encR r).size ≤ 600 := by
  obtain ⟨h0, h1, h2⟩ := ref_sizes h
  unfold encR
  rw [ByteArray.size_append, ByteArray.size_append, ByteArray.size_append, b1, b1]
  split
  · omega
  · rw [ByteArray.size_append, b1]; omega
theorem strOfNums_bytes (s : ByteArray) : strOfNums (bytesOf s) = s := by
  apply ba_ext
  simp [strOfNums, bytesOf, Function.comp_def]
theorem bytesOf_app (a b : ByteArray) : bytesOf (a ++ b) = bytesOf a ++ bytesOf b := by simp [bytesOf]
section
variable (l : List S55) (hn : l.length ≤ 1024) (hc : ∀ r ∈ l, chkR r = 0)
include hn hc
theorem Text_l0 : ∀ (d i : Nat) (acc : ByteArray), i + d = l.length → acc.size ≤ i * 600 → Ev (fun k => refs_Text.l0 k l l.length i acc) (textF l d i acc, 0) := by
  intro d
  induction d with
  | zero =>
    intro i acc hi ha
    exact Ev.step (f := fun _ => some (acc, 0)) (fun k => by rw [refs_Text.l0, if_neg (by omega)]; rfl) (Ev.now _)
  | succ d ih =>
    intro i acc hi ha
    have hlt : i < l.length := by omega
    have hz := hc (at55 l i) (by rw [at55_get _ _ hlt]; exact List.getElem_mem hlt)
    obtain ⟨s0, s1, s2⟩ := ref_sizes hz
    have hsz := encR_size hz
    have e0 : rd_T55 l (i : Int) = at55 l i := rfl
    have hw : Builder_WriteString.f acc (encR (at55 l i)) = some (((encR (at55 l i)).size : Int), none, acc ++ encR (at55 l i)) := by
      unfold Builder_WriteString.f
      rw [if_pos (by omega)]
    rw [textF]
    refine Ev.step (f := fun k => refs_Text.l0 k l l.length ((i : Int) + 1) (acc ++ encR (at55 l i))) (fun k => ?_) ?_
    · rw [refs_Text.l0, if_pos (by omega), if_pos (by omega), if_pos (by omega), e0]
      by_cases h2 : (at55 l i).f2.toList = []
      · have he : encR (at55 l i) = (((at55 l i).f1 ++ ⟨#[32]⟩) ++ (at55 l i).f0) ++ ⟨#[10]⟩ := by unfold encR; rw [if_pos h2]
        rw [if_pos h2, if_pos (by omega), if_pos (by rw [ByteArray.size_append, b1]; omega), if_pos (by rw [ByteArray.size_append, ByteArray.size_append, b1]; omega), ← he, hw, Option.bind_some, wrap_id (by omega) (by omega)]
      · have he : encR (at55 l i) = (((⟨#[64]⟩ ++ (at55 l i).f2) ++ ⟨#[32]⟩) ++ (at55 l i).f0) ++ ⟨#[10]⟩ := by unfold encR; rw [if_neg h2]
        rw [if_neg h2, if_pos (by omega), if_pos (by rw [ByteArray.size_append, b1]; omega), if_pos (by rw [ByteArray.size_append, ByteArray.size_append, b1, b1]; omega), if_pos (by rw [ByteArray.size_append, ByteArray.size_append, ByteArray.size_append, b1, b1]; omega), ← he, hw, Option.bind_some, wrap_id (by omega) (by omega)]
    · exact_mod_cast ih (i + 1) _ (by omega) (by rw [ByteArray.size_append]; omega)
theorem refText_l0 : ∀ (d i : Nat) (acc : ByteArray), i + d = l.length → acc.size ≤ i * 600 → Ev (fun k => graftageref37_Text.l0 k l (bytesOf acc) l.length i) (textF l d i acc, 0) := by
  intro d
  induction d with
  | zero =>
    intro i acc hi ha
    exact Ev.step (f := fun _ => some (acc, 0)) (fun k => by rw [graftageref37_Text.l0, if_neg (by omega), strOfNums_bytes]) (Ev.now _)
  | succ d ih =>
    intro i acc hi ha
    have hlt : i < l.length := by omega
    have hz := hc (at55 l i) (by rw [at55_get _ _ hlt]; exact List.getElem_mem hlt)
    obtain ⟨s0, s1, s2⟩ := ref_sizes hz
    have hsz := encR_size hz
    have e0 : rd_T55 l (i : Int) = at55 l i := rfl
    rw [textF]
    refine Ev.step (f := fun k => graftageref37_Text.l0 k l (bytesOf (acc ++ encR (at55 l i))) l.length ((i : Int) + 1)) (fun k => ?_) ?_
    · rw [graftageref37_Text.l0, if_pos (by omega), if_pos (by omega), if_pos (by omega), e0]
      by_cases h2 : (at55 l i).f2.toList = []
      · have he : encR (at55 l i) = (((at55 l i).f1 ++ ⟨#[32]⟩) ++ (at55 l i).f0) ++ ⟨#[10]⟩ := by unfold encR; rw [if_pos h2]
        rw [if_pos h2, if_pos (by omega), if_pos (by rw [ByteArray.size_append, b1]; omega), if_pos (by rw [ByteArray.size_append, ByteArray.size_append, b1]; omega), ← he, if_pos (by rw [bytesOf_length]; omega), wrap_id (by omega) (by omega), bytesOf_app]
      · have he : encR (at55 l i) = (((⟨#[64]⟩ ++ (at55 l i).f2) ++ ⟨#[32]⟩) ++ (at55 l i).f0) ++ ⟨#[10]⟩ := by unfold encR; rw [if_neg h2]
        have hw := whole_cases (chkR_zero hz).2
        have h1 : (at55 l i).f1 = ⟨#[]⟩ := by
          rcases hw with ⟨h3, _⟩ | ⟨_, h3, _⟩
          · exact absurd h3 h2
          · exact nil_is h3
        rw [if_neg h2, if_pos (by omega), if_pos (by rw [bytesOf_length, ByteArray.size_append, b1]; omega)]
        simp only [Option.bind_some]
        rw [h1, if_pos (by decide), if_pos (by rw [ByteArray.size_append, b1, show (⟨#[]⟩ : ByteArray).size = 0 from rfl]; omega), if_pos (by rw [ByteArray.size_append, ByteArray.size_append, b1, show (⟨#[]⟩ : ByteArray).size = 0 from rfl]; omega),
          if_pos (by rw [List.length_append, bytesOf_length, bytesOf_length, ByteArray.size_append, ByteArray.size_append, ByteArray.size_append, ByteArray.size_append, b1, b1, b1, show (⟨#[]⟩ : ByteArray).size = 0 from rfl]; omega), wrap_id (by omega) (by omega)]
        congr 1
        rw [he]
        simp only [bytesOf_app, List.append_assoc]
        rfl
    · exact_mod_cast ih (i + 1) _ (by omega) (by rw [ByteArray.size_append]; omega)
end
theorem Text_both (l : List S55) (hs : l.length ≤ 1024 → ∀ x ∈ l, x.f0.size ≤ 4294967280 ∧ x.f2.size ≤ 4294967280) : ∃ q : ByteArray × Int, Ev (fun k => refs_Text.f k l) q ∧ Ev (fun k => graftageref37_Text.f k l) q ∧ Ev (fun k => refs_Check.f k l) q.2 ∧ (q.2 = 0 → q.1 = textF l l.length 0 ⟨#[]⟩ ∧ l.length ≤ 1024 ∧ ∀ r ∈ l, chkR r = 0) := by
  obtain ⟨c, h1, h2, h3⟩ := Check_both l hs
  by_cases hc : c = 0
  · obtain ⟨h4, h5⟩ := h3 hc
    refine ⟨(textF l l.length 0 ⟨#[]⟩, 0), Ev.bind h1 ?_, Ev.bind h2 ?_, hc ▸ h1, fun _ => ⟨rfl, h4, h5⟩⟩
    · simp only [hc, if_true]; exact_mod_cast Text_l0 l h4 h5 l.length 0 ⟨#[]⟩ (by omega) (by decide)
    · simp only [hc, if_true]; exact_mod_cast refText_l0 l h4 h5 l.length 0 ⟨#[]⟩ (by omega) (by decide)
  · refine ⟨(⟨#[]⟩, c), Ev.bind h1 ?_, Ev.bind h2 ?_, h1, fun h => absurd h hc⟩
    · simp only [if_neg hc]; exact Ev.now _
    · simp only [if_neg hc]; exact Ev.now _
/-! ### one line -/
def lnO (x : ByteArray) : Option S55 :=
  if Lib.indexByte x.data.toList 32 < 0 ∨ Lib.indexByte x.data.toList 32 = (x.size : Int) - 1 ∨ (x.data.toList.drop ((Lib.indexByte x.data.toList 32).toNat + 1)).contains 32 = true then none
  else if bt x 0 = 64 ∧ 2 ≤ (Lib.indexByte x.data.toList 32).toNat then some ⟨x.extract ((Lib.indexByte x.data.toList 32).toNat + 1) x.size, ⟨#[]⟩, x.extract 1 (Lib.indexByte x.data.toList 32).toNat⟩
  else if idOk (x.extract 0 (Lib.indexByte x.data.toList 32).toNat) = true then some ⟨x.extract ((Lib.indexByte x.data.toList 32).toNat + 1) x.size, x.extract 0 (Lib.indexByte x.data.toList 32).toNat, ⟨#[]⟩⟩
  else none
def lnR (o : Option S55) : ByteArray × ByteArray × ByteArray × Bool := match o with | some r => (r.f0, r.f1, r.f2, true) | none => (⟨#[]⟩, ⟨#[]⟩, ⟨#[]⟩, false)
def lastF (s : ByteArray) (c : Int) : Nat → Int
  | 0 => -1
  | n + 1 => if bt s n = c then n else lastF s c n
theorem last_l0 (s : ByteArray) (hs : s.size ≤ 140737488351232) (c : Int) : ∀ n : Nat, n ≤ s.size → Ev (fun k => bytealg_LastIndexByteString.l0 k s c ((n : Int) - 1)) (lastF s c n) := by
  intro n
  induction n with
  | zero =>
    intro _
    exact Ev.step (f := fun _ => some (-1)) (fun k => by rw [bytealg_LastIndexByteString.l0, if_neg (by omega)]) (Ev.now _)
  | succ n ih =>
    intro hn
    rw [lastF]
    have e : ((n + 1 : Nat) : Int) - 1 = (n : Int) := by omega
    rw [e]
    refine Ev.step (f := fun k => if bt s n = c then some (n : Int) else bytealg_LastIndexByteString.l0 k s c ((n : Int) - 1)) (fun k => by rw [bytealg_LastIndexByteString.l0, if_pos (by omega), if_pos (by omega), if_pos (by omega), wrap_id (by omega) (by omega)]) ?_
    exact ev_iff (fun h => by rw [if_pos h]; exact Ev.now _) (fun h => by rw [if_neg h]; exact ih (by omega))
theorem last_ev (s : ByteArray) (hs : s.size ≤ 140737488351232) (c : Int) : Ev (fun k => strings_LastIndexByte.f k s c) (lastF s c s.size) := by
  refine Ev.bind (r := lastF s c s.size) ?_ (Ev.now _)
  have := last_l0 s hs c s.size (Nat.le_refl _)
  refine Ev.congr (fun k => ?_) this
  unfold bytealg_LastIndexByteString.f
  rw [wrap_id (by omega) (by omega)]
theorem lastF_spec (s : ByteArray) (c : Int) : ∀ n i : Nat, i < n → bt s i = c → (lastF s c n = (i : Int) ↔ ∀ j : Nat, i < j → j < n → bt s j ≠ c)
  | 0, i, h, _ => by omega
  | n + 1, i, h, hi => by
    rw [lastF]
    by_cases hn : bt s n = c
    · rw [if_pos hn]
      constructor
      · intro e j h1 h2
        omega
      · intro hh
        by_cases e : i = n
        · rw [e]
        · exact absurd hn (hh n (by omega) (by omega))
    · rw [if_neg hn]
      have hne : i ≠ n := fun e => hn (e ▸ hi)
      rw [lastF_spec s c n i (by omega) hi]
      constructor
      · intro hh j h1 h2
        by_cases e : j = n
        · rw [e]; exact hn
        · exact hh j h1 (by omega)
      · intro hh j h1 h2
        exact hh j h1 (by omega)
theorem bt_is (s : ByteArray) (i : Nat) (h : i < s.size) (c : UInt8) : bt s i = (c.toNat : Int) ↔ s.data.toList[i]? = some c := by
  have hl : i < s.data.toList.length := by rw [← Lib.size_eq]; exact h
  rw [bt_get s i h, List.getElem?_eq_getElem hl]
  constructor
  · intro e
    have h1 : s.data.toList[i] = c := UInt8.toNat_inj.1 (by exact_mod_cast e)
    rw [h1]
  · intro e; rw [Option.some.inj e]
theorem last_ne (s : ByteArray) (i : Nat) (hi : s.data.toList[i]? = some 32) : decide (lastF s 32 s.size ≠ (i : Int)) = (s.data.toList.drop (i + 1)).contains 32 := by
  have hil : i < s.data.toList.length := (List.getElem?_eq_some_iff.1 hi).1
  have hl : s.data.toList.length = s.size := (Lib.size_eq s).symm
  have hb : bt s i = 32 := (bt_is s i (by omega) 32).2 hi
  rw [Bool.eq_iff_iff, decide_eq_true_eq, ne_eq, lastF_spec s 32 s.size i (by omega) hb, List.contains_iff_mem]
  constructor
  · intro h
    apply Classical.byContradiction
    intro hn
    apply h
    intro j h1 h2 h3
    have := (bt_is s j h2 32).1 h3
    apply hn
    refine List.mem_of_getElem? (i := j - (i + 1)) ?_
    rw [List.getElem?_drop, show i + 1 + (j - (i + 1)) = j by omega]
    exact this
  · intro h hh
    obtain ⟨j, hj⟩ := List.mem_iff_getElem?.1 h
    rw [List.getElem?_drop] at hj
    have hjl : i + 1 + j < s.data.toList.length := (List.getElem?_eq_some_iff.1 hj).1
    exact hh (i + 1 + j) (by omega) (by omega) ((bt_is s _ (by omega) 32).2 hj)
theorem ib_at {l : List UInt8} {c : UInt8} {i : Nat} (h : Lib.indexByte l c = (i : Int)) : l[i]? = some c := (Lib.indexByte_some h).1
theorem ext_size (s : ByteArray) (i j : Nat) (hj : j ≤ s.size) : (s.extract i j).size = j - i := by
  rw [Lib.size_eq, Lib.extract_data, List.length_take, List.length_drop, ← Lib.size_eq]
  omega
theorem bt_ext0 (s : ByteArray) (a : Nat) (h0 : 0 < a) (ha : a ≤ s.size) : bt (s.extract 0 a) 0 = bt s 0 := by
  have h1 := bt_get (s.extract 0 a) 0 (by rw [ext_size _ _ _ ha]; omega)
  have h2 := bt_get s 0 (by omega)
  have e : (s.extract 0 a).data.toList = s.data.toList.take a := by rw [Lib.extract_data, List.drop_zero, Nat.sub_zero]
  have h3 : (s.extract 0 a).data.toList[0]? = s.data.toList[0]? := by rw [e, List.getElem?_take, if_pos h0]
  have hl1 : 0 < (s.extract 0 a).data.toList.length := by rw [← Lib.size_eq, ext_size _ _ _ ha]; omega
  have hl2 : 0 < s.data.toList.length := by rw [← Lib.size_eq]; omega
  rw [List.getElem?_eq_getElem hl1, List.getElem?_eq_getElem hl2] at h3
  have h4 := Option.some.inj h3
  have h1' : bt (s.extract 0 a) 0 = (((s.extract 0 a).data.toList[0]'hl1).toNat : Int) := h1
  have h2' : bt s 0 = ((s.data.toList[0]'hl2).toNat : Int) := h2
  rw [h1', h2', h4]
theorem pre_at (t : ByteArray) : preB t ⟨#[64]⟩ = true ↔ 1 ≤ t.size ∧ bt t 0 = 64 := by
  unfold preB
  rw [Bool.and_eq_true, decide_eq_true_eq, b1, beq_iff_eq]
  constructor
  · rintro ⟨h1, h2⟩
    refine ⟨h1, ?_⟩
    rw [Lib.toList_data, Lib.extract_data, List.drop_zero, Nat.sub_zero, Lib.toList_data] at h2
    have : t.data.toList[0]? = some 64 := by
      have h3 : (t.data.toList.take 1)[0]? = some 64 := by rw [h2]; rfl
      rwa [List.getElem?_take, if_pos (by omega)] at h3
    exact (bt_is t 0 h1 64).2 this
  · rintro ⟨h1, h2⟩
    refine ⟨h1, ?_⟩
    have := (bt_is t 0 h1 64).1 h2
    rw [Lib.toList_data, Lib.extract_data, List.drop_zero, Nat.sub_zero, Lib.toList_data]
    have hl : 0 < t.data.toList.length := by rw [← Lib.size_eq]; exact h1
    rw [List.take_succ_eq_append_getElem hl, List.take_zero, List.nil_append]
    rw [List.getElem?_eq_getElem hl] at this
    rw [Option.some.inj this]
theorem CutPrefix_at (t : ByteArray) : strings_CutPrefix.f t ⟨#[64]⟩ = some (if preB t ⟨#[64]⟩ = true then (t.extract 1 t.size, true) else (t, false)) := by
  unfold strings_CutPrefix.f stringslite_CutPrefix.f
  have h0 := HasPrefix_is t ⟨#[64]⟩
  unfold strings_HasPrefix.f at h0
  have h2 : stringslite_HasPrefix.f t ⟨#[64]⟩ = some (preB t ⟨#[64]⟩) := by simpa using h0
  rw [h2]
  simp only [Option.bind_some]
  by_cases h : preB t ⟨#[64]⟩ = true
  · have := ((pre_at t).1 h).1
    rw [if_pos h, if_pos h, if_pos (by rw [b1]; omega), if_pos (by rw [b1]; omega)]; rfl
  · rw [if_neg h, if_neg h]; rfl
theorem line_ev (x : ByteArray) (hx : x.size ≤ 140737488351232) : Ev (fun k => refs_line.f k x) (lnR (lnO x)) := by
  have hI : strings_IndexByte.f x 32 = some (Lib.indexByte x.data.toList 32) := rfl
  have hge := Lib.indexByte_ge x.data.toList 32
  have hl : x.data.toList.length = x.size := (Lib.size_eq x).symm
  have hT : ∀ i : Int, Ev (fun k => refs_line.j0 k x i true) (lnR none) := fun i => Ev.step (f := fun _ => some (lnR none)) (fun k => by rw [refs_line.j0, if_pos rfl]; rfl) (Ev.now _)
  refine Ev.congr (f := fun k => (some (Lib.indexByte x.data.toList 32)).bind fun t102 => (if t102 < 0 then (refs_line.j0 k x t102 true) else (if t102 = (wrap64 ((x.size : Int) - 1)) then (refs_line.j0 k x t102 true) else ((strings_LastIndexByte.f k x 32).bind fun t103 => (refs_line.j0 k x t102 (t103 != t102)))))) (fun k => by unfold refs_line.f; rw [hI]) ?_
  simp only [Option.bind_some]
  rw [wrap_id (by omega) (by omega)]
  unfold lnO
  by_cases h1 : Lib.indexByte x.data.toList 32 < 0
  · simp only [if_pos h1, h1, true_or, if_true]; exact hT _
  simp only [if_neg h1, h1, false_or]
  obtain ⟨a, ha⟩ := Int.eq_ofNat_of_zero_le (show 0 ≤ Lib.indexByte x.data.toList 32 by omega)
  have hat := ib_at ha
  have hal : a < x.data.toList.length := (List.getElem?_eq_some_iff.1 hat).1
  rw [ha]
  simp only [Int.toNat_natCast]
  by_cases h2 : (a : Int) = (x.size : Int) - 1
  · simp only [if_pos h2, h2, true_or, if_true]; exact hT _
  simp only [if_neg h2, h2, false_or]
  refine Ev.bind (last_ev x hx 32) ?_
  have hb : (lastF x 32 x.size != (a : Int)) = (x.data.toList.drop (a + 1)).contains 32 := by
    rw [← last_ne x a hat]
    by_cases e : lastF x 32 x.size = (a : Int)
    · simp [e]
    · simp [e]
  rw [hb]
  by_cases h3 : (x.data.toList.drop (a + 1)).contains 32 = true
  · rw [h3, if_pos rfl]; exact hT _
  have h3' : (x.data.toList.drop (a + 1)).contains 32 = false := by simpa using h3
  rw [h3', if_neg (by decide)]
  have hts : (x.extract 0 a).size = a := by rw [ext_size _ _ _ (by omega)]; omega
  refine Ev.step (f := fun k => (strings_CutPrefix.f (x.extract 0 a) (⟨#[64]⟩ : ByteArray)).bind fun bt105 => (if bt105.2 = true then (refs_line.j1 k (x.extract 0 a) bt105.1 (bt105.1.toList != ([] : List UInt8)) (x.extract (a + 1) x.size) (⟨#[]⟩ : ByteArray) (⟨#[]⟩ : ByteArray)) else (refs_line.j1 k (x.extract 0 a) bt105.1 false (x.extract (a + 1) x.size) (⟨#[]⟩ : ByteArray) (⟨#[]⟩ : ByteArray)))) (fun k => by rw [refs_line.j0, if_neg (by decide), wrap_id (by omega) (by omega), if_pos (by omega), if_pos (by omega), if_pos (by omega), if_pos (by omega), Int.toNat_natCast, show ((a : Int) + 1).toNat = a + 1 by omega]) ?_
  rw [CutPrefix_at]
  simp only [Option.bind_some]
  have hid : ∀ t : ByteArray, Ev (fun k => refs_line.j1 k (x.extract 0 a) t false (x.extract (a + 1) x.size) (⟨#[]⟩ : ByteArray) (⟨#[]⟩ : ByteArray)) (lnR (if idOk (x.extract 0 a) = true then some ⟨x.extract (a + 1) x.size, x.extract 0 a, ⟨#[]⟩⟩ else none)) := fun t => by
    refine Ev.step (f := fun k => (ident_Is.f k (x.extract 0 a)).bind fun t107 => (if t107 = true then (some (x.extract (a + 1) x.size, x.extract 0 a, (⟨#[]⟩ : ByteArray), true)) else (some ((⟨#[]⟩ : ByteArray), (⟨#[]⟩ : ByteArray), (⟨#[]⟩ : ByteArray), false)))) (fun k => by rw [refs_line.j1, if_neg (by decide)]) ?_
    refine Ev.bind (ident_Is_ev _) (ev_iff (fun h => ?_) (fun h => ?_))
    · rw [if_pos h]; exact Ev.now _
    · rw [if_neg h]; exact Ev.now _
  by_cases hp : preB (x.extract 0 a) ⟨#[64]⟩ = true
  · obtain ⟨q1, q2⟩ := (pre_at _).1 hp
    rw [hts] at q1
    rw [bt_ext0 x a (by omega) (by omega)] at q2
    simp only [if_pos hp, if_true, hts]
    have hsym : (x.extract 0 a).extract 1 a = x.extract 1 a := by
      apply ba_ext
      rw [Lib.extract_data, Lib.extract_data, Lib.extract_data, List.drop_zero, Nat.sub_zero, List.drop_take, List.take_take, Nat.min_self]
    rw [hsym]
    by_cases h4 : 2 ≤ a
    · rw [if_pos ⟨q2, h4⟩]
      have hne : ((x.extract 1 a).toList != ([] : List UInt8)) = true := by
        rw [bne_iff_ne]
        intro e
        have := nil_size e
        rw [ext_size _ _ _ (by omega)] at this
        omega
      rw [hne]
      exact Ev.step (f := fun _ => some (lnR (some ⟨x.extract (a + 1) x.size, ⟨#[]⟩, x.extract 1 a⟩))) (fun k => by rw [refs_line.j1, if_pos rfl]; rfl) (Ev.now _)
    · rw [if_neg (fun h => h4 h.2)]
      have hne : ((x.extract 1 a).toList != ([] : List UInt8)) = false := by
        rw [bne_eq_false_iff_eq, Lib.toList_data]
        have : (x.extract 1 a).size = 0 := by rw [ext_size _ _ _ (by omega)]; omega
        rw [Lib.size_eq] at this
        exact List.length_eq_zero_iff.1 this
      rw [hne]
      exact hid _
  · simp only [if_neg hp, Bool.false_eq_true, if_false]
    have hn64 : ¬ (bt x 0 = 64 ∧ 2 ≤ a) := fun h => hp ((pre_at _).2 ⟨by rw [hts]; omega, by rw [bt_ext0 x a (by omega) (by omega)]; exact h.1⟩)
    rw [if_neg hn64]
    exact hid _
end Go.Proofs.YtccbpbdfihnlgaaDoor.Q


/- Contracts of Go functions as calls of plain Lean functions, written by a program of this session over the kit's print. -/
namespace Go.Proofs.YtccbpbdfihnlgaaDoor.Q
open Go.RowKit Go.Proofs.YtccbpbdfihnlgaaDoorW.PrintWords Go.Proofs.YtccbpbdfihnlgaaDoorW.PrintLast Go.Proofs.YtccbpbdfihnlgaaDoorW.PrintMore
attribute [local go_sem] max2_int min2_int max_two min_two max_three min_three max_four min_four   -- for this text's walks alone

end Go.Proofs.YtccbpbdfihnlgaaDoor.Q


/- Refs: RefsTexts and RefsBack. -/
namespace Go.Proofs.YtccbpbdfihnlgaaDoor.Q
open Go.RowKit Go.Proofs.YtccbpbdfihnlgaaDoorW.PrintWords Go.Proofs.YtccbpbdfihnlgaaDoorW.PrintLast Go.Proofs.YtccbpbdfihnlgaaDoorW.PrintMore
theorem ib_app : ∀ (l : List UInt8) (c d : UInt8), d ≠ c → Lib.indexByte (l ++ [d]) c = Lib.indexByte l c
  | [], c, d, h => by simp [Lib.indexByte, h]
  | b :: r, c, d, h => by
    rw [List.cons_append, Lib.indexByte, Lib.indexByte, ib_app r c d h]
theorem ib_mem : ∀ (l : List UInt8) (c : UInt8), Lib.indexByte l c = -1 ↔ c ∉ l
  | [], _ => by simp [Lib.indexByte]
  | b :: r, c => by
    have hge := Lib.indexByte_ge r c
    have ih := ib_mem r c
    rw [Lib.indexByte]
    by_cases e : b = c
    · rw [if_pos (by simp [e])]; simp [e]
    · rw [if_neg (by simpa using e)]
      by_cases e2 : Lib.indexByte r c = -1
      · rw [if_pos (by simp [e2])]
        simp only [List.mem_cons, not_or, true_iff]
        exact ⟨fun x => e x.symm, ih.1 e2⟩
      · rw [if_neg (by simpa using e2)]
        constructor
        · intro h; omega
        · intro h; simp only [List.mem_cons, not_or] at h; exact absurd (ih.2 h.2) e2
theorem ixF_zero (l : List UInt8) (c : UInt8) : ixF l c 0 = Lib.indexByte l c := by
  unfold ixF
  rw [List.drop_zero]
  by_cases h : Lib.indexByte l c = -1
  · rw [if_pos h, h]
  · rw [if_neg h]; simp
theorem ixF_pos (l : List UInt8) (c : UInt8) (i : Nat) : decide (ixF l c i ≥ 0) = (l.drop i).contains c := by
  have hge := Lib.indexByte_ge (l.drop i) c
  rw [Bool.eq_iff_iff, decide_eq_true_eq, List.contains_iff_mem]
  unfold ixF
  by_cases h : Lib.indexByte (l.drop i) c = -1
  · rw [if_pos h]
    exact ⟨fun hh => by omega, fun hh => absurd hh ((ib_mem _ _).1 h)⟩
  · rw [if_neg h]
    exact ⟨fun _ => Classical.byContradiction fun hn => h ((ib_mem _ _).2 hn), fun _ => by omega⟩
section
variable (s x : ByteArray) (hx : x.size ≤ 140737488351000) (hs : s.data.toList = x.data.toList ++ [10])
include hx hs
theorem one_ev : ∃ q, Ev (fun k => graftageref37_one.f k s) q ∧ q.2.2.2 = (lnO x).isSome ∧ ∀ r, lnO x = some r → q = (r.f0, r.f1, r.f2, true) := by
  have hl : x.data.toList.length = x.size := (Lib.size_eq x).symm
  have hsz : s.size = x.size + 1 := by rw [Lib.size_eq, hs, List.length_append, hl]; rfl
  have hge := Lib.indexByte_ge x.data.toList 32
  have hF0 := Find_ev s (by omega) 32 0 (by omega)
  have hix : ixF s.data.toList 32 0 = Lib.indexByte x.data.toList 32 := by rw [ixF_zero, hs, ib_app _ _ _ (by decide)]
  rw [hix] at hF0
  have hF0' : Ev (fun k => graftageref14_Find.f k s 32 0) (Lib.indexByte x.data.toList 32) := by exact_mod_cast hF0
  have hT : ∀ i j : Int, Ev (fun k => graftageref37_one.j0 k s i j true) (lnR none) := fun i j => Ev.step (f := fun _ => some (lnR none)) (fun k => by rw [graftageref37_one.j0, if_pos rfl]; rfl) (Ev.now _)
  have hW : wrap64 ((s.size : Int) - 1) = (x.size : Int) := by rw [wrap_id (by omega) (by omega)]; omega
  have hlast : bt s (x.size : Int) = 10 := (bt_is s x.size (by omega) 10).2 (by rw [hs, List.getElem?_append_right (by omega), hl, Nat.sub_self]; rfl)
  have hst : ∀ k, graftageref37_one.f k s = (graftageref14_Find.f k s 32 0).bind fun t111 => (if t111 < 0 then (graftageref37_one.j0 k s t111 (x.size : Int) true) else (if (x.size : Int) = (wrap64 (t111 + 1)) then (graftageref37_one.j0 k s t111 (x.size : Int) true) else ((graftageref14_Find.f k s 32 (wrap64 (t111 + 1))).bind fun t112 => (graftageref37_one.j0 k s t111 (x.size : Int) (decide (t112 ≥ 0)))))) := fun k => by
    unfold graftageref37_one.f
    rw [hW]
    congr 1
    funext t
    rw [if_pos (show (0 : Int) ≤ (x.size : Int) by omega), if_pos (show (x.size : Int) < (s.size : Int) by omega), if_pos hlast]
  unfold lnO
  by_cases h1 : Lib.indexByte x.data.toList 32 < 0
  · refine ⟨lnR none, Ev.congr hst (Ev.bind hF0' ?_), by simp [h1, lnR], fun r hr => by simp [h1] at hr⟩
    simp only [if_pos h1]; exact hT _ _
  obtain ⟨a, ha⟩ := Int.eq_ofNat_of_zero_le (show 0 ≤ Lib.indexByte x.data.toList 32 by omega)
  have hat := ib_at ha
  have hal : a < x.data.toList.length := (List.getElem?_eq_some_iff.1 hat).1
  rw [ha] at hF0' h1 ⊢
  simp only [Int.toNat_natCast]
  have hwa : wrap64 ((a : Int) + 1) = (a : Int) + 1 := wrap_id (by omega) (by omega)
  by_cases h2 : (a : Int) = (x.size : Int) - 1
  · refine ⟨lnR none, Ev.congr hst (Ev.bind hF0' ?_), by simp [h2, lnR], fun r hr => by simp [h2] at hr⟩
    simp only [if_neg h1, hwa, show (x.size : Int) = (a : Int) + 1 from by omega, if_true]; exact hT _ _
  have hF1 := Find_ev s (by omega) 32 (a + 1) (by omega)
  have hpos : decide (ixF s.data.toList 32 (a + 1) ≥ 0) = (x.data.toList.drop (a + 1)).contains 32 := by
    rw [ixF_pos, hs, List.drop_append_of_le_length (by omega), Bool.eq_iff_iff, List.contains_iff_mem, List.contains_iff_mem, List.mem_append]
    simp
  have hF1' : Ev (fun k => graftageref14_Find.f k s 32 ((a : Int) + 1)) (ixF s.data.toList 32 (a + 1)) := by exact_mod_cast hF1
  by_cases h3 : (x.data.toList.drop (a + 1)).contains 32 = true
  · refine ⟨lnR none, Ev.congr hst (Ev.bind hF0' ?_), by simp only [h3, or_true, if_true]; rfl, fun r hr => by simp only [h3, or_true, if_true] at hr; cases hr⟩
    simp only [if_neg h1, hwa, if_neg (show ¬ (x.size : Int) = (a : Int) + 1 by omega)]
    refine Ev.bind hF1' ?_
    rw [hpos, h3]; exact hT _ _
  have h3' : (x.data.toList.drop (a + 1)).contains 32 = false := by simpa using h3
  have hc : ¬ ((a : Int) < 0 ∨ (a : Int) = (x.size : Int) - 1 ∨ (x.data.toList.drop (a + 1)).contains 32 = true) := by
    rintro (h | h | h)
    · exact h1 h
    · exact h2 h
    · exact h3 h
  rw [if_neg hc]
  have e1 : s.extract (a + 1) x.size = x.extract (a + 1) x.size := by
    apply ba_ext
    rw [Lib.extract_data, Lib.extract_data, hs, List.drop_append_of_le_length (by omega), List.take_append_of_le_length (by rw [List.length_drop]; omega)]
  have e2 : s.extract 1 a = x.extract 1 a := by
    apply ba_ext
    rw [Lib.extract_data, Lib.extract_data, hs]
    by_cases h0 : 1 ≤ a
    · rw [List.drop_append_of_le_length (by omega), List.take_append_of_le_length (by rw [List.length_drop]; omega)]
    · rw [show a - 1 = 0 by omega]; simp
  have e3 : s.extract 0 a = x.extract 0 a := by
    apply ba_ext
    rw [Lib.extract_data, Lib.extract_data, hs, List.drop_zero, List.drop_zero, List.take_append_of_le_length (by omega)]
  have eb : bt s 0 = bt x 0 := by
    have q1 : bt s 0 = ((s.data.toList[0]'(by rw [← Lib.size_eq]; omega)).toNat : Int) := bt_get s 0 (by omega)
    have q2 : bt x 0 = ((x.data.toList[0]'(by omega)).toNat : Int) := bt_get x 0 (by omega)
    rw [q1, q2]
    simp only [hs]
    rw [List.getElem_append_left (by omega)]
  have hgo : ∀ q, Ev (fun k => graftageref37_one.j0 k s (a : Int) (x.size : Int) false) q → Ev (fun k => graftageref37_one.f k s) q := fun q hq => by
    refine Ev.congr hst (Ev.bind hF0' ?_)
    simp only [if_neg h1, hwa, if_neg (show ¬ (x.size : Int) = (a : Int) + 1 by omega)]
    refine Ev.bind hF1' ?_
    rw [hpos, h3']; exact hq
  have hj : ∀ k, graftageref37_one.j0 (k + 1) s (a : Int) (x.size : Int) false = (if (bt x 0) = 64 then (if 1 ≤ (a : Int) then (some (x.extract (a + 1) x.size, (⟨#[]⟩ : ByteArray), x.extract 1 a, decide ((a : Int) > 1))) else none) else ((graftageref02_Is.f k (x.extract 0 a)).bind fun t113 => (some (x.extract (a + 1) x.size, x.extract 0 a, (⟨#[]⟩ : ByteArray), t113)))) := fun k => by
    rw [graftageref37_one.j0, if_neg (by decide), if_pos (by omega), eb, hwa]
    by_cases h64 : bt x 0 = 64
    · rw [if_pos h64, if_pos h64, if_pos (show (0 : Int) ≤ (a : Int) + 1 by omega), if_pos (show (a : Int) + 1 ≤ (x.size : Int) by omega), if_pos (show (x.size : Int) ≤ (s.size : Int) by omega)]
      by_cases h1a : 1 ≤ (a : Int)
      · rw [if_pos h1a, if_pos h1a, if_pos (show (a : Int) ≤ (s.size : Int) by omega), show ((a : Int) + 1).toNat = a + 1 by omega, Int.toNat_natCast, Int.toNat_natCast, e1, e2]
      · rw [if_neg h1a, if_neg h1a]
    · rw [if_neg h64, if_neg h64, if_pos (show (0 : Int) ≤ (a : Int) + 1 by omega), if_pos (show (a : Int) + 1 ≤ (x.size : Int) by omega), if_pos (show (x.size : Int) ≤ (s.size : Int) by omega), if_pos (show (0 : Int) ≤ (a : Int) by omega), if_pos (show (a : Int) ≤ (s.size : Int) by omega), show ((a : Int) + 1).toNat = a + 1 by omega, Int.toNat_natCast, Int.toNat_natCast, e1, e3]
  by_cases h64 : bt x 0 = 64
  · have ha1 : 1 ≤ a := by
      rcases Nat.eq_zero_or_pos a with h0 | h0
      · subst h0
        have := (bt_is x 0 (by omega) 64).1 h64
        rw [hat] at this
        cases this
      · exact h0
    have hev : Ev (fun k => graftageref37_one.f k s) (x.extract (a + 1) x.size, (⟨#[]⟩ : ByteArray), x.extract 1 a, decide ((a : Int) > 1)) := hgo _ (Ev.step hj (Ev.congr (f := fun _ => some (x.extract (a + 1) x.size, (⟨#[]⟩ : ByteArray), x.extract 1 a, decide ((a : Int) > 1))) (fun k => by simp only [if_pos h64]; exact if_pos (by omega)) (Ev.now _)))
    by_cases h4 : 2 ≤ a
    · refine ⟨_, hev, ?_, fun r hr => ?_⟩
      · rw [if_pos ⟨h64, h4⟩, decide_eq_true (by omega)]; rfl
      · rw [if_pos ⟨h64, h4⟩] at hr
        rw [← Option.some.inj hr, decide_eq_true (by omega)]
    · have hnid : idOk (x.extract 0 a) = false := by
        unfold idOk
        rw [decide_eq_false (by rw [ext_size _ _ _ (by omega)]; omega), Bool.false_and]
      refine ⟨_, hev, ?_, fun r hr => ?_⟩
      · rw [if_neg (fun h => h4 h.2), hnid, if_neg (by decide), decide_eq_false (by omega)]; rfl
      · rw [if_neg (fun h => h4 h.2), hnid, if_neg (by decide)] at hr; cases hr
  · refine ⟨(x.extract (a + 1) x.size, x.extract 0 a, (⟨#[]⟩ : ByteArray), idOk (x.extract 0 a)), hgo _ (Ev.step hj ?_), ?_, fun r hr => ?_⟩
    · simp only [if_neg h64]; exact Ev.bind (ref_idIs_ev _) (Ev.now _)
    · rw [if_neg (fun h => h64 h.1)]
      by_cases hid : idOk (x.extract 0 a) = true
      · rw [if_pos hid, hid]; rfl
      · have : idOk (x.extract 0 a) = false := by simpa using hid
        rw [if_neg hid, this]; rfl
    · rw [if_neg (fun h => h64 h.1)] at hr
      by_cases hid : idOk (x.extract 0 a) = true
      · rw [if_pos hid] at hr
        rw [← Option.some.inj hr, hid]
      · rw [if_neg hid] at hr; cases hr
end
theorem one_bad (s : ByteArray) (hz : s.size ≤ 140737488351000) (h0 : 0 < s.size) (hb : bt s ((s.size - 1 : Nat) : Int) ≠ 10) : ∃ q, Ev (fun k => graftageref37_one.f k s) q ∧ q.2.2.2 = false := by
  have hF0 := Find_ev s (by omega) 32 0 (by omega)
  have hF0' : Ev (fun k => graftageref14_Find.f k s 32 0) (ixF s.data.toList 32 0) := by exact_mod_cast hF0
  have hT : ∀ i j : Int, Ev (fun k => graftageref37_one.j0 k s i j true) (lnR none) := fun i j => Ev.step (f := fun _ => some (lnR none)) (fun k => by rw [graftageref37_one.j0, if_pos rfl]; rfl) (Ev.now _)
  have hW : wrap64 ((s.size : Int) - 1) = ((s.size - 1 : Nat) : Int) := by rw [wrap_id (by omega) (by omega)]; omega
  refine ⟨lnR none, Ev.bind hF0' ?_, rfl⟩
  rw [hW]
  refine ev_iff (fun h => hT _ _) (fun h => ?_)
  refine Ev.congr (f := fun k => graftageref37_one.j0 k s (ixF s.data.toList 32 0) ((s.size - 1 : Nat) : Int) true) (fun k => by rw [if_pos (by omega), if_pos (by omega), if_neg hb]) (hT _ _)
/-! ### parsing -/
def lineO (p : List UInt8) : Option S55 := if p.getLast? = some 10 then lnO ⟨p.dropLast.toArray⟩ else none
def parR : List (List UInt8) → List S55 → Option (List S55)
  | [], acc => some acc
  | p :: ps, acc => match lineO p with
    | some r => parR ps (acc ++ [r])
    | none => none
theorem lnO_size {x : ByteArray} {r : S55} (h : lnO x = some r) : r.f0.size ≤ x.size ∧ r.f1.size ≤ x.size ∧ r.f2.size ≤ x.size := by
  have hge := Lib.indexByte_ge x.data.toList 32
  unfold lnO at h
  split at h
  · cases h
  · rename_i hc
    simp only [not_or] at hc
    obtain ⟨c1, c2, c3⟩ := hc
    obtain ⟨a, ha⟩ := Int.eq_ofNat_of_zero_le (show 0 ≤ Lib.indexByte x.data.toList 32 by omega)
    have hal : a < x.data.toList.length := (List.getElem?_eq_some_iff.1 (ib_at ha)).1
    rw [← Lib.size_eq] at hal
    rw [ha, Int.toNat_natCast] at h
    split at h
    · rw [← Option.some.inj h]
      exact ⟨by rw [ext_size _ _ _ (Nat.le_refl _)]; omega, Nat.zero_le _, by rw [ext_size _ _ _ (by omega)]; omega⟩
    · split at h
      · rw [← Option.some.inj h]
        exact ⟨by rw [ext_size _ _ _ (Nat.le_refl _)]; omega, by rw [ext_size _ _ _ (by omega)]; omega, Nat.zero_le _⟩
      · cases h
theorem lineO_size {p : List UInt8} {r : S55} (h : lineO p = some r) : r.f0.size ≤ p.length ∧ r.f1.size ≤ p.length ∧ r.f2.size ≤ p.length := by
  unfold lineO at h
  split at h
  · have := lnO_size h
    have e : (⟨p.dropLast.toArray⟩ : ByteArray).size = p.length - 1 := by rw [Lib.size_eq]; simp
    omega
  · cases h
theorem parR_mem (B : Nat) : ∀ (ps : List (List UInt8)) (acc l : List S55), (∀ p ∈ ps, p.length ≤ B) → parR ps acc = some l → l.length = acc.length + ps.length ∧ ∀ r ∈ l, r ∈ acc ∨ (r.f0.size ≤ B ∧ r.f1.size ≤ B ∧ r.f2.size ≤ B)
  | [], acc, l, _, h => by
    rw [parR] at h
    rw [← Option.some.inj h]
    exact ⟨rfl, fun r hr => .inl hr⟩
  | p :: ps, acc, l, hp, h => by
    rw [parR] at h
    split at h
    · rename_i r hr
      obtain ⟨h1, h2⟩ := parR_mem B ps (acc ++ [r]) l (fun q hq => hp q (List.mem_cons_of_mem _ hq)) h
      refine ⟨by rw [h1]; simp; omega, fun y hy => ?_⟩
      rcases h2 y hy with h3 | h3
      · rcases List.mem_append.1 h3 with h4 | h4
        · exact .inl h4
        · rw [List.mem_singleton.1 h4]
          have := lineO_size hr
          have := hp p List.mem_cons_self
          exact .inr (by omega)
      · exact .inr h3
    · cases h
/-- What parsing ends with: the entries, or an error. -/
def Fin (o : Option (List S55)) (q : List S55 × Int) : Prop := match o with
  | none => q = ([], 2)
  | some l => ∃ c, Ev (fun k => refs_Check.f k l) c ∧ Ev (fun k => graftageref37_Check.f k l) c ∧ q = if c = 0 then (l, 0) else ([], c)
theorem Cut_at (s : ByteArray) (hs : s.size ≤ 140737488351232) : strings_Cut.f s ⟨#[10]⟩ = some (if Lib.indexByte s.data.toList 10 = -1 then (s, ⟨#[]⟩, false) else (s.extract 0 (Lib.indexByte s.data.toList 10).toNat, s.extract ((Lib.indexByte s.data.toList 10).toNat + 1) s.size, true)) := by
  unfold strings_Cut.f stringslite_Cut.f
  have hI : stringslite_Index.f s ⟨#[10]⟩ = some (Lib.indexByte s.data.toList 10) := rfl
  rw [hI]
  simp only [Option.bind_some]
  have hge := Lib.indexByte_ge s.data.toList 10
  by_cases h : Lib.indexByte s.data.toList 10 = -1
  · rw [if_neg (by omega), if_pos h]; rfl
  · obtain ⟨a, ha⟩ := Int.eq_ofNat_of_zero_le (show 0 ≤ Lib.indexByte s.data.toList 10 by omega)
    have hal : a < s.data.toList.length := (List.getElem?_eq_some_iff.1 (ib_at ha)).1
    rw [← Lib.size_eq] at hal
    rw [if_neg h, ha, b1, wrap_id (by omega) (by omega), if_pos (by omega), if_pos (by omega), if_pos (by omega), if_pos (by omega), if_pos (by omega), Int.toNat_natCast, show ((a : Int) + ((1 : Nat) : Int)).toNat = a + 1 by omega]
    rfl
theorem Parse_l0 (q : List S55 × Int) : ∀ (d : Nat) (s : ByteArray) (acc : List S55), s.size ≤ d → d + acc.length ≤ 1000000 → Fin (parR (linesL s.data.toList) acc) q → Ev (fun k => refs_Parse.l0 k s acc) q := by
  intro d
  induction d with
  | zero =>
    intro s acc hd hl hq
    have hn : s.data.toList = [] := List.length_eq_zero_iff.1 (by rw [← Lib.size_eq]; omega)
    rw [hn, linesL, parR] at hq
    obtain ⟨c, h1, _, h3⟩ := hq
    refine Ev.step (f := fun k => (refs_Check.f k acc).bind fun t133 => (if t133 = 0 then (some (acc, 0)) else (some (([] : List (S55)), t133)))) (fun k => by rw [refs_Parse.l0, if_pos (by rw [Lib.toList_data]; exact hn)]) (Ev.bind h1 ?_)
    rw [h3]
    exact ev_iff (fun h => by rw [if_pos h]; exact Ev.now _) (fun h => by rw [if_neg h]; exact Ev.now _)
  | succ d ih =>
    intro s acc hd hl hq
    by_cases hn : s.data.toList = []
    · rw [hn, linesL, parR] at hq
      obtain ⟨c, h1, _, h3⟩ := hq
      refine Ev.step (f := fun k => (refs_Check.f k acc).bind fun t133 => (if t133 = 0 then (some (acc, 0)) else (some (([] : List (S55)), t133)))) (fun k => by rw [refs_Parse.l0, if_pos (by rw [Lib.toList_data]; exact hn)]) (Ev.bind h1 ?_)
      rw [h3]
      exact ev_iff (fun h => by rw [if_pos h]; exact Ev.now _) (fun h => by rw [if_neg h]; exact Ev.now _)
    · refine Ev.step (f := fun k => (strings_Cut.f s (⟨#[10]⟩ : ByteArray)).bind fun bt134 => ((refs_line.f k bt134.1).bind fun bt137 => (if bt134.2.2 = true then (if bt137.2.2.2 = true then (if acc.length < 2932031007402 then (refs_Parse.l0 k bt134.2.1 (acc ++ [(⟨bt137.1, bt137.2.1, bt137.2.2.1⟩ : S55)])) else (none)) else (some (([] : List (S55)), 2))) else (some (([] : List (S55)), 2))))) (fun k => by rw [refs_Parse.l0, if_neg (by rw [Lib.toList_data]; exact hn)]) ?_
      rw [Cut_at s (by omega)]
      simp only [Option.bind_some]
      rw [linesL_index _ hn] at hq
      have hge := Lib.indexByte_ge s.data.toList 10
      by_cases hi : Lib.indexByte s.data.toList 10 = -1
      · rw [if_pos hi] at hq
        have hlo : lineO s.data.toList = none := by
          unfold lineO
          rw [if_neg]
          intro h
          exact (ib_mem _ _).1 hi (List.mem_of_getLast? h)
        rw [parR, hlo] at hq
        simp only [if_pos hi]
        refine Ev.bind (line_ev s (by omega)) ?_
        rw [show q = ([], 2) from hq]
        exact Ev.now _
      · rw [if_neg hi] at hq
        simp only [if_neg hi]
        obtain ⟨a, ha⟩ := Int.eq_ofNat_of_zero_le (show 0 ≤ Lib.indexByte s.data.toList 10 by omega)
        have hat := ib_at ha
        have hal : a < s.data.toList.length := (List.getElem?_eq_some_iff.1 hat).1
        have hal' := hal
        rw [← Lib.size_eq] at hal'
        rw [ha] at hq ⊢
        simp only [Int.toNat_natCast, show ((a : Int) + 1).toNat = a + 1 from by omega] at hq ⊢
        have htk : s.data.toList.take (a + 1) = s.data.toList.take a ++ [10] := by
          rw [List.take_succ_eq_append_getElem hal]
          rw [List.getElem?_eq_getElem hal] at hat
          rw [Option.some.inj hat]
        have hlo : lineO (s.data.toList.take (a + 1)) = lnO (s.extract 0 a) := by
          unfold lineO
          rw [htk, List.getLast?_concat, if_pos rfl, List.dropLast_concat]
          congr 1
          apply ba_ext
          rw [Lib.extract_data, List.drop_zero, Nat.sub_zero]
        rw [parR, hlo] at hq
        have hes : (s.extract 0 a).size = a := by rw [ext_size _ _ _ (by omega)]; omega
        refine Ev.bind (line_ev (s.extract 0 a) (by omega)) ?_
        simp only [if_true]
        cases hr : lnO (s.extract 0 a) with
        | none =>
          rw [hr] at hq
          rw [show q = ([], 2) from hq]
          exact Ev.now _
        | some r =>
          rw [hr] at hq
          simp only [lnR, if_true]
          have hdr : (s.extract (a + 1) s.size).data.toList = s.data.toList.drop (a + 1) := by
            rw [Lib.extract_data]; exact List.take_of_length_le (by rw [List.length_drop, ← Lib.size_eq]; omega)
          refine Ev.congr (f := fun k => refs_Parse.l0 k (s.extract (a + 1) s.size) (acc ++ [r])) (fun k => by rw [if_pos (by omega)]) ?_
          exact ih _ _ (by rw [ext_size _ _ _ (Nat.le_refl _)]; omega) (by rw [List.length_append, List.length_singleton]; omega) (by rw [hdr]; exact hq)
theorem refParse_l0 (q : List S55 × Int) (L : List ByteArray) (hL : L.length ≤ 1000000) (hz : ∀ x ∈ L, 0 < x.size ∧ x.size ≤ 1000000) : ∀ (d i : Nat) (acc : List S55), i + d = L.length → acc.length ≤ i → Fin (parR ((L.drop i).map (·.data.toList)) acc) q → Ev (fun k => graftageref37_Parse.l0 k L acc L.length i) q := by
  intro d
  induction d with
  | zero =>
    intro i acc hi ha hq
    rw [List.drop_of_length_le (by omega), List.map_nil, parR] at hq
    obtain ⟨c, _, h2, h3⟩ := hq
    refine Ev.step (f := fun k => (graftageref37_Check.f k acc).bind fun t303 => (if t303 = 0 then (some (acc, 0)) else (some (([] : List (S55)), t303)))) (fun k => by rw [graftageref37_Parse.l0, if_neg (by omega)]) (Ev.bind h2 ?_)
    rw [h3]
    exact ev_iff (fun h => by rw [if_pos h]; exact Ev.now _) (fun h => by rw [if_neg h]; exact Ev.now _)
  | succ d ih =>
    intro i acc hi ha hq
    have hlt : i < L.length := by omega
    obtain ⟨z0, z1⟩ := hz _ (List.getElem_mem hlt)
    rw [List.drop_eq_getElem_cons hlt, List.map_cons, parR] at hq
    have hst : ∀ k, graftageref37_Parse.l0 (k + 1) L acc L.length i = ((graftageref37_one.f k L[i]).bind fun bt295 => (if bt295.2.2.2 = true then (graftageref37_Parse.l0 k L (acc ++ [(⟨bt295.1, bt295.2.1, bt295.2.2.1⟩ : S55)]) L.length ((i : Int) + 1)) else (some (([] : List (S55)), 2)))) := fun k => by
      rw [graftageref37_Parse.l0, if_pos (by omega), if_pos (by omega), if_pos (by omega), rd_ext L i hlt, wrap_id (by omega) (by omega)]
      congr 1
      funext t
      rw [if_pos (show acc.length < 2932031007402 by omega)]
    refine Ev.step hst ?_
    have hl : L[i].data.toList.length = L[i].size := (Lib.size_eq _).symm
    by_cases hlast : L[i].data.toList.getLast? = some 10
    · obtain ⟨y, hy⟩ : ∃ y, L[i].data.toList = y ++ [10] := by
        obtain ⟨ys, hys⟩ := List.getLast?_eq_some_iff.1 hlast
        exact ⟨ys, hys⟩
      have hlo : lineO L[i].data.toList = lnO ⟨y.toArray⟩ := by unfold lineO; rw [if_pos hlast, hy, List.dropLast_concat]
      rw [hlo] at hq
      have hyl : (⟨y.toArray⟩ : ByteArray).size ≤ 140737488351000 := by
        have : L[i].data.toList.length = y.length + 1 := by rw [hy]; simp
        have e : (⟨y.toArray⟩ : ByteArray).size = y.length := by rw [Lib.size_eq]
        omega
      obtain ⟨p, h1, h2, h3⟩ := one_ev L[i] ⟨y.toArray⟩ hyl (by rw [hy])
      refine Ev.bind h1 ?_
      cases hr : lnO ⟨y.toArray⟩ with
      | none =>
        rw [hr] at hq h2
        rw [h2, show q = ([], 2) from hq]
        exact Ev.now _
      | some r =>
        rw [hr] at hq
        rw [h3 r hr]
        simp only [if_true]
        exact_mod_cast ih (i + 1) (acc ++ [r]) (by omega) (by rw [List.length_append, List.length_singleton]; omega) hq
    · have hlo : lineO L[i].data.toList = none := by unfold lineO; rw [if_neg hlast]
      rw [hlo] at hq
      obtain ⟨p, h1, h2⟩ := one_bad L[i] (by omega) z0 (fun hb => hlast (by
        have := (bt_is L[i] (L[i].size - 1) (by omega) 10).1 hb
        rw [List.getLast?_eq_getElem?, hl]; exact this))
      refine Ev.bind h1 ?_
      rw [h2, show q = ([], 2) from hq]
      exact Ev.now _
theorem linesL_ne : ∀ (l : List UInt8), ∀ p ∈ linesL l, p ≠ []
  | [], p, h => by simp [linesL] at h
  | b :: r, p, h => by
    rw [linesL] at h
    split at h
    · rcases List.mem_cons.1 h with h | h
      · rw [h]; simp
      · exact linesL_ne r p h
    · cases hq : linesL r with
      | nil => rw [hq] at h; simp [consH] at h; rw [h]; simp
      | cons a t =>
        rw [hq] at h
        simp only [consH, List.mem_cons] at h
        rcases h with h | h
        · rw [h]; simp
        · exact linesL_ne r p (by rw [hq]; exact List.mem_cons_of_mem _ h)
theorem Parse_both (s : ByteArray) (hs : s.size ≤ 900000) : ∃ q, Ev (fun k => refs_Parse.f k s) q ∧ Ev (fun k => graftageref37_Parse.f k s) q ∧ Fin (parR (linesL s.data.toList) []) q := by
  have hll := linesL_length s.data.toList
  rw [← Lib.size_eq] at hll
  have hls := linesL_size s.data.toList
  have hex : ∃ q, Fin (parR (linesL s.data.toList) []) q := by
    cases hp : parR (linesL s.data.toList) [] with
    | none => exact ⟨([], 2), rfl⟩
    | some l =>
      obtain ⟨h1, h2⟩ := parR_mem s.data.toList.length _ _ _ hls hp
      rw [← Lib.size_eq] at h2
      obtain ⟨c, c1, c2, _⟩ := Check_both l (fun _ x hx => by
        rcases h2 x hx with h | h
        · cases h
        · omega)
      exact ⟨_, c, c1, c2, rfl⟩
  obtain ⟨q, hq⟩ := hex
  refine ⟨q, Parse_l0 q s.size s [] (Nat.le_refl _) (by simp; omega) hq, Ev.bind (ref_Split_ev s (by omega)) ?_, hq⟩
  have hlen := linesB_length s
  have hne : ∀ x ∈ linesB s, 0 < x.size := fun x hx => by
    have : x.data.toList ∈ linesL s.data.toList := by rw [← linesB_data]; exact List.mem_map_of_mem hx
    have := linesL_ne _ _ this
    rw [Lib.size_eq]
    exact List.length_pos_iff.2 this
  have := refParse_l0 q (linesB s) (by omega) (fun x hx => ⟨hne x hx, by have := linesB_size s x hx; omega⟩) (linesB s).length 0 [] (by omega) (by simp) (by rw [List.drop_zero, linesB_data]; exact hq)
  exact_mod_cast this
theorem fin_zero {o : Option (List S55)} {q : List S55 × Int} (h : Fin o q) (h0 : q.2 = 0) : ∃ l, o = some l ∧ q.1 = l ∧ Ev (fun k => refs_Check.f k l) 0 := by
  cases o with
  | none => rw [show q = ([], 2) from h] at h0; cases h0
  | some l =>
    obtain ⟨c, h1, _, h3⟩ := h
    by_cases hc : c = 0
    · rw [if_pos hc] at h3
      exact ⟨l, rfl, by rw [h3], hc ▸ h1⟩
    · rw [if_neg hc] at h3
      rw [h3] at h0
      exact absurd h0 hc
theorem fin_err {o : Option (List S55)} {q : List S55 × Int} (h : Fin o q) (h0 : q.2 ≠ 0) : q.1 = [] := by
  cases o with
  | none => rw [show q = ([], 2) from h]
  | some l =>
    obtain ⟨c, h1, _, h3⟩ := h
    by_cases hc : c = 0
    · rw [if_pos hc] at h3; rw [h3] at h0; exact absurd rfl h0
    · rw [if_neg hc] at h3; rw [h3]
end Go.Proofs.YtccbpbdfihnlgaaDoor.Q


/- Refs: RefsBack. -/
namespace Go.Proofs.YtccbpbdfihnlgaaDoor.Q
open Go.RowKit Go.Proofs.YtccbpbdfihnlgaaDoorW.PrintWords Go.Proofs.YtccbpbdfihnlgaaDoorW.PrintLast Go.Proofs.YtccbpbdfihnlgaaDoorW.PrintMore
theorem ev_uniq {α : Type} {g : Nat → Option α} {a b : α} (h : Ev g a) (k : Ev g b) : a = b := by
  obtain ⟨K1, h1⟩ := h
  obtain ⟨K2, h2⟩ := k
  have e1 := h1 (max K1 K2) (Nat.le_max_left _ _)
  have e2 := h2 (max K1 K2) (Nat.le_max_right _ _)
  rw [e1] at e2
  exact Option.some.inj e2
def encL (r : S55) : List UInt8 := (encR r).data.toList
theorem encL_id {r : S55} (h : r.f2.toList = []) : encL r = (r.f1.data.toList ++ 32 :: r.f0.data.toList) ++ [10] := by
  unfold encL encR
  rw [if_pos h]
  simp
theorem encL_sym {r : S55} (h : r.f2.toList ≠ []) : encL r = (64 :: r.f2.data.toList ++ 32 :: r.f0.data.toList) ++ [10] := by
  unfold encL encR
  rw [if_neg h]
  simp
theorem textF_data (l : List S55) : ∀ (d i : Nat) (acc : ByteArray), i + d = l.length → (textF l d i acc).data.toList = acc.data.toList ++ (l.drop i).flatMap encL
  | 0, i, acc, h => by rw [textF, List.drop_of_length_le (by omega)]; simp
  | d + 1, i, acc, h => by
    rw [textF, textF_data l d (i + 1) _ (by omega), List.drop_eq_getElem_cons (show i < l.length by omega), List.flatMap_cons, at55_get _ _ (show i < l.length by omega), append_data, List.append_assoc]
    rfl
theorem textF_size (l : List S55) (hc : ∀ r ∈ l, chkR r = 0) : (textF l l.length 0 ⟨#[]⟩).size ≤ l.length * 600 := by
  rw [Lib.size_eq, textF_data l l.length 0 _ (by omega), List.drop_zero, List.length_append]
  have : ∀ m : List S55, (∀ r ∈ m, chkR r = 0) → (m.flatMap encL).length ≤ m.length * 600 := by
    intro m
    induction m with
    | nil => simp
    | cons a m ih =>
      intro h
      have h1 := encR_size (h a List.mem_cons_self)
      have h2 := ih (fun r hr => h r (List.mem_cons_of_mem _ hr))
      rw [Lib.size_eq] at h1
      rw [List.flatMap_cons, List.length_append, List.length_cons]
      unfold encL
      unfold encL at h2
      omega
  have := this l hc
  rw [show (⟨#[]⟩ : ByteArray).data.toList = [] from rfl, List.length_nil]
  omega
theorem linesL_line : ∀ (y r : List UInt8), (10 : UInt8) ∉ y → linesL (y ++ 10 :: r) = (y ++ [10]) :: linesL r
  | [], r, _ => by rw [List.nil_append, linesL, if_pos rfl]; rfl
  | b :: y, r, h => by
    simp only [List.mem_cons, not_or] at h
    rw [List.cons_append, linesL, if_neg (fun e => h.1 e.symm), linesL_line y r h.2]
    rfl
theorem linesL_flat : ∀ l : List UInt8, (linesL l).flatten = l
  | [] => rfl
  | b :: r => by
    have ih := linesL_flat r
    rw [linesL]
    split
    · rename_i h; rw [List.flatten_cons, ih, h]; rfl
    · cases hq : linesL r with
      | nil => rw [hq] at ih; simp at ih; simp [consH, ih.symm]
      | cons a t => rw [hq] at ih; simp only [consH, List.flatten_cons] at ih ⊢; rw [← ih]; rfl
theorem ib_mid : ∀ (l r : List UInt8) (c : UInt8), c ∉ l → Lib.indexByte (l ++ c :: r) c = l.length
  | [], r, c, _ => by simp [Lib.indexByte]
  | b :: l, r, c, h => by
    simp only [List.mem_cons, not_or] at h
    rw [List.cons_append, Lib.indexByte, if_neg (by simpa using fun e => h.1 e.symm), ib_mid l r c h.2, if_neg (by rw [beq_iff_eq]; omega), List.length_cons]
    omega
theorem dv_high : ∀ n : _root_.Fin 256, 0 ≤ dv (n.val : Int) → 32 < n.val ∧ n.val ≠ 64 := by decide +kernel
theorem idOk_high {s : ByteArray} (h : idOk s = true) : ∀ b ∈ s.data.toList, 32 < b.toNat ∧ b.toNat ≠ 64 := by
  have h40 := idOk_size h
  intro b hb
  obtain ⟨j, hj, rfl⟩ := List.mem_iff_getElem.1 hb
  have hj' : j < s.size := by rw [Lib.size_eq]; exact hj
  have hd := idOk_dv h j (by omega)
  rw [bt_get s j hj'] at hd
  exact dv_high ⟨(s.data.toList[j]).toNat, UInt8.toNat_lt _⟩ hd
/-- What a line's two halves tell. -/
theorem lnO_of (x : ByteArray) (t n : List UInt8) (hx : x.data.toList = t ++ 32 :: n) (ht : (32 : UInt8) ∉ t) (hn : (32 : UInt8) ∉ n) (hne : n ≠ []) :
    lnO x = if bt x 0 = 64 ∧ 2 ≤ t.length then some ⟨⟨n.toArray⟩, ⟨#[]⟩, ⟨(t.drop 1).toArray⟩⟩ else if idOk ⟨t.toArray⟩ = true then some ⟨⟨n.toArray⟩, ⟨t.toArray⟩, ⟨#[]⟩⟩ else none := by
  have hi : Lib.indexByte x.data.toList 32 = (t.length : Int) := by rw [hx]; exact ib_mid t n 32 ht
  have hl : x.size = t.length + 1 + n.length := by rw [Lib.size_eq, hx]; simp; omega
  have hnl := List.length_pos_iff.2 hne
  have hd : x.data.toList.drop (t.length + 1) = n := by rw [hx, ← List.drop_drop, List.drop_left' rfl]; rfl
  have hc : (n.contains 32) = false := by rw [← Bool.not_eq_true, List.contains_iff_mem]; exact hn
  unfold lnO
  rw [hi, Int.toNat_natCast, hd, hc, if_neg (by simp; omega)]
  have e1 : x.extract (t.length + 1) x.size = ⟨n.toArray⟩ := by
    apply ba_ext
    rw [Lib.extract_data, hd, List.take_of_length_le (by omega)]
  have e2 : x.extract 1 t.length = ⟨(t.drop 1).toArray⟩ := by
    apply ba_ext
    rw [Lib.extract_data, hx]
    show List.take (t.length - 1) (List.drop 1 (t ++ 32 :: n)) = t.drop 1
    cases t with
    | nil => simp
    | cons a t => simp
  have e3 : x.extract 0 t.length = ⟨t.toArray⟩ := by
    apply ba_ext
    rw [Lib.extract_data, hx, List.drop_zero, Nat.sub_zero, List.take_left' rfl]
  rw [e1, e2, e3]
theorem lnO_valid {r : S55} (h : chkR r = 0) : ∃ y : List UInt8, encL r = y ++ [10] ∧ (10 : UInt8) ∉ y ∧ lnO ⟨y.toArray⟩ = some r := by
  obtain ⟨hn, hw⟩ := chkR_zero h
  have hnh := nameB_high hn
  have hno : ∀ c : UInt8, c.toNat ≤ 32 → c ∉ r.f0.data.toList := fun c hc hm => by have := hnh c hm; omega
  have hne : r.f0.data.toList ≠ [] := fun e => by
    have := nameB_nil (s := r.f0) (by rw [Lib.toList_data]; exact e)
    rw [this] at hn; cases hn
  have hn0 : (⟨r.f0.data.toList.toArray⟩ : ByteArray) = r.f0 := ba_ext (by simp)
  rcases whole_cases hw with ⟨h2, hid⟩ | ⟨h2, h1, hs⟩
  · have hih := idOk_high hid
    have hio : ∀ c : UInt8, c.toNat ≤ 32 → c ∉ r.f1.data.toList := fun c hc hm => by have := hih c hm; omega
    have h40 := idOk_size hid
    refine ⟨_, encL_id h2, ?_, ?_⟩
    · simp only [List.mem_append, List.mem_cons, not_or]
      exact ⟨hio 10 (by decide), by decide, hno 10 (by decide)⟩
    · rw [lnO_of _ r.f1.data.toList r.f0.data.toList rfl (hio 32 (by decide)) (hno 32 (by decide)) hne]
      have hf1 : (⟨r.f1.data.toList.toArray⟩ : ByteArray) = r.f1 := ba_ext (by simp)
      have hl1 : r.f1.data.toList.length = 40 := by rw [← Lib.size_eq]; exact h40
      rw [if_neg, hf1, if_pos hid, hn0]
      · have := nil_is h2
        cases r
        simp_all
      · rintro ⟨h64, _⟩
        have hs0 : 0 < (⟨(r.f1.data.toList ++ 32 :: r.f0.data.toList).toArray⟩ : ByteArray).size := by rw [Lib.size_eq]; simp; omega
        have := (bt_is _ 0 hs0 64).1 h64
        have h0 : (r.f1.data.toList ++ 32 :: r.f0.data.toList)[0]? = some 64 := this
        rw [List.getElem?_append_left (by omega)] at h0
        exact (hih 64 (List.mem_of_getElem? h0)).2 rfl
  · have hsh := nameB_high hs
    have hso : ∀ c : UInt8, c.toNat ≤ 32 → c ∉ r.f2.data.toList := fun c hc hm => by have := hsh c hm; omega
    refine ⟨_, encL_sym h2, ?_, ?_⟩
    · simp only [List.cons_append, List.mem_append, List.mem_cons, not_or]
      exact ⟨by decide, hso 10 (by decide), by decide, hno 10 (by decide)⟩
    · have ht : (32 : UInt8) ∉ (64 :: r.f2.data.toList) := by
        simp only [List.mem_cons, not_or]
        exact ⟨by decide, hso 32 (by decide)⟩
      rw [lnO_of _ (64 :: r.f2.data.toList) r.f0.data.toList rfl ht (hno 32 (by decide)) hne]
      have hf2 : (⟨((64 :: r.f2.data.toList).drop 1).toArray⟩ : ByteArray) = r.f2 := ba_ext (by simp)
      have hl2 : r.f2.data.toList ≠ [] := by rw [← Lib.toList_data]; exact h2
      have := List.length_pos_iff.2 hl2
      rw [if_pos, hf2, hn0]
      · have := nil_is h1
        cases r
        simp_all
      · refine ⟨(bt_is _ 0 (by rw [Lib.size_eq]; simp) 64).2 rfl, by rw [List.length_cons]; omega⟩
theorem parR_enc : ∀ (m acc : List S55), (∀ r ∈ m, chkR r = 0) → parR (linesL (m.flatMap encL)) acc = some (acc ++ m)
  | [], acc, _ => by simp [linesL, parR]
  | r :: m, acc, h => by
    obtain ⟨y, h1, h2, h3⟩ := lnO_valid (h r List.mem_cons_self)
    rw [List.flatMap_cons, h1, List.append_assoc, List.singleton_append, linesL_line y _ h2, parR]
    have : lineO (y ++ [10]) = some r := by
      unfold lineO
      rw [List.getLast?_concat, if_pos rfl, List.dropLast_concat]
      exact h3
    rw [this]
    simp only
    rw [parR_enc m (acc ++ [r]) (fun q hq => h q (List.mem_cons_of_mem _ hq))]
    simp
theorem lnO_enc {x : ByteArray} {r : S55} (h : lnO x = some r) : encL r = x.data.toList ++ [10] := by
  have hge := Lib.indexByte_ge x.data.toList 32
  have hl : x.data.toList.length = x.size := (Lib.size_eq x).symm
  unfold lnO at h
  split at h
  · cases h
  · rename_i hc
    simp only [not_or] at hc
    obtain ⟨c1, c2, c3⟩ := hc
    obtain ⟨a, ha⟩ := Int.eq_ofNat_of_zero_le (show 0 ≤ Lib.indexByte x.data.toList 32 by omega)
    have hat := ib_at ha
    have hal : a < x.data.toList.length := (List.getElem?_eq_some_iff.1 hat).1
    rw [ha, Int.toNat_natCast] at h
    have hname : (x.extract (a + 1) x.size).data.toList = x.data.toList.drop (a + 1) := by
      rw [Lib.extract_data]; exact List.take_of_length_le (by rw [List.length_drop]; omega)
    have hx : x.data.toList = x.data.toList.take a ++ 32 :: x.data.toList.drop (a + 1) := by
      conv => lhs; rw [← List.take_append_drop a x.data.toList, List.drop_eq_getElem_cons hal]
      rw [List.getElem?_eq_getElem hal] at hat
      rw [Option.some.inj hat]
    split at h
    · rename_i h64
      have hr := (Option.some.inj h).symm
      have hsym : (x.extract 1 a).data.toList = (x.data.toList.take a).drop 1 := by
        rw [Lib.extract_data, List.drop_take]
      have h0 := (bt_is x 0 (by omega) 64).1 h64.1
      have htk : x.data.toList.take a = 64 :: (x.data.toList.take a).drop 1 := by
        have hlt : 0 < (x.data.toList.take a).length := by rw [List.length_take]; omega
        have e := List.drop_eq_getElem_cons hlt
        rw [List.drop_zero] at e
        rw [List.getElem?_eq_getElem (by omega)] at h0
        rw [List.getElem_take, Option.some.inj h0] at e
        exact e
      have hne : r.f2.toList ≠ [] := by
        rw [hr, Lib.toList_data]
        show (x.extract 1 a).data.toList ≠ []
        rw [hsym]
        intro e
        have : ((x.data.toList.take a).drop 1).length = 0 := by rw [e]; rfl
        rw [List.length_drop, List.length_take] at this
        omega
      rw [encL_sym hne, hr]
      show (64 :: (x.extract 1 a).data.toList ++ 32 :: (x.extract (a + 1) x.size).data.toList) ++ [10] = _
      rw [hsym, hname, ← htk, ← hx]
    · split at h
      · have hr := (Option.some.inj h).symm
        have hid : (x.extract 0 a).data.toList = x.data.toList.take a := by rw [Lib.extract_data, List.drop_zero, Nat.sub_zero]
        have h2 : r.f2.toList = [] := by rw [hr, Lib.toList_data]
        rw [encL_id h2, hr]
        show ((x.extract 0 a).data.toList ++ 32 :: (x.extract (a + 1) x.size).data.toList) ++ [10] = _
        rw [hid, hname, ← hx]
      · cases h
theorem parR_flat : ∀ (ps : List (List UInt8)) (acc l : List S55), parR ps acc = some l → ∃ t, l = acc ++ t ∧ t.flatMap encL = ps.flatten
  | [], acc, l, h => by
    rw [parR] at h
    exact ⟨[], by rw [← Option.some.inj h]; simp, rfl⟩
  | p :: ps, acc, l, h => by
    rw [parR] at h
    split at h
    · rename_i r hr
      obtain ⟨t, h1, h2⟩ := parR_flat ps (acc ++ [r]) l h
      refine ⟨r :: t, by rw [h1]; simp, ?_⟩
      rw [List.flatMap_cons, List.flatten_cons, h2]
      congr 1
      unfold lineO at hr
      split at hr
      · rename_i hlast
        obtain ⟨ys, hys⟩ := List.getLast?_eq_some_iff.1 hlast
        rw [lnO_enc hr, hys, List.dropLast_concat]
      · cases hr
    · cases h
theorem RefsBack_ev (l : List S55) (s : ByteArray) (hs : ∀ x ∈ l, x.f0.size ≤ 140737488351232 ∧ x.f1.size ≤ 140737488351232 ∧ x.f2.size ≤ 140737488351232) (hn : l.length ≤ 140737488351232) (hz : s.size ≤ 140737488351232) : Ev (fun k => graftagelaw37_RefsBack.f k l s) true := by
  have hT : Ev (fun k => graftagelaw37_RefsBack.j0 k l s true) true :=
    Ev.step (f := fun k => (graftagelaw37_lives.f k).bind fun t => some t) (fun k => by rw [graftagelaw37_RefsBack.j0, if_pos rfl]) liveOr37
  refine Ev.bind (Few_ev l hs hn) (ev_iff (fun h => ?_) (fun h => hT))
  by_cases hb : (s.size : Int) > 3000
  · rw [decide_eq_true hb]; exact hT
  rw [decide_eq_false hb]
  have hsz := fewR_size h
  have hlen := (few_of l l.length 0 (by omega) h).1
  have hJ : Ev (fun k => graftagelaw37_RefsBack.j1 k s) true := by
    obtain ⟨p, p1, _, p3⟩ := Parse_both s (by omega)
    refine Ev.step (f := ?_) (fun k => by rw [graftagelaw37_RefsBack.j1]) ?_
    refine Ev.bind p1 (ev_iff (fun h0 => ?_) (fun h0 => ?_))
    · obtain ⟨m, m1, m2, m3⟩ := fin_zero p3 h0
      obtain ⟨n1, n2⟩ := parR_mem s.data.toList.length _ _ _ (linesL_size s.data.toList) m1
      rw [← Lib.size_eq] at n2
      rw [m2]
      obtain ⟨q, t1, _, t3, t4⟩ := Text_both m (fun _ x hx => by
        rcases n2 x hx with hh | hh
        · cases hh
        · omega)
      have hq0 : q.2 = 0 := ev_uniq t3 m3
      refine Ev.bind t1 ?_
      simp only [hq0, if_true]
      obtain ⟨e1, _, _⟩ := t4 hq0
      obtain ⟨t, f1, f2⟩ := parR_flat _ _ _ m1
      rw [List.nil_append] at f1
      have : q.1.toList = s.toList := by
        rw [e1, Lib.toList_data, Lib.toList_data, textF_data m m.length 0 _ (by omega), List.drop_zero, f1, f2, linesL_flat]
        rfl
      simp only [this, if_true]
      exact liveOr37
    · rw [fin_err p3 h0]
      simp only [List.length_nil]
      exact liveOr37
  obtain ⟨q, t1, _, t3, t4⟩ := Text_both l (fun _ x hx => by have := hsz x hx; omega)
  refine Ev.step (f := ?_) (fun k => by rw [graftagelaw37_RefsBack.j0, if_neg (by decide)]) ?_
  refine Ev.bind t1 (ev_iff (fun h0 => ?_) (fun h0 => hJ))
  obtain ⟨e1, e2, e3⟩ := t4 h0
  have hts := textF_size l e3
  rw [← e1] at hts
  obtain ⟨p, p1, _, p3⟩ := Parse_both q.1 (by omega)
  have hpar : parR (linesL q.1.data.toList) [] = some l := by
    rw [e1, textF_data l l.length 0 _ (by omega), List.drop_zero]
    have := parR_enc l [] e3
    simpa using this
  rw [hpar] at p3
  obtain ⟨c, c1, _, c3⟩ := p3
  have hc0 : c = 0 := ev_uniq c1 (h0 ▸ t3)
  rw [if_pos hc0] at c3
  refine Ev.bind p1 ?_
  rw [c3]
  simp only [if_true]
  refine Ev.bind (Same55_ev l (by omega)) ?_
  simp only [if_true]
  exact hJ
end Go.Proofs.YtccbpbdfihnlgaaDoor.Q


/- RefsBack, over plain lists and numbers. -/
namespace Go.Proofs.YtccbpbdfihnlgaaDoor.Pure
open Go.Proofs.YtccbpbdfihnlgaaDoor.Q Go.Proofs.YtccbpbdfihnlgaaDoorW.PrintWords

theorem RefsBack : ∀ (y0 : List (S55)), ∀ (y1 : ByteArray), (y0.length * 48 ≤ 140737488351232 ∧ ∀ y_y0 ∈ y0, (y_y0.f0.size ≤ 140737488351232 ∧ y_y0.f1.size ≤ 140737488351232 ∧ y_y0.f2.size ≤ 140737488351232)) → y1.size ≤ 140737488351232 → ∃ k, graftagelaw37_RefsBack.f k y0 y1 = some true :=
  fun y0 y1 h h1 => (RefsBack_ev y0 y1 h.2 (by omega) h1).rounds

end Go.Proofs.YtccbpbdfihnlgaaDoor.Pure


/- What a law's argument reads as (numbers, bools, strings, structs, slices, nested) opens into the printed kinds, with the reach's bounds; for the rows of this seat. -/
namespace Go.Proofs.YtccbpbdfihnlgaaDoor.Ro
open Go.RowKit Go.Deep Go.Proofs.YtccbpbdfihnlgaaDoorW.PrintWords

/-- What a reading of type t by the form tells in the words of kind d; S: the bounds. -/
def Opens (P : Program) (t : TypeId) {α : Type} (d : Kd α) (S : α → Prop) : Prop :=
  ∀ {H : Type} (enc : TypeId × Value → H) (w : World) (fuel : Nat) (cs : List Value) (x : DataW H × List MemPlace),
    DataW.trod enc P w 0 (fun _ => true) true fuel t cs = some x → (∀ n ∈ DataW.weights P t x.1, n ≤ reachBytes) → ∃ y : α, d.K w y cs ∧ S y

section
variable {P : Program} {t e : TypeId}

theorem Opens.int {k : IntKind} (ht : P.underlying t = some (.int k)) : Opens P t (Kd.int k) (fun y => (Lit.int k y).wf = true) := by
  intro H enc w fuel cs x h _
  obtain ⟨n, rfl, rfl, hw⟩ := DataW.trod_int ht h
  exact ⟨n, rfl, hw⟩

theorem Opens.bool (ht : P.underlying t = some .bool) : Opens P t Kd.bool (fun _ => True) := by
  intro H enc w fuel cs x h _
  obtain ⟨b, rfl, rfl⟩ := DataW.trod_bool ht h
  exact ⟨b, rfl, trivial⟩

theorem Opens.string (ht : P.underlying t = some .string) : Opens P t Kd.string (fun y => y.size ≤ 140737488351232) := by
  intro H enc w fuel cs x h hn
  obtain ⟨s, rfl, rfl, _⟩ := DataW.trod_string ht h
  refine ⟨s, rfl, ?_⟩
  have := hn s.data.toList.length (by simp [DataW.weights])
  simpa [reachBytes] using this

theorem choose_list {α : Type} {n : Nat} {p : Nat → α → Prop} (h : ∀ i, i < n → ∃ y, p i y) : ∃ l : List α, l.length = n ∧ ∀ i y, l[i]? = some y → p i y := by
  induction n with
  | zero => exact ⟨[], rfl, fun i y hy => by simp at hy⟩
  | succ n ih =>
    obtain ⟨l, hl, hp⟩ := ih (fun i hi => h i (by omega))
    obtain ⟨y, hy⟩ := h n (by omega)
    refine ⟨l ++ [y], by simp [hl], fun i z hz => ?_⟩
    rcases Nat.lt_or_ge i l.length with hi | hi
    · rw [List.getElem?_append_left hi] at hz
      exact hp i z hz
    · rw [List.getElem?_append_right hi] at hz
      have : i - l.length = 0 := by
        have := (List.getElem?_eq_some_iff.1 hz).1
        simpa using this
      rw [this] at hz
      have h1 : i = n := by omega
      subst h1
      have : y = z := by simpa using hz
      subst this
      exact hy

theorem weightsAll_mem {H : Type} {e : TypeId} : ∀ {l : List (DataW H)} {d : DataW H}, d ∈ l → ∀ n ∈ d.weights P e, n ∈ DataW.weightsAll P e l
  | a :: l, d, hd, n, hn => by
    simp only [DataW.weightsAll, List.mem_append]
    rcases List.mem_cons.1 hd with rfl | hd
    · exact .inl hn
    · exact .inr (weightsAll_mem hd n hn)

theorem Opens.slice {α : Type} {d : Kd α} {S : α → Prop} {b : Nat} (ht : P.underlying t = some (.slice e)) (hc : P.cellsOf e = d.sz) (hb : P.bytesOf e = b) (h : Opens P e d S) :
    Opens P t (Kd.slice e d) (fun l => l.length * b ≤ 140737488351232 ∧ ∀ y ∈ l, S y) := by
  intro H enc w fuel cs x hx hn
  rcases open_slice ht hx with ⟨rfl, rfl⟩ | ⟨a, len, cap, m, n, D, Pl, rfl, _, hl, hm, hmm, rfl, hall⟩
  · exact ⟨[], ⟨none, 0, rfl, Nat.le_refl _, rfl, by simp, fun h => absurd h (by simp)⟩, by simp, by simp⟩
  · simp only [if_true] at hmm
    obtain rfl : m = cap := hmm
    have hel : ∀ i, i < len → ∃ y : α, (∃ cs', w.cells? 0 (a.add (i * P.cellsOf e)) (P.cellsOf e) = some cs' ∧ d.K w y cs') ∧ S y := by
      intro i hi
      obtain ⟨cs', h1, h2⟩ := hall i (by omega)
      obtain ⟨y, hy, hs⟩ := h enc w n cs' _ h2 (fun k hk => hn k (by
        simp only [DataW.weights, ht, List.mem_cons, List.mem_append]
        exact .inr (.inl (weightsAll_mem (List.mem_map.2 ⟨i, List.mem_range.2 hi, rfl⟩) k hk))))
      exact ⟨y, ⟨cs', h1, hy⟩, hs⟩
    obtain ⟨l, hll, hp⟩ := choose_list hel
    subst hll
    have hw : (l.length + (m - l.length)) * b ≤ reachBytes := by
      have := hn _ (by simp only [DataW.weights, ht, List.mem_cons]; exact .inl rfl)
      simpa [hb] using this
    refine ⟨l, ⟨some a, m, rfl, hl, rfl, by unfold maxLen at hm; omega, fun _ => ⟨a, rfl, fun j p hj => ?_⟩⟩, ?_, fun y hy => ?_⟩
    · obtain ⟨⟨cs', h1, hk⟩, _⟩ := hp j p hj
      obtain ⟨_, hlen, hcell⟩ := World.cells?_some h1
      refine ⟨cs', by rw [hlen, hc], hk, fun i u hu => ?_⟩
      have hi : i < P.cellsOf e := by
        have := (List.getElem?_eq_some_iff.1 hu).1
        omega
      have := hcell i hi
      rw [Go.Deep.add_add, hu, hc] at this
      exact this
    · have : l.length * b ≤ (l.length + (m - l.length)) * b := Nat.mul_le_mul_right _ (by omega)
      simp only [reachBytes] at hw
      omega
    · obtain ⟨j, hj⟩ := List.mem_iff_getElem?.1 hy
      exact (hp j y hj).2

/-- The fields from one on, in line. -/
def OpensF (P : Program) (fs : List Field) (o : Nat) {α : Type} (d : Kd α) (S : α → Prop) : Prop :=
  ∀ {H : Type} (enc : TypeId × Value → H) (w : World) (n : Nat) (cs : List Value) (ys : List (DataW H × List MemPlace)),
    (∀ (i : Nat) (f : Field), fs[i]? = some f → DataW.trod enc P w 0 (fun _ => true) true n f.type ((cs.drop f.offset).take (P.cellsOf f.type)) = ys[i]?) → ys.length = fs.length →
    (∀ k ∈ DataW.weightsEach P (fs.map (·.type)) (ys.map (·.1)), k ≤ reachBytes) → cs.length = o + d.sz → ∃ y : α, d.K w y (cs.drop o) ∧ S y

theorem OpensF.one {α : Type} {f : Field} {o : Nat} {d : Kd α} {S : α → Prop} (ho : f.offset = o) (hc : P.cellsOf f.type = d.sz) (h : Opens P f.type d S) : OpensF P [f] o d S := by
  intro H enc w n cs ys hf hl hw hlen
  match ys, hl with
  | [y], _ =>
    have h1 := hf 0 f rfl
    rw [ho, hc, List.take_of_length_le (by rw [List.length_drop]; omega)] at h1
    exact h enc w n _ y h1 (fun k hk => hw k (by simp [DataW.weightsEach, hk]))

theorem OpensF.cons {α β : Type} {f : Field} {fs : List Field} {o o' : Nat} {d : Kd α} {d' : Kd β} {S : α → Prop} {S' : β → Prop} (ho : f.offset = o) (hc : P.cellsOf f.type = d.sz) (ho' : o + d.sz = o')
    (h : Opens P f.type d S) (h' : OpensF P fs o' d' S') : OpensF P (f :: fs) o (Kd.pair d d') (fun z => S z.1 ∧ S' z.2) := by
  intro H enc w n cs ys hf hl hw hlen
  match ys, hl with
  | y :: ys, hl =>
    have h1 := hf 0 f rfl
    rw [ho, hc] at h1
    have hlen' : cs.length = o + (d.sz + d'.sz) := hlen
    obtain ⟨a, ha, hs⟩ := h enc w n _ y h1 (fun k hk => hw k (by simp only [List.map_cons, DataW.weightsEach, List.mem_append]; exact .inl hk))
    obtain ⟨b, hb, hs'⟩ := h' enc w n cs ys (fun i g hg => hf (i + 1) g (by simpa using hg)) (by simpa using hl) (fun k hk => hw k (by simp only [List.map_cons, DataW.weightsEach, List.mem_append]; exact .inr hk)) (by omega)
    refine ⟨(a, b), ⟨_, _, ?_, ha, hb⟩, hs, hs'⟩
    rw [← ho', ← List.drop_drop, List.take_append_drop]

theorem Opens.struct {α β : Type} {fs : Array Field} {d : Kd α} {S : α → Prop} {f : β → α} {g : α → β} (ht : P.underlying t = some (.struct fs)) (hc : P.cellsOf t = d.sz) (hfg : ∀ a, f (g a) = a) (h : OpensF P fs.toList 0 d S) :
    Opens P t (Kd.iso d f) (fun y => S (f y)) := by
  intro H enc w fuel cs x hx hn
  obtain ⟨xs, n, _, rfl, hl, hlen, hf⟩ := DataW.trod_struct ht hx
  obtain ⟨a, ha, hs⟩ := h enc w n cs xs (fun i q hq => hf i q (by simpa using hq)) (by simpa using hlen) (fun k hk => hn k (by simpa [DataW.weights, ht] using hk)) (by rw [hl, hc]; omega)
  refine ⟨g a, ?_, by show S (f (g a)); rw [hfg]; exact hs⟩
  show d.K w (f (g a)) cs
  rw [hfg]
  simpa using ha

theorem Opens.imp {α : Type} {d : Kd α} {S S' : α → Prop} (h : Opens P t d S) (hS : ∀ y, S y → S' y) : Opens P t d S' := by
  intro H enc w fuel cs x hx hn
  obtain ⟨y, hy, hs⟩ := h enc w fuel cs x hx hn
  exact ⟨y, hy, hS y hs⟩

/-- An argument: its cells, told. -/
theorem Opens.arg {H : Type} {enc : TypeId × Value → H} {α : Type} {d : Kd α} {S : α → Prop} {w : World} {ts : List TypeId} {ds : List (DataW H)} {j : Nat} {v : Value} {dd : DataW H} {ps : List MemPlace} (h : Opens P t d S)
    (hz : (DataW.weightsEach P ts ds).all (· ≤ reachBytes) = true) (ht : ts[j]? = some t) (hd : ds[j]? = some dd) (hv : DataW.Trod enc P w 0 (fun _ => true) true t v dd ps) : ∃ y : α, d.K w y v.cells.toList ∧ S y := by
  obtain ⟨fuel, hf⟩ := hv
  exact h enc w fuel _ (dd, ps) hf (fun n hn => by simpa using List.all_eq_true.1 hz n (DataW.weights_mem_each ht hd n hn))

theorem arg_lt {H : Type} {enc : TypeId × Value → H} {w : World} {v : Value} {dd : DataW H} {ps : List MemPlace} (hv : DataW.Trod enc P w 0 (fun _ => true) true t v dd ps) : ∀ x ∈ ps, x.block < w.heap.size := by
  obtain ⟨m, hm⟩ := hv
  exact DataW.trod_lt m _ _ _ hm
end
end Go.Proofs.YtccbpbdfihnlgaaDoor.Ro


/- The law RefsBack holds: for every input it returns true, and each argument reads afterwards as it read before. -/
namespace Go.Proofs.YtccbpbdfihnlgaaDoor.refsBack
open Go.ChangeShapes Go.WideShapes Go.ChangeAt Go.RowKit Go.Proofs.YtccbpbdfihnlgaaDoor.Ro Go.Proofs.YtccbpbdfihnlgaaDoor.Q Go.Proofs.YtccbpbdfihnlgaaDoorW.PrintWords
open Go.ChangeMaps (open_string shut_string)
theorem own : ownKnob Tryd.prog.godebug = none := by kernel_rfl
theorem laidOut : laidOutB Tryd.prog = true := by kernel_rfl
theorem opens9 : Opens Tryd.prog 9 Kd.string (fun y => y.size ≤ 140737488351232) := (Opens.string Tryd.underlying9)
theorem opens43 : Opens Tryd.prog 43 (Kd.slice 55 k55) (fun y => (y.length * 48 ≤ 140737488351232 ∧ ∀ y_y ∈ y, (y_y.f0.size ≤ 140737488351232 ∧ y_y.f1.size ≤ 140737488351232 ∧ y_y.f2.size ≤ 140737488351232))) := (Opens.slice Tryd.underlying43 (by kernel_rfl) (by kernel_rfl) (Opens.struct (f := (fun x : S55 => (x.f0, x.f1, x.f2))) (g := (fun a => (⟨a.1, a.2.1, a.2.2⟩ : S55))) Tryd.underlying55 (by kernel_rfl) (fun _ => rfl) (OpensF.cons rfl (by kernel_rfl) rfl (Opens.string Tryd.underlying9) (OpensF.cons rfl (by kernel_rfl) rfl (Opens.string Tryd.underlying9) (OpensF.one rfl (by kernel_rfl) (Opens.string Tryd.underlying9))))))
set_option maxRecDepth 100000 in
theorem lifted (os : Os) (started : os.Started) (H : Type) (enc : TypeId × Value → H) :
    ReturnsInHanded {} Tryd.checked os 11 .any (fun w args => (Rows.refsBackSpec.pre enc Tryd.prog Tryd.f11 [] false w args ∧ laidMetH Tryd.prog Rows.refsBackRow.laid w) ∧ sizedMet enc Tryd.prog Tryd.f11 (OpenSpec.ofChange Rows.refsBackSpec) false w args) (Rows.refsBackSpec.post enc Tryd.prog Tryd.f11 false true false false) := by
  refine returnsInHanded_and_shaped (C := Tryd.checked) (X := fun w _ => laidMetH Tryd.prog Rows.refsBackRow.laid w) (fun _ _ _ hh h => h.of_heap hh) own started (by kernel_rfl) Tryd.func11
    (ChangeSpec.witness_shaped (enc := enc) (C := Tryd.checked) (os := os) (X := fun w _ => laidMetH Tryd.prog Rows.refsBackRow.laid w) false (World.laidAll Tryd.prog os Rows.refsBackRow.laid) #[.slice none 0 0, .string ByteArray.empty] 8 (World.laidAll_os _ _ _)
      (World.shaped_of_ZipB (by kernel_rfl) (by kernel_rfl)) (by kernel_rfl) (by kernel_rfl) (by kernel_rfl)
      (by rw [MakeChecks.laidMetH_plain _ _ _ (by kernel_rfl)]; exact laidMet_laidAll _ (by kernel_rfl) (by kernel_rfl))) ?_
  intro W base args ds gs before hval0 hW hcnd hsz0 _ hsh0
  have hsz : (DataW.weightsEach Tryd.prog (Tryd.f11.params.toList ++ Rows.refsBackSpec.plain.varTypes Tryd.prog) (ds ++ gs)).all (· ≤ reachBytes) = true := hsz0
  have hval : ∀ (j : Nat) t v, Tryd.f11.params[j]? = some t → args[j]? = some v → Value.okWide Tryd.prog W .any base t v := hval0
  have hW' := hW
  obtain ⟨p, q, hA0, hV, rfl, hfz, hnd⟩ := hW
  have hA : DataW.TrodAll enc Tryd.prog W 0 (fun _ => true) true Tryd.f11.params.toList args.toList ds p := hA0
  rw [Tryd.params11] at hA hval hsz
  obtain ⟨v0, vs0, d0, ds0, p0, q0, hargs, rfl, rfl, h0, r0⟩ := trodAll_cons hA
  obtain ⟨v1, vs1, d1, ds1, p1, q1, rfl, rfl, rfl, h1, r1⟩ := trodAll_cons r0
  obtain ⟨rfl, rfl, rfl⟩ := trodAll_nil r1
  obtain rfl : args = #[v0, v1] := by cases args; simp_all
  obtain ⟨rfl, rfl⟩ := trodVars_none hV
  have lt0 := arg_lt h0
  obtain ⟨y0, hk0, w0⟩ := opens43.arg hsz (j := 0) rfl rfl h0
  obtain ⟨a0, len0, cap0, rfl⟩ := okWide_slice Tryd.underlying43 (hval 0 43 v0 rfl rfl)
  obtain ⟨A0, c0, e0, hl0, hr0⟩ := hk0
  obtain ⟨rfl, rfl, rfl⟩ : a0 = A0 ∧ len0 = y0.length ∧ cap0 = c0 := by simpa [Value.cells] using e0
  have lt1 := arg_lt h1
  obtain ⟨y1, hk1, w1⟩ := opens9.arg hsz (j := 1) rfl rfl h1
  obtain ⟨x1, rfl⟩ := okWide_string Tryd.underlying9 (hval 1 9 v1 rfl rfl)
  obtain rfl : x1 = y1 := by simpa [Kd.string, Kd.scalar, Value.cells] using hk1
  obtain ⟨k, hp⟩ := Pure.RefsBack _ _ w0 w1
  clear hA0 hval0 hsz0 hsz
  refine (Q.graftagelaw37_RefsBack.calls k _ _ y0 _ true W hr0 hl0 (GV.shaped hsh0) hp).mono ?_
  rintro e W' ⟨rfl, bel0⟩
  have bel : Below W.heap.size W W' := bel0
  exact ⟨_, rfl, _, _, _, [], _, [], hW', trodAll_mk1 (shut_bool Tryd.underlying4 _), (trodAll_cons_mk (Below.trod laidOut (by kernel_rfl) (of_decide_eq_true (by kernel_rfl)) h0 bel lt0) (trodAll_cons_mk (Below.trod laidOut (by kernel_rfl) (of_decide_eq_true (by kernel_rfl)) h1 bel lt1) trodAll_mk0)), rfl, bel.frame _, fun h => by cases h⟩
theorem over : Rows.refsBackRow.holds Tryd.pinned (OpenSpec.ofChange Rows.refsBackSpec) :=
  OpenClaim.holds_of_wide 11 Tryd.f11 rfl rfl rfl rfl rfl rfl rfl ⟨rfl, rfl, rfl, rfl, rfl⟩ rfl rfl rfl rfl rfl (by kernel_rfl) Tryd.func11 (by kernel_rfl)
    (of_decide_eq_true (by kernel_rfl)) (by unfold Func.isWrapper; first | (rw [if_pos (by decide +kernel)]; kernel_rfl) | (rw [if_neg (by decide +kernel)]; exact ⟨rfl, rfl⟩))
    (fun os started H enc _ => lifted os started H enc)
theorem proved : Rows.RefsBackSaid := over
theorem card_holds : Rows.RefsBackCardSaid :=
  Claim7.holds_tied_plain_at .later [] [.data, .pinned] true (true, "f211dbb39e0f8aee4bdc9ae8c5517fa944c5333aa6a5e92b425f441664a6fa8b") false over (fun _ h => by cases h) (by kernel_rfl) (fun _ h => by cases h) refsBack_row_tie rfl ⟨rfl, rfl⟩ (by kernel_rfl) rfl
    (fun f fn hf hfn => by
      obtain rfl : f = 11 := Option.some.inj ((show Tryd.prog.funcNamed "graftage/graftagelaw37.RefsBack" = some 11 by kernel_rfl).symm.trans hf) |>.symm
      obtain rfl : fn = Tryd.f11 := (Option.some.inj (Tryd.func11.symm.trans hfn)).symm
      exact ⟨by kernel_rfl, fun j t ht => by
        rw [Tryd.params11] at ht
        have hm : t ∈ [43, 9] := by simpa using Array.mem_of_getElem? ht
        have hall : ([43, 9].all fun u => !Tryd.prog.wantsStandIn u) = true := by kernel_rfl
        exact (show Tryd.prog.wantsStandIn t = false by simpa using List.all_eq_true.1 hall t hm)⟩)
    (by kernel_rfl)
#print axioms card_holds
end Go.Proofs.YtccbpbdfihnlgaaDoor.refsBack
namespace Go.Proofs.YtccbpbdfihnlgaaDoor
/-- The statement, under a short name, for the claim. -/
theorem refsBack_holds : Rows.RefsBackCardSaid := refsBack.card_holds
end Go.Proofs.YtccbpbdfihnlgaaDoor


