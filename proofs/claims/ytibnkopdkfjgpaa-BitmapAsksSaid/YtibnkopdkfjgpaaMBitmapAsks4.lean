/- The law BitmapAsks holds: for every input it returns true, and each argument reads afterwards as it read before. -/
import Derived.Test.YtibnkopdkfjgpaaMYBitmapAsks1
import Derived.Test.YtibnkopdkfjgpaaMBitmapAsks1
import Derived.Test.YtibnkopdkfjgpaaMBitmapAsks2
import Derived.Test.YtibnkopdkfjgpaaMBitmapAsks3
import Derived.Deep.Slices
import Derived.Lib.SmallJoins
import Derived.ChangeArms
import Derived.SizedLaws
import Derived.WalkKit
import Derived.ProofKit
import Derived.Test.YtibnkopdkfjgpaaRows
import Derived.OpenShut
import Derived.ShutString
import Derived.ChangeOld
import Derived.Below
set_option linter.unusedVariables false
set_option linter.unusedSimpArgs false
/- Query of bitmaps, fifth part: the reference reads a file. -/
namespace Go.Proofs.Ytibnkopdkfjgpaa.Q
open Go.RowKit Go.Proofs.YtibnkopdkfjgpaaW.PrintWords Go.Proofs.YtibnkopdkfjgpaaW.PrintLast Go.Proofs.YtibnkopdkfjgpaaW.PrintMore
open Bm
def failP : Int × Int × List Int × Int := (0, 0, [], -1)
def finP (s : ByteArray) (n p : Int) (q : List Int × List Int) : Int × Int × List Int × Int := if vd n q.1 = true ∧ p ∈ lst n q.1 then (p, n, q.1, ((s.size - q.2.length : Nat) : Int)) else failP
theorem finP_yes {s : ByteArray} {n p : Int} {q : List Int × List Int} (h : vd n q.1 = true) (g : p ∈ lst n q.1) : finP s n p q = (p, n, q.1, ((s.size - q.2.length : Nat) : Int)) := if_pos ⟨h, g⟩
theorem finP_no {s : ByteArray} {n p : Int} {q : List Int × List Int} (h : ¬ (vd n q.1 = true ∧ p ∈ lst n q.1)) : finP s n p q = failP := if_neg h
theorem ref_j2_bad (n p : Int) (o : List Int) (a : Int) (h : a < 0) : Ev (fun k => graftageref27_pick.j2 k p a o n) failP :=
  Ev.step (f := ?_) (fun k => by rw [graftageref27_pick.j2, if_pos h]) (Ev.now _)
theorem ref_j2 (s : ByteArray) (n p : Int) (a : Nat) (o : List Int) (ha : a ≤ s.size) (ho : o.length ≤ 1048576) : Ev (fun k => graftageref27_pick.j2 k p a o n) (finP s n p (o, lf s a)) := by
  have hl := lf_length s a
  refine Ev.step (f := ?_) (fun k => by rw [graftageref27_pick.j2, if_neg (by omega)]) ?_
  refine Ev.bind (Right_ev n o (by omega)) ?_
  have hll : (lst n o).length ≤ 1048576 := lst_len
  by_cases h : vd n o = true
  · refine ev_yes h (Ev.bind (refList_ev n o (by omega)) (Ev.bind (Has_ev (lst n o) p (by omega)) ?_))
    by_cases g : p ∈ lst n o
    · rw [finP_yes h g]
      refine ev_yes (by simpa using g) (ev_eq (Ev.now _) ?_)
      simp only [Prod.mk.injEq, true_and]
      omega
    · rw [finP_no (fun hh => g hh.2)]
      exact ev_no (by simpa using g) (Ev.now _)
  · rw [finP_no (fun hh => h hh.1)]
    exact ev_no h (Ev.now _)
theorem ref_runs (s : ByteArray) (hs : s.size ≤ 4294967296) (n p : Int) (hn0 : 0 ≤ n) (hn1 : n ≤ 65536) (cnt : Nat) (hc : cnt ≤ 65537) : ∀ (d i a : Nat) (o : List Int), i + d = cnt → o.length = i → a ≤ s.size → Ev (fun k => graftageref27_pick.l0 k s n p cnt a o i n) (match runsL d n (lf s a) o with | some q => finP s n p q | none => failP) := by
  intro d
  induction d with
  | zero =>
    intro i a o hi ho ha
    refine Ev.step (f := ?_) (fun k => by rw [graftageref27_pick.l0, if_pos (by omega), if_neg (by omega)]) ?_
    exact ref_j2 s n p a o ha (by omega)
  | succ d ih =>
    intro i a o hi ho ha
    have e1 : wrap64 ((i : Int) + 1) = ((i + 1 : Nat) : Int) := by rw [wrap_id (by omega) (by omega)]; omega
    refine Ev.step (f := ?_) (fun k => by rw [graftageref27_pick.l0, if_pos (by omega), if_pos (by omega), e1]) ?_
    refine Ev.bind (number_ev s hs a ha n hn0 (by omega)) (ev_yes (by omega) ?_)
    rw [runsL]
    cases hq : numL (lf s a) n with
    | none =>
      simp only [Option.bind_none]
      refine Ev.step (f := ?_) (fun k => by rw [graftageref27_pick.l0, if_neg (by omega)]) ?_
      exact ref_j2_bad n p _ _ (by omega)
    | some q =>
      obtain ⟨v, c⟩ := q
      have hr := numL_range (lf_range s a) hq
      have hl := lf_length s a
      simp only [Option.bind_some]
      rw [lf_drop]
      exact ih (i + 1) (a + c) (o ++ [v]) (by omega) (by rw [List.length_append, List.length_singleton]; omega) (by omega)
def pickR (s : ByteArray) (n : Int) (l : List Int) : Int × Int × List Int × Int := match pickL n l with | some (p, r, l') => (p, n, r, ((s.size - l'.length : Nat) : Int)) | none => failP
theorem ref_pick (s : ByteArray) (hs : s.size ≤ 4294967296) (n : Int) (hn0 : 1 ≤ n) (hn1 : n ≤ 65536) (a : Nat) (ha : a ≤ s.size) : Ev (fun k => graftageref27_pick.f k s a n) (pickR s n (lf s a)) := by
  have ew : wrap64 (n - 1) = n - 1 := wrap_id (by omega) (by omega)
  have ew2 : wrap64 (n + 1) = n + 1 := wrap_id (by omega) (by omega)
  unfold graftageref27_pick.f pickR pickL
  simp only [ew]
  refine Ev.bind (number_ev s hs a ha (n - 1) (by omega) (by omega)) ?_
  cases hq : numL (lf s a) (n - 1) with
  | none =>
    simp only [Option.bind_none]
    refine ev_yes (by omega) ?_
    exact Ev.step (f := ?_) (fun k => by rw [graftageref27_pick.j0, if_pos rfl]) (Ev.now _)
  | some q =>
    obtain ⟨v, c⟩ := q
    have hr := numL_range (lf_range s a) hq
    have hl := lf_length s a
    simp only [Option.bind_some]
    refine ev_no (by omega) ?_
    refine Ev.step (f := ?_) (fun k => by rw [graftageref27_pick.j0, if_neg (by simp; omega), ew2]) ?_
    refine Ev.bind (number_ev s hs (a + c) (by omega) (n + 1) (by omega) (by omega)) ?_
    rw [lf_drop]
    cases hq2 : numL (lf s (a + c)) (n + 1) with
    | none =>
      simp only [Option.bind_none]
      refine Ev.step (f := ?_) (fun k => by rw [graftageref27_pick.l0, if_neg (by omega)]) ?_
      exact ref_j2_bad n _ _ _ (by omega)
    | some q2 =>
      obtain ⟨v2, c2⟩ := q2
      have hr2 := numL_range (lf_range s (a + c)) hq2
      have hl2 := lf_length s (a + c)
      simp only [Option.bind_some]
      rw [lf_drop]
      have hv2 : ((v2.toNat : Nat) : Int) = v2 := Int.toNat_of_nonneg hr2.1
      have := ref_runs s hs n v (by omega) hn1 v2.toNat (by omega) v2.toNat 0 (a + c + c2) [] (by omega) rfl (by omega)
      rw [hv2] at this
      refine ev_eq this ?_
      cases runsL v2.toNat n (lf s (a + c + c2)) [] with
      | none => rfl
      | some r =>
        simp only [Option.bind_some, finP]
        by_cases g : vd n r.1 = true ∧ v ∈ lst n r.1
        · rw [if_pos g, if_pos g]
        · rw [if_neg g, if_neg g]
theorem runsL_suffix {s : ByteArray} {n : Int} : ∀ (d a : Nat) (o : List Int) (q : List Int × List Int), a ≤ s.size → runsL d n (lf s a) o = some q → ∃ a', a' ≤ s.size ∧ q.2 = lf s a'
  | 0, a, o, q, ha, h => by
    have := Option.some.inj h
    subst this
    exact ⟨a, ha, rfl⟩
  | d + 1, a, o, q, ha, h => by
    rw [runsL] at h
    obtain ⟨⟨v, c⟩, h1, h⟩ := Option.bind_eq_some_iff.1 h
    have hr := numL_range (lf_range s a) h1
    have hl := lf_length s a
    rw [lf_drop] at h
    exact runsL_suffix d (a + c) _ q (by omega) h
theorem pickL_suffix {s : ByteArray} {n : Int} {a : Nat} {p : Int × List Int × List Int} (ha : a ≤ s.size) (h : pickL n (lf s a) = some p) : ∃ a', a' ≤ s.size ∧ p.2.2 = lf s a' := by
  unfold pickL at h
  obtain ⟨⟨v, c⟩, h1, h⟩ := Option.bind_eq_some_iff.1 h
  have hr := numL_range (lf_range s a) h1
  have hl := lf_length s a
  rw [lf_drop] at h
  obtain ⟨⟨v2, c2⟩, h2, h⟩ := Option.bind_eq_some_iff.1 h
  have hr2 := numL_range (lf_range s (a + c)) h2
  have hl2 := lf_length s (a + c)
  rw [lf_drop] at h
  obtain ⟨r, h3, h⟩ := Option.bind_eq_some_iff.1 h
  split at h
  · have := Option.some.inj h
    subst this
    exact runsL_suffix _ _ _ r (by omega) h3
  · cases h
abbrev RdT := List ByteArray × List Int × List S25 × Bool
def failR : RdT := ([], [], [], false)
def rdR (n : Int) (O : List ByteArray) (q : List (Int × List Int) × List Int) : RdT := (O, q.1.map Prod.fst, q.1.map (fun x => ⟨n, x.2⟩), decide (q.2 = []))
theorem ref_picks (s : ByteArray) (hs : s.size ≤ 4294967296) (n : Int) (hn1 : n ≤ 65536) (O : List ByteArray) (m : Nat) (hm : (m : Int) ≤ n) : ∀ (d i a : Nat) (o : List (Int × List Int)), i + d = m → o.length = i → a ≤ s.size →
    Ev (fun k => graftageref27_readFile.l1 k s n O m a (o.map Prod.fst) (o.map (fun x => ⟨n, x.2⟩)) i) (match picksL d n (lf s a) o with | some q => rdR n O q | none => failR) := by
  intro d
  induction d with
  | zero =>
    intro i a o hi ho ha
    refine Ev.step (f := ?_) (fun k => by rw [graftageref27_readFile.l1, if_neg (by omega)]) (ev_eq (Ev.now _) ?_)
    have hl := lf_length s a
    simp only [picksL, rdR, Prod.mk.injEq, true_and]
    rw [Bool.eq_iff_iff, beq_iff_eq, decide_eq_true_eq]
    constructor
    · intro h; exact lf_nil (by omega)
    · intro h; rw [h] at hl; simp at hl; omega
  | succ d ih =>
    intro i a o hi ho ha
    have e1 : wrap64 ((i : Int) + 1) = ((i + 1 : Nat) : Int) := by rw [wrap_id (by omega) (by omega)]; omega
    refine Ev.step (f := ?_) (fun k => by rw [graftageref27_readFile.l1, if_pos (by omega), e1]) ?_
    refine Ev.bind (ref_pick s hs n (by omega) hn1 a ha) ?_
    rw [picksL]
    unfold pickR
    cases hp : pickL n (lf s a) with
    | none =>
      simp only [Option.bind_none]
      exact ev_yes (by simp [failP]) (Ev.now _)
    | some p =>
      obtain ⟨p, r, l'⟩ := p
      obtain ⟨a', ha', hl'⟩ := pickL_suffix ha hp
      simp only at hl'
      subst hl'
      have hl2 := lf_length s a'
      have ea : s.size - (lf s a').length = a' := by omega
      simp only [Option.bind_some, ea]
      refine ev_no (by omega) ?_
      refine Ev.bind (Has_ev (o.map Prod.fst) p (by rw [List.length_map]; omega)) ?_
      by_cases g : p ∈ o.map Prod.fst
      · rw [if_pos g]
        exact ev_yes (by simpa using g) (Ev.now _)
      · rw [if_neg g]
        refine ev_no (by simpa using g) (ev_yes (by rw [List.length_map]; omega) (ev_yes (by rw [List.length_map]; omega) ?_))
        have := ih (i + 1) a' (o ++ [(p, r)]) (by omega) (by rw [List.length_append, List.length_singleton]; omega) ha'
        rw [List.map_append, List.map_append] at this
        exact this
def aftR (s : ByteArray) (n : Int) (q : List ByteArray × List Int) : RdT := match (numL q.2 n).bind fun r => picksL r.1.toNat n (q.2.drop r.2) [] with | some t => rdR n q.1 t | none => failR
theorem ref_ids (s : ByteArray) (hs : s.size ≤ 4294967296) (n : Nat) (hn1 : n ≤ 65536) : ∀ (d i a : Nat) (O : List ByteArray), i + d = n → O.length = i → a ≤ s.size → 20 * d ≤ s.size - a →
    Ev (fun k => graftageref27_readFile.l0 k s n a O i) (match idsL d (lf s a) O with | some q => aftR s n q | none => failR) := by
  intro d
  induction d with
  | zero =>
    intro i a O hi ho ha hd
    refine Ev.step (f := ?_) (fun k => by rw [graftageref27_readFile.l0, if_neg (by omega)]) ?_
    refine Ev.bind (number_ev s hs a ha n (by omega) (by omega)) ?_
    simp only [idsL, aftR]
    cases hq : numL (lf s a) n with
    | none =>
      simp only [Option.bind_none]
      exact ev_yes (by omega) (Ev.now _)
    | some q =>
      obtain ⟨v, c⟩ := q
      have hr := numL_range (lf_range s a) hq
      have hl := lf_length s a
      simp only [Option.bind_some]
      refine ev_no (by omega) ?_
      rw [lf_drop]
      have hv : ((v.toNat : Nat) : Int) = v := Int.toNat_of_nonneg hr.1
      have := ref_picks s hs n (by omega) O v.toNat (by omega) v.toNat 0 (a + c) [] (by omega) rfl (by omega)
      rw [hv] at this
      exact this
  | succ d ih =>
    intro i a O hi ho ha hd
    have hl := lf_length s a
    have e1 : wrap64 ((i : Int) + 1) = ((i + 1 : Nat) : Int) := by rw [wrap_id (by omega) (by omega)]; omega
    have e2 : wrap64 ((a : Int) + 20) = ((a + 20 : Nat) : Int) := by rw [wrap_id (by omega) (by omega)]; omega
    refine Ev.step (f := ?_) (fun k => by rw [graftageref27_readFile.l0, if_pos (by omega), e2, if_pos (by omega), if_pos (by omega), if_pos (by omega), Int.toNat_natCast, Int.toNat_natCast, e1]) ?_
    refine Ev.bind (ref_Hex_ev _ (by rw [ByteArray.size_extract]; omega)) ?_
    rw [hexB_at, idsL, if_neg (by omega)]
    obtain ⟨id, hid⟩ : ∃ id, hxL ((lf s a).take 20) = id := ⟨_, rfl⟩
    rw [hid]
    refine Ev.bind (place_ev O id (by omega)) ?_
    by_cases g : 0 ≤ plc id 0 O
    · rw [if_pos g]
      exact ev_yes (by omega) (Ev.now _)
    · rw [if_neg g]
      refine ev_no (by omega) (ev_yes (by omega) ?_)
      rw [lf_drop]
      exact ih (i + 1) (a + 20) (O ++ [id]) (by omega) (by rw [List.length_append, List.length_singleton]; omega) (by omega) (by omega)
theorem idsL_short : ∀ (n : Nat) (l : List Int) (O : List ByteArray), l.length < 20 * n → idsL n l O = none
  | 0, l, O, h => by omega
  | n + 1, l, O, h => by
    rw [idsL]
    split
    · rfl
    · split
      · rfl
      · exact idsL_short n _ _ (by rw [List.length_drop]; omega)
/-- what readFile answers -/
def fileR (s : ByteArray) : RdT := if (bytesOf s).take 4 = [66, 77, 80, 49] then (match (numL (lf s 4) 65536).bind fun p => (idsL p.1.toNat ((lf s 4).drop p.2) []).map fun q => aftR s p.1 q with | some t => t | none => failR) else failR
theorem ref_j0_bad (s : ByteArray) : Ev (fun k => graftageref27_readFile.j0 k s true) failR := Ev.step (f := ?_) (fun k => by rw [graftageref27_readFile.j0, if_pos rfl]) (Ev.now _)
theorem head_eq (s : ByteArray) : ((s.extract 0 4).toList != ([66, 77, 80, 49] : List UInt8)) = !decide ((bytesOf s).take 4 = [66, 77, 80, 49]) := by
  rw [Bool.eq_iff_iff, bne_iff_ne, Bool.not_eq_true', decide_eq_false_iff_not, ne_eq, ByteArray.toList_eq]
  refine not_congr ?_
  have h1 : bytesOf (s.extract 0 4) = (bytesOf s).take 4 := by
    rw [lf_extract]; unfold lf; rfl
  rw [← h1]
  unfold bytesOf
  constructor
  · intro h2; rw [h2]; rfl
  · intro h2
    have h3 : (s.extract 0 4).data.toList.map (fun b => (b.toNat : Int)) = ([66, 77, 80, 49] : List UInt8).map (fun b => (b.toNat : Int)) := h2
    exact (List.map_inj_right (fun a b hab => UInt8.toNat_inj.1 (by exact_mod_cast hab))).1 h3
theorem readFile_ev (s : ByteArray) (hs : s.size ≤ 4294967296) : Ev (fun k => graftageref27_readFile.f k s) (fileR s) := by
  unfold graftageref27_readFile.f fileR
  have hlen := bytesOf_length s
  by_cases h4 : s.size < 4
  · rw [if_neg (fun hh => by have := congrArg List.length hh; rw [List.length_take] at this; simp at this; omega)]
    exact ev_yes (by omega) (ref_j0_bad s)
  · refine ev_no (by omega) (ev_yes (by decide) (ev_yes (by omega) ?_))
    rw [head_eq]
    by_cases hb : (bytesOf s).take 4 = [66, 77, 80, 49]
    · rw [decide_eq_true hb, if_pos hb]
      refine Ev.step (f := ?_) (fun k => by rw [graftageref27_readFile.j0, if_neg (by decide)]) ?_
      refine Ev.bind (number_ev s hs 4 (by omega) 65536 (by omega) (by omega)) ?_
      cases hq : numL (lf s 4) 65536 with
      | none =>
        simp only [Option.bind_none]
        refine ev_yes (by omega) ?_
        exact Ev.step (f := ?_) (fun k => by rw [graftageref27_readFile.j1, if_pos rfl]) (Ev.now _)
      | some q =>
        obtain ⟨v, c⟩ := q
        have hr := numL_range (lf_range s 4) hq
        have hl := lf_length s 4
        have hl2 := lf_length s (4 + c)
        simp only [Option.bind_some]
        refine ev_no (by omega) ?_
        rw [lf_drop]
        have e1 : wrap64 ((s.size : Int) - ((4 + c : Nat) : Int)) = (s.size : Int) - ((4 + c : Nat) : Int) := wrap_id (by omega) (by omega)
        have e2 : wrap64 (20 * v) = 20 * v := wrap_id (by omega) (by omega)
        rw [e1, e2]
        have hv : ((v.toNat : Nat) : Int) = v := Int.toNat_of_nonneg hr.1
        by_cases hsh : (s.size : Int) - ((4 + c : Nat) : Int) < 20 * v
        · rw [idsL_short v.toNat _ _ (by omega), decide_eq_true hsh]
          exact Ev.step (f := ?_) (fun k => by rw [graftageref27_readFile.j1, if_pos rfl]) (Ev.now _)
        · rw [decide_eq_false hsh]
          refine Ev.step (f := ?_) (fun k => by rw [graftageref27_readFile.j1, if_neg (by decide)]) ?_
          have := ref_ids s hs v.toNat (by omega) v.toNat 0 (4 + c) [] (by omega) rfl (by omega) (by omega)
          rw [hv] at this
          refine ev_eq this ?_
          cases idsL v.toNat (lf s (4 + c)) [] with
          | none => rfl
          | some q => rfl
    · rw [decide_eq_false hb, if_neg hb]
      exact ref_j0_bad s
end Go.Proofs.Ytibnkopdkfjgpaa.Q


/- Query of bitmaps, sixth part: the reference answers. -/
namespace Go.Proofs.Ytibnkopdkfjgpaa.Q
open Go.RowKit Go.Proofs.YtibnkopdkfjgpaaW.PrintWords Go.Proofs.YtibnkopdkfjgpaaW.PrintLast Go.Proofs.YtibnkopdkfjgpaaW.PrintMore
open Bm
theorem fileR_spec (s : ByteArray) : match fileL (bytesOf s) with | some (O, P) => fileR s = rdR O.length O (P, []) ∧ O.length ≤ 65536 ∧ P.length ≤ 65536 ∧ ∀ x ∈ P, vd O.length x.2 = true | none => (fileR s).2.2.2 = false := by
  unfold fileL fileR
  by_cases hb : (bytesOf s).take 4 = [66, 77, 80, 49]
  · rw [if_pos hb, if_pos hb, show (bytesOf s).drop 4 = lf s 4 from rfl]
    cases hq : numL (lf s 4) 65536 with
    | none => simp only [Option.bind_none]; rfl
    | some q =>
      obtain ⟨v, c⟩ := q
      have hr := numL_range (lf_range s 4) hq
      simp only [Option.bind_some]
      cases hi : idsL v.toNat ((lf s 4).drop c) [] with
      | none => simp only [Option.bind_none, Option.map_none]; rfl
      | some q2 =>
        obtain ⟨O, l2⟩ := q2
        have hlen := idsL_len _ _ _ _ _ hi
        have hn : (O.length : Int) = v := by simp at hlen; omega
        simp only [Option.bind_some, Option.map_some]
        unfold aftR
        rw [hn]
        cases hm : numL l2 v with
        | none => simp only [Option.bind_none]; rfl
        | some q3 =>
          obtain ⟨m, c3⟩ := q3
          simp only [Option.bind_some]
          cases hp : picksL m.toNat v (l2.drop c3) [] with
          | none => simp only [Option.bind_none]; rfl
          | some q4 =>
            obtain ⟨P, l4⟩ := q4
            simp only [Option.bind_some]
            by_cases g : l4 = []
            · rw [if_pos g]
              subst g
              refine ⟨by rw [hn], by omega, ?_, ?_⟩
              · have := picksL_len v m.toNat _ _ _ _ hp
                simp at this
                have hm1 : m ≤ v := by
                  unfold numL at hm
                  split at hm
                  · rename_i hg
                    have := Option.some.inj hm
                    obtain ⟨h1, _⟩ := Prod.mk.inj this
                    omega
                  · cases hm
                omega
              · rw [hn]
                exact picksL_vd v _ _ _ _ _ hp (fun x hx => by cases hx)
            · rw [if_neg g]
              show decide (l4 = []) = false
              exact decide_eq_false g
  · rw [if_neg hb, if_neg hb]
    rfl
theorem spot_l0 (O : List ByteArray) (B : List S25) (p : Int) (Q : List Int) (hQ : Q.length ≤ 1099511627776) : ∀ (t : List Int) (i : Nat), Q.drop i = t → Ev (fun k => graftageref27_spot.l0 k p i O Q B) (plcI p i t)
  | [], i, h => by
    have := drop_end h
    exact Ev.step (f := ?_) (fun k => by rw [graftageref27_spot.l0, if_neg (by omega)]) (Ev.now _)
  | y :: t, i, h => by
    obtain ⟨hi, hr, ht⟩ := drop_at h
    have e1 : wrap64 ((i : Int) + 1) = ((i + 1 : Nat) : Int) := by rw [wrap_id (by omega) (by omega)]; omega
    rw [plcI]
    by_cases g : p = y
    · rw [if_pos g]
      exact Ev.step (f := ?_) (fun k => by rw [graftageref27_spot.l0, if_pos (by omega), if_pos (by omega), hr, if_pos g.symm]) (Ev.now _)
    · rw [if_neg g]
      refine Ev.step (f := ?_) (fun k => by rw [graftageref27_spot.l0, if_pos (by omega), if_pos (by omega), hr, if_neg (fun h => g h.symm), e1]) ?_
      exact spot_l0 O B p Q hQ t (i + 1) ht
theorem spot_ev (O : List ByteArray) (Q : List Int) (B : List S25) (id : ByteArray) (hO : O.length ≤ 1099511627776) (hQ : Q.length ≤ 1099511627776) : Ev (fun k => graftageref27_spot.f k O Q B id) (plcI (plc id 0 O) 0 Q) :=
  Ev.bind (place_ev O id hO) (spot_l0 O B _ Q hQ Q 0 rfl)
theorem spot_look (k : Int) : ∀ (P : List (Int × List Int)) (i : Nat), match lookL P k with | none => plcI k i (P.map Prod.fst) = -1 | some r => ∃ j : Nat, plcI k i (P.map Prod.fst) = ((i + j : Nat) : Int) ∧ ∃ h : j < P.length, P[j].2 = r
  | [], i => rfl
  | (a, r) :: t, i => by
    have ih := spot_look k t (i + 1)
    unfold lookL at ih ⊢
    rw [List.find?_cons]
    by_cases g : a = k
    · have e : decide ((a, r).1 = k) = true := decide_eq_true g
      simp only [e, Option.map_some]
      exact ⟨0, by rw [List.map_cons, plcI, if_pos g.symm]; simp, by simp, rfl⟩
    · have e : decide ((a, r).1 = k) = false := decide_eq_false g
      simp only [e]
      have ec : plcI k i (((a, r) :: t).map Prod.fst) = plcI k (i + 1) (t.map Prod.fst) := by rw [List.map_cons, plcI, if_neg (fun h => g h.symm)]
      rw [ec]
      cases hf : (t.find? fun x => decide (x.1 = k)).map Prod.snd with
      | none => rw [hf] at ih; exact ih
      | some q =>
        rw [hf] at ih
        obtain ⟨j, h1, h2, h3⟩ := ih
        exact ⟨j + 1, by rw [h1]; omega, by simp; omega, by simpa using h3⟩
theorem setAll_or {X Z : List Bool} (h : X.length = Z.length) : setAll X (pos 0 Z) = List.zipWith (fun x y => x || y) X Z := by
  apply list_ext_getD
  · rw [setAll_length, List.length_zipWith]; omega
  intro j hj
  rw [setAll_length] at hj
  rw [setAll_get _ _ _ (fun n hn => ?_) hj, zip_getD h hj, mem_posB (by omega)]
  have := (mem_pos Z 0 n).1 hn
  omega
theorem reached_l1 (O : List ByteArray) (Q : List Int) (B : List S25) (l : List ByteArray) (i : Nat) (pl : List Int) (hp : pl.length ≤ 1099511627776) {r : List Bool × Bool} : ∀ (t : List Int) (j : Nat) (X : List Bool), pl.drop j = t → (∀ x ∈ t, 0 ≤ x ∧ x < X.length) →
    Ev (fun k => graftageref27_reached.l0 k l (setAll X t) (wrap64 ((i : Int) + 1)) O Q B) r → Ev (fun k => graftageref27_reached.l1 k l X i pl j O Q B) r
  | [], j, X, h, hx, hr => by
    have := drop_end h
    exact Ev.step (f := ?_) (fun k => by rw [graftageref27_reached.l1, if_neg (by omega)]) hr
  | y :: t, j, X, h, hx, hr => by
    obtain ⟨hj, hy, ht⟩ := drop_at h
    obtain ⟨y0, y1⟩ := hx y (by simp)
    have e1 : wrap64 ((j : Int) + 1) = ((j + 1 : Nat) : Int) := by rw [wrap_id (by omega) (by omega)]; omega
    refine Ev.step (f := ?_) (fun k => by rw [graftageref27_reached.l1, if_pos (by omega), if_pos (by omega), hy, if_pos y0, if_pos y1, e1]) ?_
    exact reached_l1 O Q B l i pl hp t (j + 1) (X.set y.toNat true) ht (fun x hm => by rw [List.length_set]; exact hx x (by simp [hm])) hr
def gotR (o : Option (List Bool)) : List Bool × Bool := match o with | some X => (X, true) | none => ([], false)
theorem reached_l0 (O : List ByteArray) (P : List (Int × List Int)) (hO : O.length ≤ 65536) (hP : P.length ≤ 65536) (hv : ∀ x ∈ P, vd O.length x.2 = true) (l : List ByteArray) (hl : l.length ≤ 1099511627776) : ∀ (t : List ByteArray) (i : Nat) (X : List Bool), l.drop i = t → X.length = O.length →
    Ev (fun k => graftageref27_reached.l0 k l X i O (P.map Prod.fst) (P.map (fun x => (⟨O.length, x.2⟩ : S25)))) (gotR (gotL O P t X))
  | [], i, X, h, hX => by
    have := drop_end h
    exact Ev.step (f := ?_) (fun k => by rw [graftageref27_reached.l0, if_neg (by omega)]) (Ev.now _)
  | id :: t, i, X, h, hX => by
    obtain ⟨hi, hr, ht⟩ := drop_at' (d := ByteArray.empty) h
    refine Ev.step (f := ?_) (fun k => by rw [graftageref27_reached.l0, if_pos (by omega), if_pos (by omega), hr]) ?_
    refine Ev.bind (spot_ev O _ _ id (by omega) (by rw [List.length_map]; omega)) ?_
    have hsp := spot_look (plc id 0 O) P 0
    rw [gotL]
    cases hlk : lookL P (plc id 0 O) with
    | none =>
      rw [hlk] at hsp
      rw [show plcI (plc id 0 O) 0 (P.map Prod.fst) = -1 from hsp]
      exact ev_yes (by omega) (Ev.now _)
    | some r =>
      rw [hlk] at hsp
      obtain ⟨j, h1, h2, h3⟩ := hsp
      have hvr : vd O.length r = true := hv _ (lookL_some hlk)
      rw [h1]
      simp only [Option.bind_some]
      have e2 : rd_T25 (P.map (fun x => (⟨O.length, x.2⟩ : S25))) ((0 + j : Nat) : Int) = ⟨O.length, r⟩ := by
        unfold rd_T25
        rw [Int.toNat_natCast, Nat.zero_add, List.getD_eq_getElem?_getD, List.getElem?_map, List.getElem?_eq_getElem h2]
        simp [h3]
      rw [e2]
      refine ev_no (by omega) (ev_yes (by omega) (ev_yes (by rw [List.length_map]; omega) ?_))
      refine Ev.bind (refList_ev O.length r (by have := (vd_rd hvr).2.1; omega)) ?_
      have hex := exp_len hvr
      have hlst : lst O.length r = pos 0 (exp false r) := by unfold lst bitsOf; rw [if_pos hvr]
      rw [hlst]
      have hpl : (pos 0 (exp false r)).length ≤ 65536 := by
        rw [pos_length]
        have := List.count_le_length (a := true) (l := exp false r)
        omega
      refine reached_l1 O _ _ l i (pos 0 (exp false r)) (by omega) (pos 0 (exp false r)) 0 X rfl (fun x hx => ?_) ?_
      · have := (mem_pos (exp false r) 0 x).1 hx
        omega
      · rw [setAll_or (by omega), wrap_id (by omega) (by omega)]
        have := reached_l0 O P hO hP hv l hl t (i + 1) (List.zipWith (fun x y => x || y) X (exp false r)) ht (by rw [List.length_zipWith]; omega)
        exact this
theorem reached_ev (O : List ByteArray) (P : List (Int × List Int)) (hO : O.length ≤ 65536) (hP : P.length ≤ 65536) (hv : ∀ x ∈ P, vd O.length x.2 = true) (l : List ByteArray) (hl : l.length ≤ 1099511627776) :
    Ev (fun k => graftageref27_reached.f k O (P.map Prod.fst) (P.map (fun x => (⟨O.length, x.2⟩ : S25))) l) (gotR (gotL O P l (List.replicate O.length false))) := by
  unfold graftageref27_reached.f
  refine ev_yes (by omega) (ev_yes (by omega) ?_)
  rw [Int.toNat_natCast]
  exact reached_l0 O P hO hP hv l hl l 0 (List.replicate O.length false) rfl (by rw [List.length_replicate])
theorem gotL_len (O : List ByteArray) (P : List (Int × List Int)) (hv : ∀ x ∈ P, vd O.length x.2 = true) : ∀ (t : List ByteArray) (X Y : List Bool), X.length = O.length → gotL O P t X = some Y → Y.length = O.length
  | [], X, Y, hX, h => by
    have := Option.some.inj h
    subst this
    exact hX
  | id :: t, X, Y, hX, h => by
    rw [gotL] at h
    obtain ⟨r, hr, h⟩ := Option.bind_eq_some_iff.1 h
    have hvr : vd O.length r = true := hv _ (lookL_some hr)
    have hex := exp_len hvr
    exact gotL_len O P hv t _ Y (by rw [List.length_zipWith]; omega) h
theorem Ask_l0 (O : List ByteArray) (Q : List Int) (B' : List S25) (hO : O.length ≤ 65536) (A B : List Bool) (hA : A.length = O.length) (hB : B.length = O.length) : ∀ (d i : Nat) (out : List ByteArray), i + d = O.length → out.length ≤ i →
    Ev (fun k => graftageref27_Ask.l0 k A B out i O Q B') (out ++ (pos i ((List.zipWith (fun x y => x && !y) A B).drop i)).map (fun i => rdOf ByteArray.empty O i), 0) := by
  intro d
  induction d with
  | zero =>
    intro i out hi ho
    refine Ev.step (f := ?_) (fun k => by rw [graftageref27_Ask.l0, if_neg (by omega)]) (ev_eq (Ev.now _) ?_)
    rw [List.drop_eq_nil_of_le (by rw [List.length_zipWith]; omega)]
    simp [pos]
  | succ d ih =>
    intro i out hi ho
    have e1 : wrap64 ((i : Int) + 1) = ((i + 1 : Nat) : Int) := by rw [wrap_id (by omega) (by omega)]; omega
    have hz : i < (List.zipWith (fun x y => x && !y) A B).length := by rw [List.length_zipWith]; omega
    have ea : rdOf false A (i : Int) = A[i]'(by omega) := by unfold rdOf; rw [Int.toNat_natCast, List.getD_eq_getElem?_getD, List.getElem?_eq_getElem (by omega)]; rfl
    have eb : rdOf false B (i : Int) = B[i]'(by omega) := by unfold rdOf; rw [Int.toNat_natCast, List.getD_eq_getElem?_getD, List.getElem?_eq_getElem (by omega)]; rfl
    have hcast : ((i + 1 : Nat) : Int) = (i : Int) + 1 := by omega
    rw [List.drop_eq_getElem_cons hz, List.getElem_zipWith, pos]
    by_cases ha : A[i]'(by omega) = true
    · by_cases hb : B[i]'(by omega) = true
      · rw [ha, hb]
        refine Ev.step (f := ?_) (fun k => by rw [graftageref27_Ask.l0, if_pos (by omega), if_pos (by omega), if_pos (by omega), ea, if_pos ha, if_pos (by omega), eb, if_pos hb, e1]) ?_
        have := ih (i + 1) out (by omega) (by omega)
        rw [hcast] at this ⊢
        exact this
      · rw [ha, Bool.eq_false_iff.mpr hb]
        refine Ev.step (f := ?_) (fun k => by rw [graftageref27_Ask.l0, if_pos (by omega), if_pos (by omega), if_pos (by omega), ea, if_pos ha, if_pos (by omega), eb, if_neg hb, if_pos (by omega), e1]) ?_
        have := ih (i + 1) (out ++ [rdOf ByteArray.empty O (i : Int)]) (by omega) (by rw [List.length_append, List.length_singleton]; omega)
        rw [hcast] at this ⊢
        rw [List.append_assoc] at this
        exact this
    · rw [Bool.eq_false_iff.mpr ha]
      refine Ev.step (f := ?_) (fun k => by rw [graftageref27_Ask.l0, if_pos (by omega), if_pos (by omega), if_pos (by omega), ea, if_neg ha, e1]) ?_
      have := ih (i + 1) out (by omega) (by omega)
      rw [hcast] at this ⊢
      exact this
theorem Ask_ev (a0 : ByteArray) (l1 l2 : List ByteArray) (hs : a0.size ≤ 4294967296) (h1 : l1.length ≤ 1099511627776) (h2 : l2.length ≤ 1099511627776) : Ev (fun k => graftageref27_Ask.f k a0 l1 l2) (askB a0 l1 l2) := by
  unfold graftageref27_Ask.f askB
  refine Ev.bind (refOpen_ev a0 hs) ?_
  have hsz := openB_size a0
  obtain ⟨⟨s, ok⟩, ho⟩ : ∃ q, openB a0 = q := ⟨_, rfl⟩
  rw [ho] at hsz ⊢
  cases ok
  · exact ev_no (by simp) (Ev.now _)
  · refine ev_yes rfl ?_
    refine Ev.bind (readFile_ev s (Nat.le_trans hsz hs)) ?_
    have hf := fileR_spec s
    cases hfl : fileL (bytesOf s) with
    | none =>
      rw [hfl] at hf
      refine ev_no (by rw [show (fileR s).2.2.2 = false from hf]; decide) ?_
      rw [if_pos rfl]
      exact Ev.now _
    | some q =>
      obtain ⟨O, P⟩ := q
      rw [hfl] at hf
      obtain ⟨e, hO, hP, hv⟩ := hf
      rw [e, if_pos rfl]
      simp only [rdR]
      refine ev_yes (by simp) ?_
      refine Ev.bind (reached_ev O P hO hP hv l1 h1) (Ev.bind (reached_ev O P hO hP hv l2 h2) ?_)
      unfold ansL
      cases hg1 : gotL O P l1 (List.replicate O.length false) with
      | none =>
        refine ev_no (by simp [gotR]) ?_
        exact Ev.step (f := ?_) (fun k => by rw [graftageref27_Ask.j0, if_pos rfl]) (Ev.now _)
      | some A =>
        refine ev_yes rfl ?_
        cases hg2 : gotL O P l2 (List.replicate O.length false) with
        | none => exact Ev.step (f := ?_) (fun k => by rw [graftageref27_Ask.j0, if_pos (by rfl)]) (Ev.now _)
        | some B =>
          refine Ev.step (f := ?_) (fun k => by rw [graftageref27_Ask.j0, if_neg (by simp [gotR])]) ?_
          exact Ask_l0 O _ _ hO A B (gotL_len O P hv l1 _ A (by rw [List.length_replicate]) hg1) (gotL_len O P hv l2 _ B (by rw [List.length_replicate]) hg2) O.length 0 [] (by omega) (by simp)
theorem askB_len (a0 : ByteArray) (l1 l2 : List ByteArray) : (askB a0 l1 l2).1.length ≤ 65536 := by
  unfold askB
  split
  · have hf := fileR_spec (openB a0).1
    cases hfl : fileL (bytesOf (openB a0).1) with
    | none => simp
    | some q =>
      obtain ⟨O, P⟩ := q
      rw [hfl] at hf
      obtain ⟨e, hO, hP, hv⟩ := hf
      simp only [ansL]
      cases hg1 : gotL O P l1 (List.replicate O.length false) with
      | none => simp
      | some A =>
        cases hg2 : gotL O P l2 (List.replicate O.length false) with
        | none => simp
        | some B =>
          have hA := gotL_len O P hv l1 _ A (by rw [List.length_replicate]) hg1
          simp only [resL, List.length_map]
          rw [pos_length]
          have := List.count_le_length (a := true) (l := List.zipWith (fun x y => x && !y) A B)
          rw [List.length_zipWith] at this
          omega
  · simp
theorem SameTexts_l0 (L : List ByteArray) (hL : L.length ≤ 1099511627776) : ∀ (d i : Nat), i + d = L.length → Ev (fun k => graftageref17_SameTexts.l0 k L L i) true := by
  intro d
  induction d with
  | zero =>
    intro i hi
    exact Ev.step (f := ?_) (fun k => by rw [graftageref17_SameTexts.l0, if_neg (by omega)]) (Ev.now _)
  | succ d ih =>
    intro i hi
    have e1 : wrap64 ((i : Int) + 1) = ((i + 1 : Nat) : Int) := by rw [wrap_id (by omega) (by omega)]; omega
    exact Ev.step (f := ?_) (fun k => by rw [graftageref17_SameTexts.l0, if_pos (by omega), if_pos (by omega), if_pos (by omega), if_pos rfl, e1]) (ih (i + 1) (by omega))
theorem SameTexts_ev (L : List ByteArray) (hL : L.length ≤ 1099511627776) : Ev (fun k => graftageref17_SameTexts.f k L L) true := by
  unfold graftageref17_SameTexts.f
  exact ev_yes rfl (SameTexts_l0 L hL L.length 0 (by omega))
end Go.Proofs.Ytibnkopdkfjgpaa.Q


/- BitmapAsks, over plain lists and numbers. -/
namespace Go.Proofs.Ytibnkopdkfjgpaa.Pure
open Go.RowKit Go.Proofs.Ytibnkopdkfjgpaa.Q Go.Proofs.YtibnkopdkfjgpaaW.PrintWords Go.Proofs.YtibnkopdkfjgpaaW.PrintLast Go.Proofs.YtibnkopdkfjgpaaW.PrintMore
theorem BitmapAsks_ev (a0 : ByteArray) (l1 l2 : List ByteArray) : Ev (fun k => graftagelaw27_BitmapAsks.f k a0 l1 l2) true := by
  have live : Ev (fun k => graftagelaw27_BitmapAsks.j0 k a0 l1 l2 true) true := Ev.step (f := fun k => (graftagelaw27_lives.f k).bind fun t => some t) (fun k => by rw [graftagelaw27_BitmapAsks.j0, if_pos rfl]) liveOr27
  unfold graftagelaw27_BitmapAsks.f
  refine ev_ite (fun _ => live) (fun g1 => ev_ite (fun _ => live) (fun g2 => ?_))
  by_cases g3 : (l2.length : Int) > 20
  · rw [decide_eq_true g3]; exact live
  · rw [decide_eq_false g3]
    have hq : bitmap_Query.f a0 l1 l2 = some (askB a0 l1 l2) := by
      unfold bitmap_Query.f
      rw [if_pos ⟨by omega, by omega, by omega⟩]
    refine Ev.step (f := ?_) (fun k => by rw [graftagelaw27_BitmapAsks.j0, if_neg (by decide), hq, Option.bind_some]) ?_
    refine Ev.bind (Ask_ev a0 l1 l2 (by omega) (by omega) (by omega)) ?_
    refine Ev.bind (SameTexts_ev _ (by have := askB_len a0 l1 l2; omega)) (ev_yes rfl (ev_yes rfl liveOr27))
theorem BitmapAsks : ∀ (y0 : ByteArray), ∀ (y1 : List (ByteArray)), ∀ (y2 : List (ByteArray)), y0.size ≤ 140737488351232 → (y1.length * 16 ≤ 140737488351232 ∧ ∀ y_y1 ∈ y1, y_y1.size ≤ 140737488351232) → (y2.length * 16 ≤ 140737488351232 ∧ ∀ y_y2 ∈ y2, y_y2.size ≤ 140737488351232) → ∃ k, graftagelaw27_BitmapAsks.f k y0 y1 y2 = some true :=
  fun y0 y1 y2 _ _ _ => (BitmapAsks_ev y0 y1 y2).rounds
end Go.Proofs.Ytibnkopdkfjgpaa.Pure


/- What a law's argument reads as (numbers, bools, strings, structs, slices, nested) opens into the printed kinds, with the reach's bounds; for the rows of this seat. -/
namespace Go.Proofs.Ytibnkopdkfjgpaa.Ro
open Go.RowKit Go.Deep Go.Proofs.YtibnkopdkfjgpaaW.PrintWords

/-- What a reading of type t by the form tells in the words of kind d; S: the bounds. -/
def Opens (P : Program) (t : TypeId) {α : Type} (d : Kd α) (S : α → Prop) : Prop :=
  ∀ {H : Type} (enc : TypeId × Value → H) (w : World) (fuel : Nat) (cs : List Value) (x : DataW H × List MemPlace),
    DataW.trod enc P w 0 (fun _ => true) true fuel t cs = some x → (∀ n ∈ DataW.weights P t x.1, n ≤ reachBytes) → ∃ y : α, d.K w y cs ∧ S y

section
variable {P : Program} {t e : TypeId}

theorem Opens.int {k : IntKind} (ht : P.underlying t = some (.int k)) : Opens P t (Kd.int k) (fun y => (Lit.int k y).wf = true) := by
  intro H enc w fuel cs x h _
  obtain ⟨n, rfl, rfl, hw⟩ := DataW.trod_int ht h
  exact ⟨n, rfl, hw⟩

theorem Opens.bool (ht : P.underlying t = some .bool) : Opens P t Kd.bool (fun _ => True) := by
  intro H enc w fuel cs x h _
  obtain ⟨b, rfl, rfl⟩ := DataW.trod_bool ht h
  exact ⟨b, rfl, trivial⟩

theorem Opens.string (ht : P.underlying t = some .string) : Opens P t Kd.string (fun y => y.size ≤ 140737488351232) := by
  intro H enc w fuel cs x h hn
  obtain ⟨s, rfl, rfl, _⟩ := DataW.trod_string ht h
  refine ⟨s, rfl, ?_⟩
  have := hn s.data.toList.length (by simp [DataW.weights])
  simpa [reachBytes] using this

theorem choose_list {α : Type} {n : Nat} {p : Nat → α → Prop} (h : ∀ i, i < n → ∃ y, p i y) : ∃ l : List α, l.length = n ∧ ∀ i y, l[i]? = some y → p i y := by
  induction n with
  | zero => exact ⟨[], rfl, fun i y hy => by simp at hy⟩
  | succ n ih =>
    obtain ⟨l, hl, hp⟩ := ih (fun i hi => h i (by omega))
    obtain ⟨y, hy⟩ := h n (by omega)
    refine ⟨l ++ [y], by simp [hl], fun i z hz => ?_⟩
    rcases Nat.lt_or_ge i l.length with hi | hi
    · rw [List.getElem?_append_left hi] at hz
      exact hp i z hz
    · rw [List.getElem?_append_right hi] at hz
      have : i - l.length = 0 := by
        have := (List.getElem?_eq_some_iff.1 hz).1
        simpa using this
      rw [this] at hz
      have h1 : i = n := by omega
      subst h1
      have : y = z := by simpa using hz
      subst this
      exact hy

theorem weightsAll_mem {H : Type} {e : TypeId} : ∀ {l : List (DataW H)} {d : DataW H}, d ∈ l → ∀ n ∈ d.weights P e, n ∈ DataW.weightsAll P e l
  | a :: l, d, hd, n, hn => by
    simp only [DataW.weightsAll, List.mem_append]
    rcases List.mem_cons.1 hd with rfl | hd
    · exact .inl hn
    · exact .inr (weightsAll_mem hd n hn)

theorem Opens.slice {α : Type} {d : Kd α} {S : α → Prop} {b : Nat} (ht : P.underlying t = some (.slice e)) (hc : P.cellsOf e = d.sz) (hb : P.bytesOf e = b) (h : Opens P e d S) :
    Opens P t (Kd.slice e d) (fun l => l.length * b ≤ 140737488351232 ∧ ∀ y ∈ l, S y) := by
  intro H enc w fuel cs x hx hn
  rcases open_slice ht hx with ⟨rfl, rfl⟩ | ⟨a, len, cap, m, n, D, Pl, rfl, _, hl, hm, hmm, rfl, hall⟩
  · exact ⟨[], ⟨none, 0, rfl, Nat.le_refl _, rfl, by simp, fun h => absurd h (by simp)⟩, by simp, by simp⟩
  · simp only [if_true] at hmm
    obtain rfl : m = cap := hmm
    have hel : ∀ i, i < len → ∃ y : α, (∃ cs', w.cells? 0 (a.add (i * P.cellsOf e)) (P.cellsOf e) = some cs' ∧ d.K w y cs') ∧ S y := by
      intro i hi
      obtain ⟨cs', h1, h2⟩ := hall i (by omega)
      obtain ⟨y, hy, hs⟩ := h enc w n cs' _ h2 (fun k hk => hn k (by
        simp only [DataW.weights, ht, List.mem_cons, List.mem_append]
        exact .inr (.inl (weightsAll_mem (List.mem_map.2 ⟨i, List.mem_range.2 hi, rfl⟩) k hk))))
      exact ⟨y, ⟨cs', h1, hy⟩, hs⟩
    obtain ⟨l, hll, hp⟩ := choose_list hel
    subst hll
    have hw : (l.length + (m - l.length)) * b ≤ reachBytes := by
      have := hn _ (by simp only [DataW.weights, ht, List.mem_cons]; exact .inl rfl)
      simpa [hb] using this
    refine ⟨l, ⟨some a, m, rfl, hl, rfl, by unfold maxLen at hm; omega, fun _ => ⟨a, rfl, fun j p hj => ?_⟩⟩, ?_, fun y hy => ?_⟩
    · obtain ⟨⟨cs', h1, hk⟩, _⟩ := hp j p hj
      obtain ⟨_, hlen, hcell⟩ := World.cells?_some h1
      refine ⟨cs', by rw [hlen, hc], hk, fun i u hu => ?_⟩
      have hi : i < P.cellsOf e := by
        have := (List.getElem?_eq_some_iff.1 hu).1
        omega
      have := hcell i hi
      rw [Go.Deep.add_add, hu, hc] at this
      exact this
    · have : l.length * b ≤ (l.length + (m - l.length)) * b := Nat.mul_le_mul_right _ (by omega)
      simp only [reachBytes] at hw
      omega
    · obtain ⟨j, hj⟩ := List.mem_iff_getElem?.1 hy
      exact (hp j y hj).2

/-- The fields from one on, in line. -/
def OpensF (P : Program) (fs : List Field) (o : Nat) {α : Type} (d : Kd α) (S : α → Prop) : Prop :=
  ∀ {H : Type} (enc : TypeId × Value → H) (w : World) (n : Nat) (cs : List Value) (ys : List (DataW H × List MemPlace)),
    (∀ (i : Nat) (f : Field), fs[i]? = some f → DataW.trod enc P w 0 (fun _ => true) true n f.type ((cs.drop f.offset).take (P.cellsOf f.type)) = ys[i]?) → ys.length = fs.length →
    (∀ k ∈ DataW.weightsEach P (fs.map (·.type)) (ys.map (·.1)), k ≤ reachBytes) → cs.length = o + d.sz → ∃ y : α, d.K w y (cs.drop o) ∧ S y

theorem OpensF.one {α : Type} {f : Field} {o : Nat} {d : Kd α} {S : α → Prop} (ho : f.offset = o) (hc : P.cellsOf f.type = d.sz) (h : Opens P f.type d S) : OpensF P [f] o d S := by
  intro H enc w n cs ys hf hl hw hlen
  match ys, hl with
  | [y], _ =>
    have h1 := hf 0 f rfl
    rw [ho, hc, List.take_of_length_le (by rw [List.length_drop]; omega)] at h1
    exact h enc w n _ y h1 (fun k hk => hw k (by simp [DataW.weightsEach, hk]))

theorem OpensF.cons {α β : Type} {f : Field} {fs : List Field} {o o' : Nat} {d : Kd α} {d' : Kd β} {S : α → Prop} {S' : β → Prop} (ho : f.offset = o) (hc : P.cellsOf f.type = d.sz) (ho' : o + d.sz = o')
    (h : Opens P f.type d S) (h' : OpensF P fs o' d' S') : OpensF P (f :: fs) o (Kd.pair d d') (fun z => S z.1 ∧ S' z.2) := by
  intro H enc w n cs ys hf hl hw hlen
  match ys, hl with
  | y :: ys, hl =>
    have h1 := hf 0 f rfl
    rw [ho, hc] at h1
    have hlen' : cs.length = o + (d.sz + d'.sz) := hlen
    obtain ⟨a, ha, hs⟩ := h enc w n _ y h1 (fun k hk => hw k (by simp only [List.map_cons, DataW.weightsEach, List.mem_append]; exact .inl hk))
    obtain ⟨b, hb, hs'⟩ := h' enc w n cs ys (fun i g hg => hf (i + 1) g (by simpa using hg)) (by simpa using hl) (fun k hk => hw k (by simp only [List.map_cons, DataW.weightsEach, List.mem_append]; exact .inr hk)) (by omega)
    refine ⟨(a, b), ⟨_, _, ?_, ha, hb⟩, hs, hs'⟩
    rw [← ho', ← List.drop_drop, List.take_append_drop]

theorem Opens.struct {α β : Type} {fs : Array Field} {d : Kd α} {S : α → Prop} {f : β → α} {g : α → β} (ht : P.underlying t = some (.struct fs)) (hc : P.cellsOf t = d.sz) (hfg : ∀ a, f (g a) = a) (h : OpensF P fs.toList 0 d S) :
    Opens P t (Kd.iso d f) (fun y => S (f y)) := by
  intro H enc w fuel cs x hx hn
  obtain ⟨xs, n, _, rfl, hl, hlen, hf⟩ := DataW.trod_struct ht hx
  obtain ⟨a, ha, hs⟩ := h enc w n cs xs (fun i q hq => hf i q (by simpa using hq)) (by simpa using hlen) (fun k hk => hn k (by simpa [DataW.weights, ht] using hk)) (by rw [hl, hc]; omega)
  refine ⟨g a, ?_, by show S (f (g a)); rw [hfg]; exact hs⟩
  show d.K w (f (g a)) cs
  rw [hfg]
  simpa using ha

theorem Opens.imp {α : Type} {d : Kd α} {S S' : α → Prop} (h : Opens P t d S) (hS : ∀ y, S y → S' y) : Opens P t d S' := by
  intro H enc w fuel cs x hx hn
  obtain ⟨y, hy, hs⟩ := h enc w fuel cs x hx hn
  exact ⟨y, hy, hS y hs⟩

/-- An argument: its cells, told. -/
theorem Opens.arg {H : Type} {enc : TypeId × Value → H} {α : Type} {d : Kd α} {S : α → Prop} {w : World} {ts : List TypeId} {ds : List (DataW H)} {j : Nat} {v : Value} {dd : DataW H} {ps : List MemPlace} (h : Opens P t d S)
    (hz : (DataW.weightsEach P ts ds).all (· ≤ reachBytes) = true) (ht : ts[j]? = some t) (hd : ds[j]? = some dd) (hv : DataW.Trod enc P w 0 (fun _ => true) true t v dd ps) : ∃ y : α, d.K w y v.cells.toList ∧ S y := by
  obtain ⟨fuel, hf⟩ := hv
  exact h enc w fuel _ (dd, ps) hf (fun n hn => by simpa using List.all_eq_true.1 hz n (DataW.weights_mem_each ht hd n hn))

theorem arg_lt {H : Type} {enc : TypeId × Value → H} {w : World} {v : Value} {dd : DataW H} {ps : List MemPlace} (hv : DataW.Trod enc P w 0 (fun _ => true) true t v dd ps) : ∀ x ∈ ps, x.block < w.heap.size := by
  obtain ⟨m, hm⟩ := hv
  exact DataW.trod_lt m _ _ _ hm
end
end Go.Proofs.Ytibnkopdkfjgpaa.Ro


/- The law BitmapAsks holds: for every input it returns true, and each argument reads afterwards as it read before. -/
namespace Go.Proofs.Ytibnkopdkfjgpaa.bitmapAsks
open Go.ChangeShapes Go.WideShapes Go.ChangeAt Go.RowKit Go.Proofs.Ytibnkopdkfjgpaa.Ro Go.Proofs.Ytibnkopdkfjgpaa.Q Go.Proofs.YtibnkopdkfjgpaaW.PrintWords
open Go.ChangeMaps (open_string shut_string)
theorem own : ownKnob Try.prog.godebug = none := by kernel_rfl
theorem laidOut : laidOutB Try.prog = true := by kernel_rfl
theorem opens9 : Opens Try.prog 9 Kd.string (fun y => y.size ≤ 140737488351232) := (Opens.string Try.underlying9)
theorem opens35 : Opens Try.prog 35 (Kd.slice 9 Kd.string) (fun y => (y.length * 16 ≤ 140737488351232 ∧ ∀ y_y ∈ y, y_y.size ≤ 140737488351232)) := (Opens.slice Try.underlying35 (by kernel_rfl) (by kernel_rfl) (Opens.string Try.underlying9))
set_option maxRecDepth 100000 in
theorem lifted (os : Os) (started : os.Started) (H : Type) (enc : TypeId × Value → H) :
    ReturnsInHanded {} Try.checked os 6 .any (Rows.bitmapAsksSpec.pre6 enc Try.prog Try.f6 Rows.bitmapAsksRow.domain false) (Rows.bitmapAsksSpec.post enc Try.prog Try.f6 false true false false) := by
  refine returnsInHanded_of_change_sized (C := Try.checked) own started (by kernel_rfl) Try.func6
    (ChangeSpec.witness6 (enc := enc) (C := Try.checked) false ⟨#[], #[.string ByteArray.empty, .slice none 0 0, .slice none 0 0], []⟩ 8 (by kernel_rfl) (by kernel_rfl) (by kernel_rfl) (by kernel_rfl)) ?_
  intro W base args ds gs before hval0 hW hcnd hsz0 _
  have hsz : (DataW.weightsEach Try.prog (Try.f6.params.toList ++ Rows.bitmapAsksSpec.plain.varTypes Try.prog) (ds ++ gs)).all (· ≤ reachBytes) = true := hsz0
  have hval : ∀ (j : Nat) t v, Try.f6.params[j]? = some t → args[j]? = some v → Value.okWide Try.prog W .any base t v := hval0
  have hW' := hW
  obtain ⟨p, q, hA0, hV, rfl, hfz, hnd⟩ := hW
  have hA : DataW.TrodAll enc Try.prog W 0 (fun _ => true) true Try.f6.params.toList args.toList ds p := hA0
  rw [Try.params6] at hA hval hsz
  obtain ⟨v0, vs0, d0, ds0, p0, q0, hargs, rfl, rfl, h0, r0⟩ := trodAll_cons hA
  obtain ⟨v1, vs1, d1, ds1, p1, q1, rfl, rfl, rfl, h1, r1⟩ := trodAll_cons r0
  obtain ⟨v2, vs2, d2, ds2, p2, q2, rfl, rfl, rfl, h2, r2⟩ := trodAll_cons r1
  obtain ⟨rfl, rfl, rfl⟩ := trodAll_nil r2
  obtain rfl : args = #[v0, v1, v2] := by cases args; simp_all
  obtain ⟨rfl, rfl⟩ := trodVars_none hV
  have lt0 := arg_lt h0
  obtain ⟨y0, hk0, w0⟩ := opens9.arg hsz (j := 0) rfl rfl h0
  obtain ⟨x0, rfl⟩ := okWide_string Try.underlying9 (hval 0 9 v0 rfl rfl)
  obtain rfl : x0 = y0 := by simpa [Kd.string, Kd.scalar, Value.cells] using hk0
  have lt1 := arg_lt h1
  obtain ⟨y1, hk1, w1⟩ := opens35.arg hsz (j := 1) rfl rfl h1
  obtain ⟨a1, len1, cap1, rfl⟩ := okWide_slice Try.underlying35 (hval 1 35 v1 rfl rfl)
  obtain ⟨A1, c1, e1, hl1, hr1⟩ := hk1
  obtain ⟨rfl, rfl, rfl⟩ : a1 = A1 ∧ len1 = y1.length ∧ cap1 = c1 := by simpa [Value.cells] using e1
  have lt2 := arg_lt h2
  obtain ⟨y2, hk2, w2⟩ := opens35.arg hsz (j := 2) rfl rfl h2
  obtain ⟨a2, len2, cap2, rfl⟩ := okWide_slice Try.underlying35 (hval 2 35 v2 rfl rfl)
  obtain ⟨A2, c2, e2, hl2, hr2⟩ := hk2
  obtain ⟨rfl, rfl, rfl⟩ : a2 = A2 ∧ len2 = y2.length ∧ cap2 = c2 := by simpa [Value.cells] using e2
  obtain ⟨k, hp⟩ := Pure.BitmapAsks _ _ _ w0 w1 w2
  clear hA0 hval0 hsz0 hsz
  refine (Q.graftagelaw27_BitmapAsks.callsT k _ _ _ y1 _ _ y2 true W hr1 hl1 hr2 hl2 rfl hp).mono ?_
  rintro e W' ⟨rfl, bel0⟩
  have bel : Below W.heap.size W W' := bel0
  exact ⟨_, rfl, _, _, _, [], _, [], hW', trodAll_mk1 (shut_bool Try.underlying4 _), (trodAll_cons_mk (Below.trod laidOut (by kernel_rfl) (of_decide_eq_true (by kernel_rfl)) h0 bel lt0) (trodAll_cons_mk (Below.trod laidOut (by kernel_rfl) (of_decide_eq_true (by kernel_rfl)) h1 bel lt1) (trodAll_cons_mk (Below.trod laidOut (by kernel_rfl) (of_decide_eq_true (by kernel_rfl)) h2 bel lt2) trodAll_mk0))), rfl, bel.frame _, fun h => by cases h⟩
theorem jn1 : Rows.bitmapAsksRow.inPlace = Try.pinned.checked.prog.inPlace 6 := by kernel_rfl
theorem jn2 : Rows.bitmapAsksRow.unfollowed = Try.pinned.checked.prog.unfollowed 6 := by kernel_rfl
theorem jn3 : Rows.bitmapAsksRow.recurses = Try.pinned.checked.prog.recurses 6 := by kernel_rfl
theorem jn4 : Rows.bitmapAsksRow.named = Try.pinned.checked.prog.varsNamed 6 := by kernel_rfl
theorem joined : joinedFacts Try.pinned.checked.prog 6 Try.f6 Rows.bitmapAsksSpec Rows.bitmapAsksRow = true := by unfold joinedFacts; rw [← jn1, ← jn2, ← jn3, ← jn4]; kernel_rfl
theorem over : Rows.bitmapAsksRow.holds Try.pinned (OpenSpec.ofChange Rows.bitmapAsksSpec) :=
  OpenClaim.holds_of_wide 6 Try.f6 rfl rfl rfl rfl rfl rfl rfl ⟨rfl, rfl, rfl, rfl, rfl⟩ rfl rfl rfl rfl rfl (by kernel_rfl) Try.func6 joined
    (of_decide_eq_true (by kernel_rfl)) (by unfold Func.isWrapper; first | (rw [if_pos (by decide +kernel)]; kernel_rfl) | (rw [if_neg (by decide +kernel)]; exact ⟨rfl, rfl⟩))
    (fun os started H enc _ => lifted os started H enc)
theorem proved : Rows.BitmapAsksSaid := over
#print axioms proved
end Go.Proofs.Ytibnkopdkfjgpaa.bitmapAsks
namespace Go.Proofs.Ytibnkopdkfjgpaa
/-- The statement, under a short name, for the claim. -/
theorem bitmapAsks_holds : Rows.BitmapAsksSaid := bitmapAsks.proved
end Go.Proofs.Ytibnkopdkfjgpaa


