/- The law RefsEnds holds: for every input it returns true, and each argument reads afterwards as it read before. -/
import Derived.Test.YtccbpbdfihnlgaaDoorMYRefsEnds1
import Derived.Test.YtccbpbdfihnlgaaDoorMRefsEnds1
import Derived.Test.YtccbpbdfihnlgaaDoorMRefsEnds2
import Derived.Test.YtccbpbdfihnlgaaDoorMRefsEnds3
import Derived.Sort.Walk0
import Derived.Laws.Cover1
import Derived.Deep.Slices
import Derived.Lib.SmallJoins
import Derived.ChangeArms
import Derived.SizedLaws
import Derived.WalkKit
import Derived.ProofKit
import Derived.Test.YtccbpbdfihnlgaaDoorRows
import Derived.Test.YtccbpbdfihnlgaaDoorTie
import Derived.Test.YtccbpbdfihnlgaaDoorCards
import Derived.OpenShut
import Derived.ShutString
import Derived.ChangeOld
import Derived.Below
import Derived.Lay
import Derived.LaidOnce
import Derived.SevenTiedAt
import Derived.LaidLaws
import Derived.Handed
import Derived.ChangeVars
import Derived.JoinedOf
set_option linter.unusedVariables false
set_option linter.unusedSimpArgs false
/- Refs: what bars a list; both functions tell the same. -/
namespace Go.Proofs.YtccbpbdfihnlgaaDoor.Q
open Go.RowKit Go.Proofs.YtccbpbdfihnlgaaDoorW.PrintWords Go.Proofs.YtccbpbdfihnlgaaDoorW.PrintLast Go.Proofs.YtccbpbdfihnlgaaDoorW.PrintMore
def at55 (l : List S55) (i : Nat) : S55 := rd_T55 l i
theorem at55_get (l : List S55) (i : Nat) (h : i < l.length) : at55 l i = l[i] := by
  unfold at55 rd_T55
  simp [List.getD, List.getElem?_eq_getElem h]
theorem lt_tri : ∀ a b : List UInt8, a < b ∨ a = b ∨ b < a
  | [], [] => .inr (.inl rfl)
  | [], y :: q => .inl (List.nil_lt_cons y q)
  | x :: r, [] => .inr (.inr (List.nil_lt_cons x r))
  | x :: r, y :: q => by
    rcases Nat.lt_trichotomy x.toNat y.toNat with h | h | h
    · exact .inl (List.cons_lt_cons_iff.2 (.inl (UInt8.lt_iff_toNat_lt.2 h)))
    · obtain rfl := UInt8.toNat_inj.1 h
      rcases lt_tri r q with h | h | h
      · exact .inl (List.cons_lt_cons_iff.2 (.inr ⟨rfl, h⟩))
      · exact .inr (.inl (by rw [h]))
      · exact .inr (.inr (List.cons_lt_cons_iff.2 (.inr ⟨rfl, h⟩)))
    · exact .inr (.inr (List.cons_lt_cons_iff.2 (.inl (UInt8.lt_iff_toNat_lt.2 h))))
theorem less_or_eq (a b : List UInt8) : (Op.bytesLess b a || (b == a)) = !Op.bytesLess a b := by
  rw [Go.Proofs.bytesLess_eq, Go.Proofs.bytesLess_eq]
  rcases lt_tri a b with h | h | h
  · have h1 : ¬ b < a := fun h2 => List.lt_irrefl _ (List.lt_trans h h2)
    have h2 : ¬ b = a := fun h2 => List.lt_irrefl _ (h2 ▸ h)
    rw [decide_eq_true h, decide_eq_false h1]
    simpa using h2
  · subst h
    rw [decide_eq_false (List.lt_irrefl a)]
    simp
  · have h1 : ¬ a < b := fun h2 => List.lt_irrefl _ (List.lt_trans h h2)
    rw [decide_eq_true h, decide_eq_false h1]
    rfl
theorem nameB_nil {s : ByteArray} (h : s.toList = []) : nameB s = false := by
  unfold nameB nameIn isPath
  simp [h]
def wholeB (r : S55) : Bool := if r.f2.toList = [] then idOk r.f1 else (decide (r.f1.toList = []) && nameB r.f2)
def chkR (r : S55) : Int := if nameB r.f0 = true then (if wholeB r = true then 0 else 1) else 370
theorem check_ev (r : S55) : Ev (fun k => refs_check.f k r.f0 r.f1 r.f2) (chkR r) := by
  refine Ev.bind (Name_ev r.f0) ?_
  unfold chkR
  refine ev_iff (fun h => ?_) (fun h => ?_)
  rotate_left
  · rw [if_neg h]; exact Ev.now _
  rw [if_pos h]
  unfold wholeB
  refine ev_iff (fun h2 => ?_) (fun h2 => ?_)
  · rw [if_pos h2]
    refine Ev.bind (ident_Is_ev r.f1) ?_
    by_cases h3 : idOk r.f1 = true
    · rw [if_pos h3, h3]
      exact Ev.step (f := fun _ => some 0) (fun k => by rw [refs_check.j0, if_pos rfl]) (Ev.now _)
    · rw [if_neg h3]
      have h3' : idOk r.f1 = false := by simpa using h3
      rw [h3']
      refine Ev.step (f := fun k => if r.f1.toList = ([] : List UInt8) then ((refs_Name.f k r.f2).bind fun t104 => (if t104 = true then (some 0) else (some 1))) else (some 1)) (fun k => by rw [refs_check.j0, if_neg (by decide)]) ?_
      refine ev_iff (fun h4 => ?_) (fun h4 => Ev.now _)
      refine Ev.bind (Name_ev r.f2) ?_
      rw [nameB_nil h2]
      exact Ev.now _
  · rw [if_neg h2]
    refine Ev.step (f := fun k => if r.f1.toList = ([] : List UInt8) then ((refs_Name.f k r.f2).bind fun t104 => (if t104 = true then (some 0) else (some 1))) else (some 1)) (fun k => by rw [refs_check.j0, if_neg (by decide)]) ?_
    refine ev_iff (fun h4 => ?_) (fun h4 => ?_)
    · rw [decide_eq_true h4, Bool.true_and]
      refine Ev.bind (Name_ev r.f2) ?_
      refine ev_iff (fun h5 => ?_) (fun h5 => ?_)
      · rw [if_pos h5]; exact Ev.now _
      · rw [if_neg h5]; exact Ev.now _
    · rw [decide_eq_false h4, Bool.false_and, if_neg (by decide)]; exact Ev.now _
theorem whole_ev (r : S55) (hs : r.f2.size ≤ 4294967280) : Ev (fun k => graftageref37_whole.f k r.f0 r.f1 r.f2) (wholeB r) := by
  unfold wholeB
  refine ev_iff (fun h => ?_) (fun h => ?_)
  · rw [if_pos h]; exact Ev.bind (ref_idIs_ev r.f1) (Ev.now _)
  · rw [if_neg h]
    refine ev_iff (fun h2 => ?_) (fun h2 => ?_)
    · rw [decide_eq_true h2, Bool.true_and]; exact Ev.bind (refName_ev r.f2 hs) (Ev.now _)
    · rw [decide_eq_false h2, Bool.false_and]; exact Ev.now _
theorem names_ev (l : List S55) (hn : l.length ≤ 1000000) : Ev (fun k => refs_names.f k l) (l.map (·.f0)) := by
  have key : ∀ (d i : Nat) (acc : List ByteArray), i + d = l.length → acc = (l.take i).map (·.f0) → Ev (fun k => refs_names.l0 k acc l l.length i) (l.map (·.f0)) := by
    intro d
    induction d with
    | zero =>
      intro i acc hi ha
      have : acc = l.map (·.f0) := by rw [ha, List.take_of_length_le (by omega)]
      exact Ev.step (f := fun _ => some acc) (fun k => by rw [refs_names.l0, if_neg (by omega)]) (this ▸ Ev.now _)
    | succ d ih =>
      intro i acc hi ha
      have hlt : i < l.length := by omega
      have hal : acc.length = i := by rw [ha, List.length_map, List.length_take]; omega
      have e0 : rd_T55 l (i : Int) = at55 l i := rfl
      refine Ev.step (f := fun k => refs_names.l0 k (acc ++ [(at55 l i).f0]) l l.length ((i : Int) + 1)) (fun k => by rw [refs_names.l0, if_pos (by omega), if_pos (by omega), if_pos (by omega), e0, if_pos (show acc.length < 8796093022208 by omega), wrap_id (by omega) (by omega)]) ?_
      exact_mod_cast ih (i + 1) _ (by omega) (by rw [ha, List.take_succ_eq_append_getElem hlt, List.map_append, at55_get l i hlt]; rfl)
  have := key l.length 0 [] (by omega) rfl
  exact_mod_cast this
theorem ref_names_ev (l : List S55) (hn : l.length ≤ 1000000) : Ev (fun k => graftageref37_names.f k l) (l.map (·.f0)) := by
  have key : ∀ (d i : Nat) (acc : List ByteArray), i + d = l.length → acc = (l.take i).map (·.f0) → Ev (fun k => graftageref37_names.l0 k l acc l.length i) (l.map (·.f0)) := by
    intro d
    induction d with
    | zero =>
      intro i acc hi ha
      have : acc = l.map (·.f0) := by rw [ha, List.take_of_length_le (by omega)]
      exact Ev.step (f := fun _ => some acc) (fun k => by rw [graftageref37_names.l0, if_neg (by omega)]) (this ▸ Ev.now _)
    | succ d ih =>
      intro i acc hi ha
      have hlt : i < l.length := by omega
      have hal : acc.length = i := by rw [ha, List.length_map, List.length_take]; omega
      have e0 : rd_T55 l (i : Int) = at55 l i := rfl
      refine Ev.step (f := fun k => graftageref37_names.l0 k l (acc ++ [(at55 l i).f0]) l.length ((i : Int) + 1)) (fun k => by rw [graftageref37_names.l0, if_pos (by omega), if_pos (by omega), if_pos (by omega), e0, if_pos (show acc.length < 8796093022208 by omega), wrap_id (by omega) (by omega)]) ?_
      exact_mod_cast ih (i + 1) _ (by omega) (by rw [ha, List.take_succ_eq_append_getElem hlt, List.map_append, at55_get l i hlt]; rfl)
  have := key l.length 0 [] (by omega) rfl
  exact_mod_cast this
def ltN (l : List S55) (i : Nat) : Bool := Op.bytesLess (at55 l (i - 1)).f0.toList (at55 l i).f0.toList
def cRF (l : List S55) (fin : Int) : Nat → Nat → Int
  | 0, _ => fin
  | d + 1, i => if chkR (at55 l i) = 0 then (if (decide (0 < i) && !ltN l i) = true then 150 else cRF l fin d (i + 1)) else chkR (at55 l i)
theorem cRF_zero (l : List S55) (fin : Int) : ∀ (d i : Nat), cRF l fin d i = 0 → fin = 0 ∧ ∀ j, i ≤ j → j < i + d → chkR (at55 l j) = 0 ∧ (0 < j → ltN l j = true)
  | 0, i, h => ⟨h, fun j h1 h2 => by omega⟩
  | d + 1, i, h => by
    rw [cRF] at h
    split at h
    · rename_i hc
      split at h
      · cases h
      · rename_i hq
        obtain ⟨h1, h2⟩ := cRF_zero l fin d (i + 1) h
        refine ⟨h1, fun j hj hl => ?_⟩
        by_cases e : j = i
        · subst e
          refine ⟨hc, fun h0 => ?_⟩
          rw [decide_eq_true h0, Bool.true_and] at hq
          simpa using hq
        · exact h2 j (by omega) (by omega)
    · rename_i hc; exact absurd h hc
theorem Check_l0 (l : List S55) (hn : l.length ≤ 1000000) (fin : Int) (hfin : Ev (fun k => (refs_names.f k l).bind fun t115 => ((path_Meet.f k t115).bind fun bt118 => (if bt118.2.2 = true then (some (61 : Int)) else (some 0)))) fin) : ∀ (d i : Nat), i + d = l.length → Ev (fun k => refs_Check.l0 k l l l.length i) (cRF l fin d i) := by
  intro d
  induction d with
  | zero =>
    intro i hi
    exact Ev.step (f := fun k => (refs_names.f k l).bind fun t115 => ((path_Meet.f k t115).bind fun bt118 => (if bt118.2.2 = true then (some (61 : Int)) else (some 0)))) (fun k => by rw [refs_Check.l0, if_neg (by omega)]) hfin
  | succ d ih =>
    intro i hi
    have e0 : rd_T55 l (i : Int) = at55 l i := rfl
    rw [cRF]
    have hst : ∀ k, refs_Check.l0 (k + 1) l l l.length i = ((refs_check.f k (at55 l i).f0 (at55 l i).f1 (at55 l i).f2).bind fun t113 => (if t113 = 0 then (if (i : Int) > 0 then (if 0 ≤ (wrap64 ((i : Int) - 1)) then (if (wrap64 ((i : Int) - 1)) < (l.length : Int) then (if ((Op.bytesLess (((rd_T55 l (wrap64 ((i : Int) - 1))).f0).toList) (((at55 l i).f0).toList)) = true) then (refs_Check.l0 k l l l.length (wrap64 ((i : Int) + 1))) else (some 150)) else (none)) else (none)) else (refs_Check.l0 k l l l.length (wrap64 ((i : Int) + 1)))) else (some t113))) := fun k => by
      rw [refs_Check.l0, if_pos (by omega), if_pos (by omega), if_pos (by omega), e0]
    refine Ev.step hst (Ev.bind (check_ev (at55 l i)) ?_)
    rw [wrap_id (x := (i : Int) + 1) (by omega) (by omega), wrap_id (x := (i : Int) - 1) (by omega) (by omega)]
    refine ev_iff (fun h => ?_) (fun h => ?_)
    rotate_left
    · rw [if_neg h]; exact Ev.now _
    rw [if_pos h]
    have hnext : Ev (fun k => refs_Check.l0 k l l l.length ((i : Int) + 1)) (cRF l fin d (i + 1)) := by exact_mod_cast ih (i + 1) (by omega)
    by_cases h0 : 0 < i
    · rw [decide_eq_true h0, Bool.true_and]
      have e1 : rd_T55 l ((i : Int) - 1) = at55 l (i - 1) := by rw [show (i : Int) - 1 = ((i - 1 : Nat) : Int) by omega]; rfl
      refine Ev.congr (f := fun k => if ltN l i = true then refs_Check.l0 k l l l.length ((i : Int) + 1) else some 150) (fun k => by rw [if_pos (by omega), if_pos (by omega), if_pos (by omega), e1]; rfl) ?_
      refine ev_iff (fun h2 => ?_) (fun h2 => ?_)
      · rw [h2]; exact hnext
      · have : ltN l i = false := by simpa using h2
        rw [this]; exact Ev.now _
    · rw [decide_eq_false h0, Bool.false_and, if_neg (by decide)]
      exact Ev.congr (f := fun k => refs_Check.l0 k l l l.length ((i : Int) + 1)) (fun k => by rw [if_neg (by omega)]) hnext
theorem refCheck_l0 (l : List S55) (hs : ∀ x ∈ l, x.f0.size ≤ 4294967280 ∧ x.f2.size ≤ 4294967280) (hn : l.length ≤ 1000000) (fin : Int) (hfin : Ev (fun k => (graftageref37_names.f k l).bind fun t107 => ((graftageref06_Meet.f k t107).bind fun bt110 => (if bt110.2.2 = true then (some (61 : Int)) else (some 0)))) fin) : ∀ (d i : Nat), i + d = l.length → Ev (fun k => graftageref37_Check.l0 k l l.length i) (cRF l fin d i) := by
  intro d
  induction d with
  | zero =>
    intro i hi
    exact Ev.step (f := fun k => (graftageref37_names.f k l).bind fun t107 => ((graftageref06_Meet.f k t107).bind fun bt110 => (if bt110.2.2 = true then (some (61 : Int)) else (some 0)))) (fun k => by rw [graftageref37_Check.l0, if_neg (by omega)]) hfin
  | succ d ih =>
    intro i hi
    have hlt : i < l.length := by omega
    have hmem : at55 l i ∈ l := by rw [at55_get _ _ hlt]; exact List.getElem_mem hlt
    have e0 : rd_T55 l (i : Int) = at55 l i := rfl
    rw [cRF]
    have hst : ∀ k, graftageref37_Check.l0 (k + 1) l l.length i = ((graftageref37_Name.f k ((at55 l i).f0)).bind fun t102 => (if t102 = true then ((graftageref37_whole.f k ((at55 l i).f0) ((at55 l i).f1) ((at55 l i).f2)).bind fun t104 => (if t104 = true then (if (i : Int) > 0 then (if 0 ≤ (wrap64 ((i : Int) - 1)) then (if (wrap64 ((i : Int) - 1)) < (l.length : Int) then (if (Op.bytesLess (((at55 l i).f0).toList) (((rd_T55 l (wrap64 ((i : Int) - 1))).f0).toList) || (((at55 l i).f0).toList == ((rd_T55 l (wrap64 ((i : Int) - 1))).f0).toList)) = true then (some 150) else (graftageref37_Check.l0 k l l.length (wrap64 ((i : Int) + 1)))) else (none)) else (none)) else (graftageref37_Check.l0 k l l.length (wrap64 ((i : Int) + 1)))) else (some 1))) else (some 370))) := fun k => by
      rw [graftageref37_Check.l0, if_pos (by omega), if_pos (by omega), if_pos (by omega), e0]
    refine Ev.step hst (Ev.bind (refName_ev _ (hs _ hmem).1) ?_)
    rw [wrap_id (x := (i : Int) + 1) (by omega) (by omega), wrap_id (x := (i : Int) - 1) (by omega) (by omega)]
    unfold chkR
    refine ev_iff (fun h => ?_) (fun h => ?_)
    rotate_left
    · rw [if_neg h, if_neg (by decide)]; exact Ev.now _
    rw [if_pos h]
    refine Ev.bind (whole_ev _ (hs _ hmem).2) ?_
    refine ev_iff (fun h1 => ?_) (fun h1 => ?_)
    rotate_left
    · rw [if_neg h1, if_neg (by decide)]; exact Ev.now _
    rw [if_pos h1, if_pos rfl]
    have hnext : Ev (fun k => graftageref37_Check.l0 k l l.length ((i : Int) + 1)) (cRF l fin d (i + 1)) := by exact_mod_cast ih (i + 1) (by omega)
    by_cases h0 : 0 < i
    · rw [decide_eq_true h0, Bool.true_and]
      have e1 : rd_T55 l ((i : Int) - 1) = at55 l (i - 1) := by rw [show (i : Int) - 1 = ((i - 1 : Nat) : Int) by omega]; rfl
      refine Ev.congr (f := fun k => if (!ltN l i) = true then some 150 else graftageref37_Check.l0 k l l.length ((i : Int) + 1)) (fun k => by rw [if_pos (by omega), if_pos (by omega), if_pos (by omega), e1, less_or_eq]; rfl) ?_
      exact ev_iff (fun h2 => by rw [if_pos h2]; exact Ev.now _) (fun h2 => by rw [if_neg h2]; exact hnext)
    · rw [decide_eq_false h0, Bool.false_and, if_neg (by decide)]
      exact Ev.congr (f := fun k => graftageref37_Check.l0 k l l.length ((i : Int) + 1)) (fun k => by rw [if_neg (by omega)]) hnext
theorem Check_both (l : List S55) (hs : l.length ≤ 1024 → ∀ x ∈ l, x.f0.size ≤ 4294967280 ∧ x.f2.size ≤ 4294967280) : ∃ c, Ev (fun k => refs_Check.f k l) c ∧ Ev (fun k => graftageref37_Check.f k l) c ∧ (c = 0 → l.length ≤ 1024 ∧ ∀ r ∈ l, chkR r = 0) := by
  by_cases hl : (l.length : Int) > 1024
  · exact ⟨4, Ev.congr (f := fun _ => some 4) (fun k => by unfold refs_Check.f; rw [if_pos hl]) (Ev.now _), Ev.congr (f := fun _ => some 4) (fun k => by unfold graftageref37_Check.f; rw [if_pos hl]) (Ev.now _), fun h => by cases h⟩
  have hsz := hs (by omega)
  obtain ⟨m, h1, h2⟩ := meet_ev (l.map (·.f0)) (fun x hx => by obtain ⟨r, hr, rfl⟩ := List.mem_map.1 hx; have := (hsz r hr).1; omega) (by rw [List.length_map]; omega)
  have hf1 : Ev (fun k => (refs_names.f k l).bind fun t115 => ((path_Meet.f k t115).bind fun bt118 => (if bt118.2.2 = true then (some (61 : Int)) else (some 0)))) (if m.2.2 = true then 61 else 0) := Ev.bind (names_ev l (by omega)) (Ev.bind h1 (ev_iff (fun h => by rw [if_pos h]; exact Ev.now _) (fun h => by rw [if_neg h]; exact Ev.now _)))
  have hf2 : Ev (fun k => (graftageref37_names.f k l).bind fun t115 => ((graftageref06_Meet.f k t115).bind fun bt118 => (if bt118.2.2 = true then (some (61 : Int)) else (some 0)))) (if m.2.2 = true then 61 else 0) := Ev.bind (ref_names_ev l (by omega)) (Ev.bind h2 (ev_iff (fun h => by rw [if_pos h]; exact Ev.now _) (fun h => by rw [if_neg h]; exact Ev.now _)))
  have e1 := Check_l0 l (by omega) _ hf1 l.length 0 (by omega)
  have e2 := refCheck_l0 l hsz (by omega) _ hf2 l.length 0 (by omega)
  refine ⟨_, Ev.congr (fun k => by unfold refs_Check.f; rw [if_neg hl]) (by exact_mod_cast e1), Ev.congr (fun k => by unfold graftageref37_Check.f; rw [if_neg hl]) (by exact_mod_cast e2), fun h => ⟨by omega, fun r hr => ?_⟩⟩
  obtain ⟨j, hj, rfl⟩ := List.mem_iff_getElem.1 hr
  have := ((cRF_zero l _ _ _ h).2 j (by omega) (by omega)).1
  rwa [at55_get l j hj] at this
/-! ### Few and Same -/
def fewR (l : List S55) : Nat → Nat → Bool
  | 0, _ => decide (l.length ≤ 40)
  | d + 1, i => if ((at55 l i).f0.size + (at55 l i).f1.size + (at55 l i).f2.size : Nat) > 1000 then false else fewR l d (i + 1)
theorem Few_ev (l : List S55) (hs : ∀ x ∈ l, x.f0.size ≤ 140737488351232 ∧ x.f1.size ≤ 140737488351232 ∧ x.f2.size ≤ 140737488351232) (hn : l.length ≤ 140737488351232) : Ev (fun k => graftageref37_Few.f k l) (fewR l l.length 0) := by
  have key : ∀ (d i : Nat), i + d = l.length → Ev (fun k => graftageref37_Few.l0 k l l.length i) (fewR l d i) := by
    intro d
    induction d with
    | zero =>
      intro i hi
      refine Ev.step (f := fun _ => some (decide ((l.length : Int) ≤ 40))) (fun k => by rw [graftageref37_Few.l0, if_neg (by omega)]) ?_
      have : decide ((l.length : Int) ≤ 40) = decide (l.length ≤ 40) := by rw [Bool.eq_iff_iff, decide_eq_true_eq, decide_eq_true_eq]; omega
      rw [this]; exact Ev.now _
    | succ d ih =>
      intro i hi
      have hlt : i < l.length := by omega
      have e0 : rd_T55 l (i : Int) = at55 l i := rfl
      obtain ⟨a1, a2, a3⟩ := hs (at55 l i) (by rw [at55_get _ _ hlt]; exact List.getElem_mem hlt)
      rw [fewR]
      refine Ev.step (f := fun k => if ((at55 l i).f0.size : Int) + ((at55 l i).f1.size : Int) + ((at55 l i).f2.size : Int) > 1000 then some false else graftageref37_Few.l0 k l l.length ((i : Int) + 1)) (fun k => by rw [graftageref37_Few.l0, if_pos (by omega), if_pos (by omega), if_pos (by omega), e0, wrap_id (x := ((at55 l i).f0.size : Int) + _) (by omega) (by omega), wrap_id (by omega) (by omega), wrap_id (by omega) (by omega)]) ?_
      refine ev_iff (fun h => ?_) (fun h => ?_)
      · rw [if_pos (by omega)]; exact Ev.now _
      · rw [if_neg (by omega)]; exact_mod_cast ih (i + 1) (by omega)
  have := key l.length 0 (by omega)
  exact_mod_cast this
theorem few_of (l : List S55) : ∀ (d i : Nat), i + d = l.length → fewR l d i = true → l.length ≤ 40 ∧ ∀ j, i ≤ j → j < l.length → (at55 l j).f0.size + (at55 l j).f1.size + (at55 l j).f2.size ≤ 1000
  | 0, i, hi, h => ⟨by simpa [fewR] using h, fun j h1 h2 => by omega⟩
  | d + 1, i, hi, h => by
    rw [fewR] at h
    split at h
    · cases h
    · obtain ⟨h1, h2⟩ := few_of l d (i + 1) (by omega) h
      refine ⟨h1, fun j hj hl => ?_⟩
      by_cases e : j = i
      · rw [e]; omega
      · exact h2 j (by omega) hl
theorem fewR_size {l : List S55} (h : fewR l l.length 0 = true) : ∀ x ∈ l, x.f0.size + x.f1.size + x.f2.size ≤ 1000 := by
  intro x hx
  obtain ⟨j, hj, rfl⟩ := List.mem_iff_getElem.1 hx
  have := (few_of l l.length 0 (by omega) h).2 j (by omega) hj
  rwa [at55_get l j hj] at this
end Go.Proofs.YtccbpbdfihnlgaaDoor.Q


/- Contracts of Go functions as calls of plain Lean functions, written by a program of this session over the kit's print. -/
namespace Go.Proofs.YtccbpbdfihnlgaaDoor.Q
open Go.RowKit Go.Proofs.YtccbpbdfihnlgaaDoorW.PrintWords Go.Proofs.YtccbpbdfihnlgaaDoorW.PrintLast Go.Proofs.YtccbpbdfihnlgaaDoorW.PrintMore
attribute [local go_sem] max2_int min2_int max_two min_two max_three min_three max_four min_four   -- for this text's walks alone

end Go.Proofs.YtccbpbdfihnlgaaDoor.Q


/- A text's lines: the reference's Split tells them. -/
namespace Go.Proofs.YtccbpbdfihnlgaaDoor.Q
open Go.RowKit Go.Proofs.YtccbpbdfihnlgaaDoorW.PrintWords Go.Proofs.YtccbpbdfihnlgaaDoorW.PrintLast Go.Proofs.YtccbpbdfihnlgaaDoorW.PrintMore
/-! ### a line of a text of cones -/
end Go.Proofs.YtccbpbdfihnlgaaDoor.Q


/- Contracts of Go functions as calls of plain Lean functions, written by a program of this session over the kit's print. -/
namespace Go.Proofs.YtccbpbdfihnlgaaDoor.Q
open Go.RowKit Go.Proofs.YtccbpbdfihnlgaaDoorW.PrintWords Go.Proofs.YtccbpbdfihnlgaaDoorW.PrintLast Go.Proofs.YtccbpbdfihnlgaaDoorW.PrintMore
attribute [local go_sem] max2_int min2_int max_two min_two max_three min_three max_four min_four   -- for this text's walks alone

end Go.Proofs.YtccbpbdfihnlgaaDoor.Q


/- The reference's Find: a byte's first place from a place on. -/
namespace Go.Proofs.YtccbpbdfihnlgaaDoor.Q
open Go.RowKit Go.Proofs.YtccbpbdfihnlgaaDoorW.PrintWords Go.Proofs.YtccbpbdfihnlgaaDoorW.PrintLast Go.Proofs.YtccbpbdfihnlgaaDoorW.PrintMore
/-! ### what may be -/
end Go.Proofs.YtccbpbdfihnlgaaDoor.Q


/- Contracts of Go functions as calls of plain Lean functions, written by a program of this session over the kit's print. -/
namespace Go.Proofs.YtccbpbdfihnlgaaDoor.Q
open Go.RowKit Go.Proofs.YtccbpbdfihnlgaaDoorW.PrintWords Go.Proofs.YtccbpbdfihnlgaaDoorW.PrintLast Go.Proofs.YtccbpbdfihnlgaaDoorW.PrintMore
attribute [local go_sem] max2_int min2_int max_two min_two max_three min_three max_four min_four   -- for this text's walks alone

end Go.Proofs.YtccbpbdfihnlgaaDoor.Q


/- RefsNames. -/
namespace Go.Proofs.YtccbpbdfihnlgaaDoor.Q
open Go.RowKit Go.Proofs.YtccbpbdfihnlgaaDoorW.PrintWords Go.Proofs.YtccbpbdfihnlgaaDoorW.PrintLast Go.Proofs.YtccbpbdfihnlgaaDoorW.PrintMore
theorem lives37 : Ev (fun k => graftagelaw37_lives.f k) true := Ev.of (fun k => graftagelaw37_lives.mono k) (k := 400) (by decide +kernel)
theorem liveOr37 : Ev (fun k => (graftagelaw37_lives.f k).bind fun t => some t) true := Ev.bind lives37 (Ev.now _)
end Go.Proofs.YtccbpbdfihnlgaaDoor.Q


/- Contracts of Go functions as calls of plain Lean functions, written by a program of this session over the kit's print. -/
namespace Go.Proofs.YtccbpbdfihnlgaaDoor.Q
open Go.RowKit Go.Proofs.YtccbpbdfihnlgaaDoorW.PrintWords Go.Proofs.YtccbpbdfihnlgaaDoorW.PrintLast Go.Proofs.YtccbpbdfihnlgaaDoorW.PrintMore
attribute [local go_sem] max2_int min2_int max_two min_two max_three min_three max_four min_four   -- for this text's walks alone

end Go.Proofs.YtccbpbdfihnlgaaDoor.Q


/- Contracts of Go functions as calls of plain Lean functions, written by a program of this session over the kit's print. -/
namespace Go.Proofs.YtccbpbdfihnlgaaDoor.Q
open Go.RowKit Go.Proofs.YtccbpbdfihnlgaaDoorW.PrintWords Go.Proofs.YtccbpbdfihnlgaaDoorW.PrintLast Go.Proofs.YtccbpbdfihnlgaaDoorW.PrintMore
attribute [local go_sem] max2_int min2_int max_two min_two max_three min_three max_four min_four   -- for this text's walks alone

end Go.Proofs.YtccbpbdfihnlgaaDoor.Q


/- Contracts of Go functions as calls of plain Lean functions, written by a program of this session over the kit's print. -/
namespace Go.Proofs.YtccbpbdfihnlgaaDoor.Q
open Go.RowKit Go.Proofs.YtccbpbdfihnlgaaDoorW.PrintWords Go.Proofs.YtccbpbdfihnlgaaDoorW.PrintLast Go.Proofs.YtccbpbdfihnlgaaDoorW.PrintMore
attribute [local go_sem] max2_int min2_int max_two min_two max_three min_three max_four min_four   -- for this text's walks alone

end Go.Proofs.YtccbpbdfihnlgaaDoor.Q


/- Refs: texts. -/
namespace Go.Proofs.YtccbpbdfihnlgaaDoor.Q
open Go.RowKit Go.Proofs.YtccbpbdfihnlgaaDoorW.PrintWords Go.Proofs.YtccbpbdfihnlgaaDoorW.PrintLast Go.Proofs.YtccbpbdfihnlgaaDoorW.PrintMore
theorem b1 (c : UInt8) : (⟨#[c]⟩ : ByteArray).size = 1 := rfl
theorem chkR_zero {r : S55} (h : chkR r = 0) : nameB r.f0 = true ∧ wholeB r = true := by
  unfold chkR at h
  split at h
  · rename_i h1
    split at h
    · rename_i h2; exact ⟨h1, h2⟩
    · cases h
  · cases h
theorem whole_cases {r : S55} (h : wholeB r = true) : (r.f2.toList = [] ∧ idOk r.f1 = true) ∨ (r.f2.toList ≠ [] ∧ r.f1.toList = [] ∧ nameB r.f2 = true) := by
  unfold wholeB at h
  split at h
  · rename_i h1; exact .inl ⟨h1, h⟩
  · rename_i h1
    rw [Bool.and_eq_true, decide_eq_true_eq] at h
    exact .inr ⟨h1, h.1, h.2⟩
theorem nil_size {s : ByteArray} (h : s.toList = []) : s.size = 0 := by
  have := Lib.size_eq s
  rw [← Lib.toList_data, h] at this
  simpa using this
section
variable (l : List S55) (hn : l.length ≤ 1024) (hc : ∀ r ∈ l, chkR r = 0)
include hn hc
end
end Go.Proofs.YtccbpbdfihnlgaaDoor.Q


/- Refs: a ref found, over lists. -/
namespace Go.Proofs.YtccbpbdfihnlgaaDoor.Q
open Go.RowKit Go.Proofs.YtccbpbdfihnlgaaDoorW.PrintWords Go.Proofs.YtccbpbdfihnlgaaDoorW.PrintLast Go.Proofs.YtccbpbdfihnlgaaDoorW.PrintMore
def hasR (x : ByteArray) (e : S55) : Bool := e.f0.toList == x.toList
def firstR (p : S55 → Bool) (l : List S55) : Int := if l.findIdx p < l.length then (l.findIdx p : Int) else -1
theorem firstR_none {p : S55 → Bool} {l : List S55} (h : ∀ j, j < l.length → p (at55 l j) = false) : firstR p l = -1 := by
  unfold firstR
  rw [if_neg]
  intro hlt
  have := List.findIdx_getElem (w := hlt)
  have h2 := h _ hlt
  rw [at55_get _ _ hlt] at h2
  rw [h2] at this
  cases this
theorem firstR_at {p : S55 → Bool} {l : List S55} {i : Nat} (hi : i < l.length) (hp : p (at55 l i) = true) (h : ∀ j, j < i → p (at55 l j) = false) : l.findIdx p = i := by
  rw [List.findIdx_eq hi]
  refine ⟨by rwa [at55_get _ _ hi] at hp, fun j hj => ?_⟩
  have := h j hj
  rwa [at55_get _ _ (by omega)] at this
theorem IndexR_l0 (l : List S55) (f : ByteArray → ByteArray → ByteArray → Option Bool) (p : S55 → Bool) (hf : ∀ e ∈ l, f e.f0 e.f1 e.f2 = some (p e)) (hl : l.length ≤ 1000000) : ∀ (d i : Nat), i + d = l.length → (∀ j, j < i → p (at55 l j) = false) → Ev (fun k => api_Ref_93.l0 k l f l.length i) (firstR p l) := by
  intro d
  induction d with
  | zero =>
    intro i hi h
    rw [firstR_none (fun j hj => h j (by omega))]
    exact Ev.step (f := fun _ => some (-1)) (fun k => by rw [api_Ref_93.l0, if_neg (by omega)]) (Ev.now _)
  | succ d ih =>
    intro i hi h
    have hlt : i < l.length := by omega
    have hm : f (at55 l i).f0 (at55 l i).f1 (at55 l i).f2 = some (p (at55 l i)) := hf _ (by rw [at55_get _ _ hlt]; exact List.getElem_mem hlt)
    have e0 : rd_T55 l (i : Int) = at55 l i := rfl
    refine Ev.step (f := fun k => if p (at55 l i) = true then some (i : Int) else api_Ref_93.l0 k l f l.length ((i : Int) + 1)) (fun k => by rw [api_Ref_93.l0, if_pos (by omega), if_pos (by omega), if_pos (by omega), e0, hm, Option.bind_some, wrap_id (by omega) (by omega)]) ?_
    refine ev_iff (fun hp => ?_) (fun hp => ?_)
    · unfold firstR
      rw [firstR_at hlt hp h, if_pos hlt]
      exact Ev.now _
    · have hp' : p (at55 l i) = false := by simpa using hp
      exact_mod_cast ih (i + 1) (by omega) (fun j hj => by
        by_cases e : j = i
        · rw [e]; exact hp'
        · exact h j (by omega))
theorem IndexR_ev (l : List S55) (f : ByteArray → ByteArray → ByteArray → Option Bool) (p : S55 → Bool) (hf : ∀ e ∈ l, f e.f0 e.f1 e.f2 = some (p e)) (hl : l.length ≤ 1000000) : Ev (fun k => api_Ref_93.f k l f) (firstR p l) := by
  have := IndexR_l0 l f p hf hl l.length 0 (by omega) (fun j hj => by omega)
  exact_mod_cast this
def findR (l : List S55) (x : ByteArray) : ByteArray × ByteArray × ByteArray × Bool := if l.findIdx (hasR x) < l.length then ((at55 l (l.findIdx (hasR x))).f0, (at55 l (l.findIdx (hasR x))).f1, (at55 l (l.findIdx (hasR x))).f2, true) else (⟨#[]⟩, ⟨#[]⟩, ⟨#[]⟩, false)
theorem FindR_ev (l : List S55) (x : ByteArray) (hl : l.length ≤ 1000000) : Ev (fun k => refs_Find.f k l x) (findR l x) := by
  refine Ev.bind (IndexR_ev l _ (hasR x) (fun e _ => rfl) hl) ?_
  unfold firstR findR
  by_cases h : l.findIdx (hasR x) < l.length
  · simp only [if_pos h]
    refine Ev.congr (f := fun _ => some ((at55 l (l.findIdx (hasR x))).f0, (at55 l (l.findIdx (hasR x))).f1, (at55 l (l.findIdx (hasR x))).f2, true)) (fun k => by rw [if_neg (by omega), if_pos (by omega), if_pos (by omega)]; rfl) (Ev.now _)
  · simp only [if_neg h]
    refine Ev.congr (f := fun _ => some ((⟨#[]⟩ : ByteArray), (⟨#[]⟩ : ByteArray), (⟨#[]⟩ : ByteArray), false)) (fun k => by rw [if_pos (by decide)]) (Ev.now _)
end Go.Proofs.YtccbpbdfihnlgaaDoor.Q


/- Refs: RefsEnds. -/
namespace Go.Proofs.YtccbpbdfihnlgaaDoor.Q
open Go.RowKit Go.Proofs.YtccbpbdfihnlgaaDoorW.PrintWords Go.Proofs.YtccbpbdfihnlgaaDoorW.PrintLast Go.Proofs.YtccbpbdfihnlgaaDoorW.PrintMore
theorem nil_list : (⟨#[]⟩ : ByteArray).toList = [] := by rw [Lib.toList_data]
theorem findR_cases (l : List S55) (x : ByteArray) : (findR l x = (⟨#[]⟩, ⟨#[]⟩, ⟨#[]⟩, false) ∧ ∀ r ∈ l, r.f0.toList ≠ x.toList) ∨ (∃ r ∈ l, r.f0.toList = x.toList ∧ findR l x = (r.f0, r.f1, r.f2, true)) := by
  unfold findR
  by_cases h : l.findIdx (hasR x) < l.length
  · right
    rw [if_pos h]
    refine ⟨at55 l (l.findIdx (hasR x)), by rw [at55_get _ _ h]; exact List.getElem_mem h, ?_, rfl⟩
    have hq : hasR x l[l.findIdx (hasR x)] = true := List.findIdx_getElem (w := h)
    rw [at55_get _ _ h]
    revert hq
    generalize l[l.findIdx (hasR x)] = y
    intro hq
    unfold hasR at hq
    simpa using hq
  · left
    rw [if_neg h]
    refine ⟨rfl, fun r hr => ?_⟩
    have h1 : l.findIdx (hasR x) = l.length := Nat.le_antisymm List.findIdx_le_length (by omega)
    have := List.findIdx_eq_length.1 h1 r hr
    unfold hasR at this
    simpa using this
def resR (l : List S55) : Nat → ByteArray → ByteArray × ByteArray × Int
  | d, s => if (findR l s).2.2.2 = true ∧ (findR l s).2.2.1.toList ≠ [] then (match d with | 0 => (⟨#[]⟩, ⟨#[]⟩, 371) | d + 1 => resR l d (findR l s).2.2.1) else (s, (findR l s).2.1, 0)
theorem Resolve_l0 (l : List S55) (hn : l.length ≤ 1000000) : ∀ (d : Nat) (s : ByteArray) (i : Int), 0 ≤ i → i + d = 5 → Ev (fun k => refs_Resolve.l0 k l s i) (resR l d s) := by
  intro d
  induction d with
  | zero =>
    intro s i h0 h5
    refine Ev.step (f := ?_) (fun k => by rw [refs_Resolve.l0]) (Ev.bind (FindR_ev l s hn) ?_)
    rw [resR]
    by_cases h : (findR l s).2.2.2 = true
    · by_cases h2 : (findR l s).2.2.1.toList = []
      · rw [if_neg (fun q => q.2 h2)]
        refine Ev.congr (f := fun k => refs_Resolve.j1 k l s i ((findR l s).2.2.1.toList == []) (findR l s).1 (findR l s).2.1 (findR l s).2.2.1) (fun k => if_pos h) ?_
        exact Ev.step (f := fun _ => some (s, (findR l s).2.1, 0)) (fun k => by rw [refs_Resolve.j1, if_pos (by simp [h2])]) (Ev.now _)
      · rw [if_pos ⟨h, h2⟩]
        refine Ev.congr (f := fun k => refs_Resolve.j1 k l s i ((findR l s).2.2.1.toList == []) (findR l s).1 (findR l s).2.1 (findR l s).2.2.1) (fun k => if_pos h) ?_
        exact Ev.step (f := fun _ => some ((⟨#[]⟩ : ByteArray), (⟨#[]⟩ : ByteArray), (371 : Int))) (fun k => by rw [refs_Resolve.j1, if_neg (by simpa using h2), if_pos (by omega)]) (Ev.now _)
    · rw [if_neg (fun q => h q.1)]
      refine Ev.congr (f := fun k => refs_Resolve.j1 k l s i true (findR l s).1 (findR l s).2.1 (findR l s).2.2.1) (fun k => if_neg h) ?_
      exact Ev.step (f := fun _ => some (s, (findR l s).2.1, 0)) (fun k => by rw [refs_Resolve.j1, if_pos rfl]) (Ev.now _)
  | succ d ih =>
    intro s i h0 h5
    refine Ev.step (f := ?_) (fun k => by rw [refs_Resolve.l0]) (Ev.bind (FindR_ev l s hn) ?_)
    rw [resR]
    by_cases h : (findR l s).2.2.2 = true
    · by_cases h2 : (findR l s).2.2.1.toList = []
      · rw [if_neg (fun q => q.2 h2)]
        refine Ev.congr (f := fun k => refs_Resolve.j1 k l s i ((findR l s).2.2.1.toList == []) (findR l s).1 (findR l s).2.1 (findR l s).2.2.1) (fun k => if_pos h) ?_
        exact Ev.step (f := fun _ => some (s, (findR l s).2.1, 0)) (fun k => by rw [refs_Resolve.j1, if_pos (by simp [h2])]) (Ev.now _)
      · rw [if_pos ⟨h, h2⟩]
        refine Ev.congr (f := fun k => refs_Resolve.j1 k l s i ((findR l s).2.2.1.toList == []) (findR l s).1 (findR l s).2.1 (findR l s).2.2.1) (fun k => if_pos h) ?_
        exact Ev.step (f := fun k => refs_Resolve.l0 k l (findR l s).2.2.1 (i + 1)) (fun k => by rw [refs_Resolve.j1, if_neg (by simpa using h2), if_neg (by omega), wrap_id (by omega) (by omega)]) (ih _ (i + 1) (by omega) (by omega))
    · rw [if_neg (fun q => h q.1)]
      refine Ev.congr (f := fun k => refs_Resolve.j1 k l s i true (findR l s).1 (findR l s).2.1 (findR l s).2.2.1) (fun k => if_neg h) ?_
      exact Ev.step (f := fun _ => some (s, (findR l s).2.1, 0)) (fun k => by rw [refs_Resolve.j1, if_pos rfl]) (Ev.now _)
theorem Resolve_ev (l : List S55) (hn : l.length ≤ 1000000) (s : ByteArray) : Ev (fun k => refs_Resolve.f k l s) (if nameB s = true then resR l 5 s else (⟨#[]⟩, ⟨#[]⟩, 370)) := by
  refine Ev.bind (Name_ev s) ?_
  refine ev_iff (fun h => ?_) (fun h => ?_)
  · rw [if_pos h]; exact Resolve_l0 l hn 5 s 0 (by omega) (by omega)
  · rw [if_neg h]; exact Ev.now _
def fullR (l : List S55) (s : ByteArray) : Nat → Nat → ByteArray × Int
  | 0, _ => (⟨#[]⟩, 5)
  | d + 1, i => if (findR l (headF i ++ s)).2.2.2 = true then (headF i ++ s, 0) else fullR l s d (i + 1)
theorem Full_l0 (l : List S55) (hn : l.length ≤ 1000000) (s : ByteArray) (hs : s.size ≤ 140737488351232) : ∀ d i, Ev (fun k => refs_Full.l0 k l s d i) (fullR l s d i)
  | 0, i => Ev.congr (f := fun _ => some ((⟨#[]⟩ : ByteArray), (5 : Int))) (fun k => by rw [refs_Full.l0]) (Ev.now _)
  | d + 1, i => by
    rw [fullR]
    refine Ev.congr (f := fun k => (refs_Find.f k l (headF i ++ s)).bind fun q => if q.2.2.2 = true then some (headF i ++ s, 0) else refs_Full.l0 k l s d (i + 1)) (fun k => by rw [refs_Full.l0, if_pos (by omega)]) ?_
    refine Ev.bind (FindR_ev l _ hn) ?_
    refine ev_iff (fun h => ?_) (fun h => ?_)
    · rw [if_pos h]; exact Ev.now _
    · rw [if_neg h]; exact Full_l0 l hn s hs d (i + 1)
theorem Full_ev (l : List S55) (hn : l.length ≤ 1000000) (s : ByteArray) (hs : s.size ≤ 140737488351232) : Ev (fun k => refs_Full.f k l s) (fullR l s 5 0) := Full_l0 l hn s hs 5 0
theorem full_there (l : List S55) (hc : ∀ r ∈ l, chkR r = 0) (s : ByteArray) : ∀ d i, ((fullR l s d i).2 == 0) = (findR l (fullR l s d i).1).2.2.2
  | 0, i => by
    rw [fullR]
    rcases findR_cases l ⟨#[]⟩ with ⟨h, _⟩ | ⟨r, hr, h, _⟩
    · simp [h]
    · have := nameB_nil (s := r.f0) (by rw [h, nil_list])
      rw [(chkR_zero (hc r hr)).1] at this
      cases this
  | d + 1, i => by
    rw [fullR]
    by_cases h : (findR l (headF i ++ s)).2.2.2 = true
    · rw [if_pos h]; simp [h]
    · rw [if_neg h]; exact full_there l hc s d (i + 1)
theorem res_ends (l : List S55) (hc : ∀ r ∈ l, chkR r = 0) : ∀ (d : Nat) (s : ByteArray), nameB s = true → (resR l d s).2.2 = 0 → nameB (resR l d s).1 = true ∧ (findR l (resR l d s).1).2.2.2 = ((resR l d s).2.1.toList != []) ∧ (findR l (resR l d s).1).2.2.1.toList = [] ∧ (findR l (resR l d s).1).2.1.toList = (resR l d s).2.1.toList
  | d, s, hs, h => by
    by_cases hq : (findR l s).2.2.2 = true ∧ (findR l s).2.2.1.toList ≠ []
    · cases d with
      | zero => rw [resR, if_pos hq] at h; cases h
      | succ d =>
        have e : resR l (d + 1) s = resR l d (findR l s).2.2.1 := by rw [resR, if_pos hq]
        rw [e] at h ⊢
        refine res_ends l hc d _ ?_ h
        rcases findR_cases l s with ⟨h1, _⟩ | ⟨r, hr, _, h1⟩
        · rw [h1] at hq; cases hq.1
        · rw [h1] at hq ⊢
          rcases whole_cases (chkR_zero (hc r hr)).2 with ⟨h3, _⟩ | ⟨_, _, h3⟩
          · exact absurd h3 hq.2
          · exact h3
    · have e : resR l d s = (s, (findR l s).2.1, 0) := by cases d <;> rw [resR, if_neg hq]
      rw [e]
      refine ⟨hs, ?_, ?_, rfl⟩
      · rcases findR_cases l s with ⟨h1, _⟩ | ⟨r, hr, _, h1⟩
        · rw [h1]; simp [nil_list]
        · rw [h1] at hq ⊢
          have h2 : r.f2.toList = [] := by
            by_cases h2 : r.f2.toList = []
            · exact h2
            · exact absurd ⟨rfl, h2⟩ hq
          rcases whole_cases (chkR_zero (hc r hr)).2 with ⟨_, h3⟩ | ⟨h3, _⟩
          · have h40 := idOk_size h3
            have : r.f1.toList ≠ [] := fun e => by have := nil_size e; omega
            simp [this]
          · exact absurd h2 h3
      · rcases findR_cases l s with ⟨h1, _⟩ | ⟨r, hr, _, h1⟩
        · rw [h1]; exact nil_list
        · rw [h1] at hq ⊢
          by_cases h2 : r.f2.toList = []
          · exact h2
          · exact absurd ⟨rfl, h2⟩ hq
theorem RefsEnds_ev (l : List S55) (s : ByteArray) (hl : ∀ x ∈ l, x.f0.size ≤ 140737488351232 ∧ x.f1.size ≤ 140737488351232 ∧ x.f2.size ≤ 140737488351232) (hn : l.length ≤ 140737488351232) (hs : s.size ≤ 140737488351232) : Ev (fun k => graftagelaw37_RefsEnds.f k l s) true := by
  have hT : Ev (fun k => graftagelaw37_RefsEnds.j0 k l s true) true :=
    Ev.step (f := fun k => (graftagelaw37_lives.f k).bind fun t => some t) (fun k => by rw [graftagelaw37_RefsEnds.j0, if_pos rfl]) liveOr37
  refine Ev.bind (Few_ev l hl hn) (ev_iff (fun h1 => ?_) (fun h1 => hT))
  have h40 := (few_of l l.length 0 (by omega) h1).1
  have hsz := fewR_size h1
  refine ev_iff (fun h2 => hT) (fun h2 => ?_)
  obtain ⟨c, hc, _, hz⟩ := Check_both l (fun _ x hx => ⟨by have := hsz x hx; omega, by have := hsz x hx; omega⟩)
  refine Ev.bind hc ?_
  by_cases h0 : c = 0
  rotate_left
  · rw [show (c != 0) = true by simpa using h0]; exact hT
  subst h0
  have hall := (hz rfl).2
  have hfull := full_there l hall s 5 0
  have hF : Ev (fun k => (refs_Full.f k l s).bind fun bt113 => ((refs_Find.f k l bt113.1).bind fun bt115 => (if ((bt113.2 == 0) == bt115.2.2.2) = true then ((graftagelaw37_lives.f k).bind fun t120 => (some t120)) else (some false)))) true := by
    refine Ev.bind (Full_ev l (by omega) s hs) (Ev.bind (FindR_ev l _ (by omega)) ?_)
    rw [hfull]
    exact Ev.congr (fun k => by rw [if_pos (by simp)]) liveOr37
  have hJ : Ev (fun k => graftagelaw37_RefsEnds.j1 k l s false) true := Ev.step (f := ?_) (fun k => by rw [graftagelaw37_RefsEnds.j1, if_neg (by decide)]) hF
  refine Ev.step (f := ?_) (fun k => by rw [show ((0 : Int) != 0) = false from rfl, graftagelaw37_RefsEnds.j0, if_neg (by decide)]) ?_
  refine Ev.bind (Resolve_ev l (by omega) s) ?_
  by_cases hnm : nameB s = true
  rotate_left
  · rw [if_neg hnm]
    exact Ev.congr (fun k => if_neg (by decide)) hF
  rw [if_pos hnm]
  refine ev_iff (fun h3 => ?_) (fun h3 => hF)
  obtain ⟨e1, e2, e3, e4⟩ := res_ends l hall 5 s hnm h3
  refine Ev.bind (FindR_ev l _ (by omega)) (Ev.bind (Name_ev _) ?_)
  refine Ev.congr (f := fun k => graftagelaw37_RefsEnds.j1 k l s false) (fun k => ?_) hJ
  rw [if_pos e1, e2, if_neg (by simp), if_pos e3, e4]
  simp
end Go.Proofs.YtccbpbdfihnlgaaDoor.Q


/- RefsEnds, over plain lists and numbers. -/
namespace Go.Proofs.YtccbpbdfihnlgaaDoor.Pure
open Go.Proofs.YtccbpbdfihnlgaaDoor.Q Go.Proofs.YtccbpbdfihnlgaaDoorW.PrintWords

theorem RefsEnds : ∀ (y0 : List (S55)), ∀ (y1 : ByteArray), (y0.length * 48 ≤ 140737488351232 ∧ ∀ y_y0 ∈ y0, (y_y0.f0.size ≤ 140737488351232 ∧ y_y0.f1.size ≤ 140737488351232 ∧ y_y0.f2.size ≤ 140737488351232)) → y1.size ≤ 140737488351232 → ∃ k, graftagelaw37_RefsEnds.f k y0 y1 = some true :=
  fun y0 y1 h h1 => (RefsEnds_ev y0 y1 h.2 (by omega) h1).rounds

end Go.Proofs.YtccbpbdfihnlgaaDoor.Pure


/- What a law's argument reads as (numbers, bools, strings, structs, slices, nested) opens into the printed kinds, with the reach's bounds; for the rows of this seat. -/
namespace Go.Proofs.YtccbpbdfihnlgaaDoor.Ro
open Go.RowKit Go.Deep Go.Proofs.YtccbpbdfihnlgaaDoorW.PrintWords

/-- What a reading of type t by the form tells in the words of kind d; S: the bounds. -/
def Opens (P : Program) (t : TypeId) {α : Type} (d : Kd α) (S : α → Prop) : Prop :=
  ∀ {H : Type} (enc : TypeId × Value → H) (w : World) (fuel : Nat) (cs : List Value) (x : DataW H × List MemPlace),
    DataW.trod enc P w 0 (fun _ => true) true fuel t cs = some x → (∀ n ∈ DataW.weights P t x.1, n ≤ reachBytes) → ∃ y : α, d.K w y cs ∧ S y

section
variable {P : Program} {t e : TypeId}

theorem Opens.int {k : IntKind} (ht : P.underlying t = some (.int k)) : Opens P t (Kd.int k) (fun y => (Lit.int k y).wf = true) := by
  intro H enc w fuel cs x h _
  obtain ⟨n, rfl, rfl, hw⟩ := DataW.trod_int ht h
  exact ⟨n, rfl, hw⟩

theorem Opens.bool (ht : P.underlying t = some .bool) : Opens P t Kd.bool (fun _ => True) := by
  intro H enc w fuel cs x h _
  obtain ⟨b, rfl, rfl⟩ := DataW.trod_bool ht h
  exact ⟨b, rfl, trivial⟩

theorem Opens.string (ht : P.underlying t = some .string) : Opens P t Kd.string (fun y => y.size ≤ 140737488351232) := by
  intro H enc w fuel cs x h hn
  obtain ⟨s, rfl, rfl, _⟩ := DataW.trod_string ht h
  refine ⟨s, rfl, ?_⟩
  have := hn s.data.toList.length (by simp [DataW.weights])
  simpa [reachBytes] using this

theorem choose_list {α : Type} {n : Nat} {p : Nat → α → Prop} (h : ∀ i, i < n → ∃ y, p i y) : ∃ l : List α, l.length = n ∧ ∀ i y, l[i]? = some y → p i y := by
  induction n with
  | zero => exact ⟨[], rfl, fun i y hy => by simp at hy⟩
  | succ n ih =>
    obtain ⟨l, hl, hp⟩ := ih (fun i hi => h i (by omega))
    obtain ⟨y, hy⟩ := h n (by omega)
    refine ⟨l ++ [y], by simp [hl], fun i z hz => ?_⟩
    rcases Nat.lt_or_ge i l.length with hi | hi
    · rw [List.getElem?_append_left hi] at hz
      exact hp i z hz
    · rw [List.getElem?_append_right hi] at hz
      have : i - l.length = 0 := by
        have := (List.getElem?_eq_some_iff.1 hz).1
        simpa using this
      rw [this] at hz
      have h1 : i = n := by omega
      subst h1
      have : y = z := by simpa using hz
      subst this
      exact hy

theorem weightsAll_mem {H : Type} {e : TypeId} : ∀ {l : List (DataW H)} {d : DataW H}, d ∈ l → ∀ n ∈ d.weights P e, n ∈ DataW.weightsAll P e l
  | a :: l, d, hd, n, hn => by
    simp only [DataW.weightsAll, List.mem_append]
    rcases List.mem_cons.1 hd with rfl | hd
    · exact .inl hn
    · exact .inr (weightsAll_mem hd n hn)

theorem Opens.slice {α : Type} {d : Kd α} {S : α → Prop} {b : Nat} (ht : P.underlying t = some (.slice e)) (hc : P.cellsOf e = d.sz) (hb : P.bytesOf e = b) (h : Opens P e d S) :
    Opens P t (Kd.slice e d) (fun l => l.length * b ≤ 140737488351232 ∧ ∀ y ∈ l, S y) := by
  intro H enc w fuel cs x hx hn
  rcases open_slice ht hx with ⟨rfl, rfl⟩ | ⟨a, len, cap, m, n, D, Pl, rfl, _, hl, hm, hmm, rfl, hall⟩
  · exact ⟨[], ⟨none, 0, rfl, Nat.le_refl _, rfl, by simp, fun h => absurd h (by simp)⟩, by simp, by simp⟩
  · simp only [if_true] at hmm
    obtain rfl : m = cap := hmm
    have hel : ∀ i, i < len → ∃ y : α, (∃ cs', w.cells? 0 (a.add (i * P.cellsOf e)) (P.cellsOf e) = some cs' ∧ d.K w y cs') ∧ S y := by
      intro i hi
      obtain ⟨cs', h1, h2⟩ := hall i (by omega)
      obtain ⟨y, hy, hs⟩ := h enc w n cs' _ h2 (fun k hk => hn k (by
        simp only [DataW.weights, ht, List.mem_cons, List.mem_append]
        exact .inr (.inl (weightsAll_mem (List.mem_map.2 ⟨i, List.mem_range.2 hi, rfl⟩) k hk))))
      exact ⟨y, ⟨cs', h1, hy⟩, hs⟩
    obtain ⟨l, hll, hp⟩ := choose_list hel
    subst hll
    have hw : (l.length + (m - l.length)) * b ≤ reachBytes := by
      have := hn _ (by simp only [DataW.weights, ht, List.mem_cons]; exact .inl rfl)
      simpa [hb] using this
    refine ⟨l, ⟨some a, m, rfl, hl, rfl, by unfold maxLen at hm; omega, fun _ => ⟨a, rfl, fun j p hj => ?_⟩⟩, ?_, fun y hy => ?_⟩
    · obtain ⟨⟨cs', h1, hk⟩, _⟩ := hp j p hj
      obtain ⟨_, hlen, hcell⟩ := World.cells?_some h1
      refine ⟨cs', by rw [hlen, hc], hk, fun i u hu => ?_⟩
      have hi : i < P.cellsOf e := by
        have := (List.getElem?_eq_some_iff.1 hu).1
        omega
      have := hcell i hi
      rw [Go.Deep.add_add, hu, hc] at this
      exact this
    · have : l.length * b ≤ (l.length + (m - l.length)) * b := Nat.mul_le_mul_right _ (by omega)
      simp only [reachBytes] at hw
      omega
    · obtain ⟨j, hj⟩ := List.mem_iff_getElem?.1 hy
      exact (hp j y hj).2

/-- The fields from one on, in line. -/
def OpensF (P : Program) (fs : List Field) (o : Nat) {α : Type} (d : Kd α) (S : α → Prop) : Prop :=
  ∀ {H : Type} (enc : TypeId × Value → H) (w : World) (n : Nat) (cs : List Value) (ys : List (DataW H × List MemPlace)),
    (∀ (i : Nat) (f : Field), fs[i]? = some f → DataW.trod enc P w 0 (fun _ => true) true n f.type ((cs.drop f.offset).take (P.cellsOf f.type)) = ys[i]?) → ys.length = fs.length →
    (∀ k ∈ DataW.weightsEach P (fs.map (·.type)) (ys.map (·.1)), k ≤ reachBytes) → cs.length = o + d.sz → ∃ y : α, d.K w y (cs.drop o) ∧ S y

theorem OpensF.one {α : Type} {f : Field} {o : Nat} {d : Kd α} {S : α → Prop} (ho : f.offset = o) (hc : P.cellsOf f.type = d.sz) (h : Opens P f.type d S) : OpensF P [f] o d S := by
  intro H enc w n cs ys hf hl hw hlen
  match ys, hl with
  | [y], _ =>
    have h1 := hf 0 f rfl
    rw [ho, hc, List.take_of_length_le (by rw [List.length_drop]; omega)] at h1
    exact h enc w n _ y h1 (fun k hk => hw k (by simp [DataW.weightsEach, hk]))

theorem OpensF.cons {α β : Type} {f : Field} {fs : List Field} {o o' : Nat} {d : Kd α} {d' : Kd β} {S : α → Prop} {S' : β → Prop} (ho : f.offset = o) (hc : P.cellsOf f.type = d.sz) (ho' : o + d.sz = o')
    (h : Opens P f.type d S) (h' : OpensF P fs o' d' S') : OpensF P (f :: fs) o (Kd.pair d d') (fun z => S z.1 ∧ S' z.2) := by
  intro H enc w n cs ys hf hl hw hlen
  match ys, hl with
  | y :: ys, hl =>
    have h1 := hf 0 f rfl
    rw [ho, hc] at h1
    have hlen' : cs.length = o + (d.sz + d'.sz) := hlen
    obtain ⟨a, ha, hs⟩ := h enc w n _ y h1 (fun k hk => hw k (by simp only [List.map_cons, DataW.weightsEach, List.mem_append]; exact .inl hk))
    obtain ⟨b, hb, hs'⟩ := h' enc w n cs ys (fun i g hg => hf (i + 1) g (by simpa using hg)) (by simpa using hl) (fun k hk => hw k (by simp only [List.map_cons, DataW.weightsEach, List.mem_append]; exact .inr hk)) (by omega)
    refine ⟨(a, b), ⟨_, _, ?_, ha, hb⟩, hs, hs'⟩
    rw [← ho', ← List.drop_drop, List.take_append_drop]

theorem Opens.struct {α β : Type} {fs : Array Field} {d : Kd α} {S : α → Prop} {f : β → α} {g : α → β} (ht : P.underlying t = some (.struct fs)) (hc : P.cellsOf t = d.sz) (hfg : ∀ a, f (g a) = a) (h : OpensF P fs.toList 0 d S) :
    Opens P t (Kd.iso d f) (fun y => S (f y)) := by
  intro H enc w fuel cs x hx hn
  obtain ⟨xs, n, _, rfl, hl, hlen, hf⟩ := DataW.trod_struct ht hx
  obtain ⟨a, ha, hs⟩ := h enc w n cs xs (fun i q hq => hf i q (by simpa using hq)) (by simpa using hlen) (fun k hk => hn k (by simpa [DataW.weights, ht] using hk)) (by rw [hl, hc]; omega)
  refine ⟨g a, ?_, by show S (f (g a)); rw [hfg]; exact hs⟩
  show d.K w (f (g a)) cs
  rw [hfg]
  simpa using ha

theorem Opens.imp {α : Type} {d : Kd α} {S S' : α → Prop} (h : Opens P t d S) (hS : ∀ y, S y → S' y) : Opens P t d S' := by
  intro H enc w fuel cs x hx hn
  obtain ⟨y, hy, hs⟩ := h enc w fuel cs x hx hn
  exact ⟨y, hy, hS y hs⟩

/-- An argument: its cells, told. -/
theorem Opens.arg {H : Type} {enc : TypeId × Value → H} {α : Type} {d : Kd α} {S : α → Prop} {w : World} {ts : List TypeId} {ds : List (DataW H)} {j : Nat} {v : Value} {dd : DataW H} {ps : List MemPlace} (h : Opens P t d S)
    (hz : (DataW.weightsEach P ts ds).all (· ≤ reachBytes) = true) (ht : ts[j]? = some t) (hd : ds[j]? = some dd) (hv : DataW.Trod enc P w 0 (fun _ => true) true t v dd ps) : ∃ y : α, d.K w y v.cells.toList ∧ S y := by
  obtain ⟨fuel, hf⟩ := hv
  exact h enc w fuel _ (dd, ps) hf (fun n hn => by simpa using List.all_eq_true.1 hz n (DataW.weights_mem_each ht hd n hn))

theorem arg_lt {H : Type} {enc : TypeId × Value → H} {w : World} {v : Value} {dd : DataW H} {ps : List MemPlace} (hv : DataW.Trod enc P w 0 (fun _ => true) true t v dd ps) : ∀ x ∈ ps, x.block < w.heap.size := by
  obtain ⟨m, hm⟩ := hv
  exact DataW.trod_lt m _ _ _ hm
end
end Go.Proofs.YtccbpbdfihnlgaaDoor.Ro


/- The law RefsEnds holds: for every input it returns true, and each argument reads afterwards as it read before. -/
namespace Go.Proofs.YtccbpbdfihnlgaaDoor.refsEnds
open Go.ChangeShapes Go.WideShapes Go.ChangeAt Go.RowKit Go.Proofs.YtccbpbdfihnlgaaDoor.Ro Go.Proofs.YtccbpbdfihnlgaaDoor.Q Go.Proofs.YtccbpbdfihnlgaaDoorW.PrintWords
open Go.ChangeMaps (open_string shut_string)
theorem own : ownKnob Tryd.prog.godebug = none := by kernel_rfl
theorem laidOut : laidOutB Tryd.prog = true := by kernel_rfl
theorem opens9 : Opens Tryd.prog 9 Kd.string (fun y => y.size ≤ 140737488351232) := (Opens.string Tryd.underlying9)
theorem opens43 : Opens Tryd.prog 43 (Kd.slice 55 k55) (fun y => (y.length * 48 ≤ 140737488351232 ∧ ∀ y_y ∈ y, (y_y.f0.size ≤ 140737488351232 ∧ y_y.f1.size ≤ 140737488351232 ∧ y_y.f2.size ≤ 140737488351232))) := (Opens.slice Tryd.underlying43 (by kernel_rfl) (by kernel_rfl) (Opens.struct (f := (fun x : S55 => (x.f0, x.f1, x.f2))) (g := (fun a => (⟨a.1, a.2.1, a.2.2⟩ : S55))) Tryd.underlying55 (by kernel_rfl) (fun _ => rfl) (OpensF.cons rfl (by kernel_rfl) rfl (Opens.string Tryd.underlying9) (OpensF.cons rfl (by kernel_rfl) rfl (Opens.string Tryd.underlying9) (OpensF.one rfl (by kernel_rfl) (Opens.string Tryd.underlying9))))))
set_option maxRecDepth 100000 in
theorem lifted (os : Os) (started : os.Started) (H : Type) (enc : TypeId × Value → H) :
    ReturnsInHanded {} Tryd.checked os 12 .any (fun w args => (Rows.refsEndsSpec.pre enc Tryd.prog Tryd.f12 [] false w args ∧ laidMetH Tryd.prog Rows.refsEndsRow.laid w) ∧ sizedMet enc Tryd.prog Tryd.f12 (OpenSpec.ofChange Rows.refsEndsSpec) false w args) (Rows.refsEndsSpec.post enc Tryd.prog Tryd.f12 false true false false) := by
  refine returnsInHanded_and_shaped (C := Tryd.checked) (X := fun w _ => laidMetH Tryd.prog Rows.refsEndsRow.laid w) (fun _ _ _ hh h => h.of_heap hh) own started (by kernel_rfl) Tryd.func12
    (ChangeSpec.witness_shaped (enc := enc) (C := Tryd.checked) (os := os) (X := fun w _ => laidMetH Tryd.prog Rows.refsEndsRow.laid w) false (World.laidAll Tryd.prog os Rows.refsEndsRow.laid) #[.slice none 0 0, .string ByteArray.empty] 8 (World.laidAll_os _ _ _)
      (World.shaped_of_ZipB (by kernel_rfl) (by kernel_rfl)) (by kernel_rfl) (by kernel_rfl) (by kernel_rfl)
      (by rw [MakeChecks.laidMetH_plain _ _ _ (by kernel_rfl)]; exact laidMet_laidAll _ (by kernel_rfl) (by kernel_rfl))) ?_
  intro W base args ds gs before hval0 hW hcnd hsz0 _ hsh0
  have hsz : (DataW.weightsEach Tryd.prog (Tryd.f12.params.toList ++ Rows.refsEndsSpec.plain.varTypes Tryd.prog) (ds ++ gs)).all (· ≤ reachBytes) = true := hsz0
  have hval : ∀ (j : Nat) t v, Tryd.f12.params[j]? = some t → args[j]? = some v → Value.okWide Tryd.prog W .any base t v := hval0
  have hW' := hW
  obtain ⟨p, q, hA0, hV, rfl, hfz, hnd⟩ := hW
  have hA : DataW.TrodAll enc Tryd.prog W 0 (fun _ => true) true Tryd.f12.params.toList args.toList ds p := hA0
  rw [Tryd.params12] at hA hval hsz
  obtain ⟨v0, vs0, d0, ds0, p0, q0, hargs, rfl, rfl, h0, r0⟩ := trodAll_cons hA
  obtain ⟨v1, vs1, d1, ds1, p1, q1, rfl, rfl, rfl, h1, r1⟩ := trodAll_cons r0
  obtain ⟨rfl, rfl, rfl⟩ := trodAll_nil r1
  obtain rfl : args = #[v0, v1] := by cases args; simp_all
  obtain ⟨rfl, rfl⟩ := trodVars_none hV
  have lt0 := arg_lt h0
  obtain ⟨y0, hk0, w0⟩ := opens43.arg hsz (j := 0) rfl rfl h0
  obtain ⟨a0, len0, cap0, rfl⟩ := okWide_slice Tryd.underlying43 (hval 0 43 v0 rfl rfl)
  obtain ⟨A0, c0, e0, hl0, hr0⟩ := hk0
  obtain ⟨rfl, rfl, rfl⟩ : a0 = A0 ∧ len0 = y0.length ∧ cap0 = c0 := by simpa [Value.cells] using e0
  have lt1 := arg_lt h1
  obtain ⟨y1, hk1, w1⟩ := opens9.arg hsz (j := 1) rfl rfl h1
  obtain ⟨x1, rfl⟩ := okWide_string Tryd.underlying9 (hval 1 9 v1 rfl rfl)
  obtain rfl : x1 = y1 := by simpa [Kd.string, Kd.scalar, Value.cells] using hk1
  obtain ⟨k, hp⟩ := Pure.RefsEnds _ _ w0 w1
  clear hA0 hval0 hsz0 hsz
  refine (Q.graftagelaw37_RefsEnds.calls k _ _ y0 _ true W hr0 hl0 (GV.shaped hsh0) hp).mono ?_
  rintro e W' ⟨rfl, bel0⟩
  have bel : Below W.heap.size W W' := bel0
  exact ⟨_, rfl, _, _, _, [], _, [], hW', trodAll_mk1 (shut_bool Tryd.underlying4 _), (trodAll_cons_mk (Below.trod laidOut (by kernel_rfl) (of_decide_eq_true (by kernel_rfl)) h0 bel lt0) (trodAll_cons_mk (Below.trod laidOut (by kernel_rfl) (of_decide_eq_true (by kernel_rfl)) h1 bel lt1) trodAll_mk0)), rfl, bel.frame _, fun h => by cases h⟩
theorem over : Rows.refsEndsRow.holds Tryd.pinned (OpenSpec.ofChange Rows.refsEndsSpec) :=
  OpenClaim.holds_of_wide 12 Tryd.f12 rfl rfl rfl rfl rfl rfl rfl ⟨rfl, rfl, rfl, rfl, rfl⟩ rfl rfl rfl rfl rfl (by kernel_rfl) Tryd.func12 (by kernel_rfl)
    (of_decide_eq_true (by kernel_rfl)) (by unfold Func.isWrapper; first | (rw [if_pos (by decide +kernel)]; kernel_rfl) | (rw [if_neg (by decide +kernel)]; exact ⟨rfl, rfl⟩))
    (fun os started H enc _ => lifted os started H enc)
theorem proved : Rows.RefsEndsSaid := over
theorem card_holds : Rows.RefsEndsCardSaid :=
  Claim7.holds_tied_plain_at .later [] [.data, .pinned] true (true, "f211dbb39e0f8aee4bdc9ae8c5517fa944c5333aa6a5e92b425f441664a6fa8b") false over (fun _ h => by cases h) (by kernel_rfl) (fun _ h => by cases h) refsEnds_row_tie rfl ⟨rfl, rfl⟩ (by kernel_rfl) rfl
    (fun f fn hf hfn => by
      obtain rfl : f = 12 := Option.some.inj ((show Tryd.prog.funcNamed "graftage/graftagelaw37.RefsEnds" = some 12 by kernel_rfl).symm.trans hf) |>.symm
      obtain rfl : fn = Tryd.f12 := (Option.some.inj (Tryd.func12.symm.trans hfn)).symm
      exact ⟨by kernel_rfl, fun j t ht => by
        rw [Tryd.params12] at ht
        have hm : t ∈ [43, 9] := by simpa using Array.mem_of_getElem? ht
        have hall : ([43, 9].all fun u => !Tryd.prog.wantsStandIn u) = true := by kernel_rfl
        exact (show Tryd.prog.wantsStandIn t = false by simpa using List.all_eq_true.1 hall t hm)⟩)
    (by kernel_rfl)
#print axioms card_holds
end Go.Proofs.YtccbpbdfihnlgaaDoor.refsEnds
namespace Go.Proofs.YtccbpbdfihnlgaaDoor
/-- The statement, under a short name, for the claim. -/
theorem refsEnds_holds : Rows.RefsEndsCardSaid := refsEnds.card_holds
end Go.Proofs.YtccbpbdfihnlgaaDoor


