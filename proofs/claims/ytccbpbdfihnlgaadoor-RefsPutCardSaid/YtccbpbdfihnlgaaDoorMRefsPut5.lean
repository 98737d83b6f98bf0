/- The law RefsPut holds: for every input it returns true, and each argument reads afterwards as it read before. -/
import Derived.Test.YtccbpbdfihnlgaaDoorMYRefsPut1
import Derived.Test.YtccbpbdfihnlgaaDoorMRefsPut1
import Derived.Test.YtccbpbdfihnlgaaDoorMRefsPut2
import Derived.Test.YtccbpbdfihnlgaaDoorMRefsPut3
import Derived.Test.YtccbpbdfihnlgaaDoorMRefsPut4
import Derived.Deep.Slices
import Derived.Lib.SmallJoins
import Derived.ChangeArms
import Derived.SizedLaws
import Derived.WalkKit
import Derived.ProofKit
import Derived.Test.YtccbpbdfihnlgaaDoorRows
import Derived.Test.YtccbpbdfihnlgaaDoorTie
import Derived.Test.YtccbpbdfihnlgaaDoorCards
import Derived.OpenShut
import Derived.ShutString
import Derived.ChangeOld
import Derived.Below
import Derived.Lay
import Derived.LaidOnce
import Derived.SevenTiedAt
import Derived.LaidLaws
import Derived.Handed
import Derived.ChangeVars
import Derived.JoinedOf
set_option linter.unusedVariables false
set_option linter.unusedSimpArgs false
/- Refs: RefsEnds. -/
namespace Go.Proofs.YtccbpbdfihnlgaaDoor.Q
open Go.RowKit Go.Proofs.YtccbpbdfihnlgaaDoorW.PrintWords Go.Proofs.YtccbpbdfihnlgaaDoorW.PrintLast Go.Proofs.YtccbpbdfihnlgaaDoorW.PrintMore
end Go.Proofs.YtccbpbdfihnlgaaDoor.Q


/- Refs: a ref dropped, over lists. -/
namespace Go.Proofs.YtccbpbdfihnlgaaDoor.Q
open Go.RowKit Go.Proofs.YtccbpbdfihnlgaaDoorW.PrintWords Go.Proofs.YtccbpbdfihnlgaaDoorW.PrintLast Go.Proofs.YtccbpbdfihnlgaaDoorW.PrintMore
def dropR (l : List S55) (x : ByteArray) : List S55 := l.filter (fun e => !hasR x e)
theorem DelR_l0 (o : List S55) (f : ByteArray → ByteArray → ByteArray → Option Bool) (p : S55 → Bool) (hf : ∀ e ∈ o, f e.f0 e.f1 e.f2 = some (p e)) (hl : o.length ≤ 1000000) : ∀ (d j i : Nat) (x : List S55), j + d = o.length → x.length = o.length → i ≤ j → x.take i = (o.take j).filter (fun e => !p e) → x.drop j = o.drop j → Ev (fun k => api_Ref_101.l0 k x f i j) (o.filter (fun e => !p e)) := by
  intro d
  induction d with
  | zero =>
    intro j i x hj hx hij ht hd
    refine Ev.step (f := fun _ => some ((x.take i ++ List.replicate (x.length - i) z55).take i)) (fun k => by rw [api_Ref_101.l0, if_neg (by omega), if_pos (by omega), if_pos (by omega), Int.toNat_natCast]) ?_
    have : (x.take i ++ List.replicate (x.length - i) z55).take i = o.filter (fun e => !p e) := by
      rw [List.take_left' (by rw [List.length_take]; omega), ht, List.take_of_length_le (by omega)]
    rw [this]
    exact Ev.now _
  | succ d ih =>
    intro j i x hj hx hij ht hd
    have hlt : j < o.length := by omega
    have hxj : at55 x j = o[j] := by
      rw [at55_get _ _ (by omega)]
      have h1 := List.drop_eq_getElem_cons (l := x) (i := j) (by omega)
      rw [hd, List.drop_eq_getElem_cons hlt] at h1
      exact (List.cons.inj h1).1.symm
    have hm : f (at55 x j).f0 (at55 x j).f1 (at55 x j).f2 = some (p (at55 x j)) := hf _ (by rw [hxj]; exact List.getElem_mem hlt)
    have e0 : rd_T55 x (j : Int) = at55 x j := rfl
    have htk : o.take (j + 1) = o.take j ++ [o[j]] := by rw [List.take_succ_eq_append_getElem hlt]
    have hdr : x.drop (j + 1) = o.drop (j + 1) := by rw [← List.drop_drop, hd, List.drop_drop]
    refine Ev.step (f := fun k => if p (at55 x j) = true then api_Ref_101.l0 k x f i ((j : Int) + 1) else api_Ref_101.l0 k (x.set i (at55 x j)) f ((i : Int) + 1) ((j : Int) + 1)) (fun k => ?_) ?_
    · rw [api_Ref_101.l0, if_pos (by omega), if_pos (by omega), e0, hm, Option.bind_some, wrap_id (by omega) (by omega), wrap_id (by omega) (by omega), if_pos (show (0 : Int) ≤ (i : Int) by omega), if_pos (show (i : Int) < (x.length : Int) by omega), Int.toNat_natCast]
    · refine ev_iff (fun hp => ?_) (fun hp => ?_)
      · exact_mod_cast ih (j + 1) i x (by omega) hx (by omega) (by rw [ht, htk, List.filter_append, ← hxj]; simp [hp]) hdr
      · have hp' : p (at55 x j) = false := by simpa using hp
        have := ih (j + 1) (i + 1) (x.set i (at55 x j)) (by omega) (by rw [List.length_set, hx]) (by omega) (by
          rw [List.take_succ_eq_append_getElem (by rw [List.length_set]; omega), List.getElem_set_self, List.take_set_of_le (Nat.le_refl _), ht, htk, List.filter_append, ← hxj]
          simp [hp']) (by rw [List.drop_set_of_lt (by omega), hdr])
        exact_mod_cast this
theorem DelR_ev (o : List S55) (f : ByteArray → ByteArray → ByteArray → Option Bool) (p : S55 → Bool) (hf : ∀ e ∈ o, f e.f0 e.f1 e.f2 = some (p e)) (hl : o.length ≤ 1000000) : Ev (fun k => api_Ref_101.f k o f) (o.filter (fun e => !p e)) := by
  refine Ev.bind (IndexR_ev o f p hf hl) ?_
  unfold firstR
  by_cases h : o.findIdx p < o.length
  · simp only [if_pos h]
    refine Ev.congr (f := fun k => api_Ref_101.l0 k o f (o.findIdx p) ((o.findIdx p + 1 : Nat) : Int)) (fun k => by rw [if_neg (by omega), wrap_id (by omega) (by omega)]; rfl) ?_
    refine DelR_l0 o f p hf hl (o.length - (o.findIdx p + 1)) (o.findIdx p + 1) (o.findIdx p) o (by omega) rfl (by omega) ?_ rfl
    have hall : ∀ e ∈ o.take (o.findIdx p), p e = false := by
      intro e he
      obtain ⟨j, hj, rfl⟩ := List.mem_iff_getElem.1 he
      rw [List.length_take] at hj
      rw [List.getElem_take]
      exact List.not_of_lt_findIdx (by omega)
    rw [List.take_succ_eq_append_getElem h, List.filter_append, List.filter_eq_self.2 (fun e he => by rw [hall e he]; rfl)]
    have := List.findIdx_getElem (w := h)
    simp [this]
  · simp only [if_neg h]
    have : o.filter (fun e => !p e) = o := List.filter_eq_self.2 (fun e he => by
      have h1 : o.findIdx p = o.length := Nat.le_antisymm List.findIdx_le_length (by omega)
      rw [List.findIdx_eq_length.1 h1 e he]; rfl)
    rw [this]
    exact Ev.congr (f := fun _ => some o) (fun k => if_pos True.intro) (Ev.now _)
theorem DropR_ev (l : List S55) (x : ByteArray) (hl : l.length ≤ 1000000) : Ev (fun k => refs_Drop.f k l x) (dropR l x) := by
  have h0 : api_Ref_98.f l = some l := by
    unfold api_Ref_98.f
    simp only [Option.bind_some, List.length_nil, List.nil_append]
    rw [if_pos (by omega)]
  unfold refs_Drop.f
  rw [h0]
  simp only [Option.bind_some]
  exact Ev.bind (DelR_ev l _ (hasR x) (fun e _ => rfl) hl) (Ev.now _)
end Go.Proofs.YtccbpbdfihnlgaaDoor.Q


/- Refs: RefsPut. -/
namespace Go.Proofs.YtccbpbdfihnlgaaDoor.Q
open Go.RowKit Go.Proofs.YtccbpbdfihnlgaaDoorW.PrintWords Go.Proofs.YtccbpbdfihnlgaaDoorW.PrintLast Go.Proofs.YtccbpbdfihnlgaaDoorW.PrintMore
/-! ### names that meet -/
def meetB (a b : ByteArray) : Bool := decide (a.toList = b.toList) || (withinB a b || withinB b a)
theorem meetB_comm (a b : ByteArray) : meetB a b = meetB b a := by
  unfold meetB
  rw [Bool.or_comm (withinB a b), show decide (a.toList = b.toList) = decide (b.toList = a.toList) by rw [decide_eq_decide]; exact eq_comm]
theorem Meet_l1 (l : List ByteArray) (hl : ∀ x ∈ l, x.size ≤ 140737488351232) (hn : l.length ≤ 1000000) (i : Nat) (hi : i < l.length) (r : Int × Int × Bool) (hr : Ev (fun k => path_Meet.l0 k l l l.length ((i : Int) + 1)) r) : ∀ (d j : Nat), j + d = l.length →
    ∃ q, Ev (fun k => path_Meet.l1 k l i l[i] j l l.length i) q ∧ ((q.2.2 = false) ↔ (r.2.2 = false ∧ ∀ y ∈ l.drop j, meetB l[i] y = false)) := by
  intro d
  induction d with
  | zero =>
    intro j hj
    refine ⟨r, Ev.step (f := fun k => path_Meet.l0 k l l l.length ((i : Int) + 1)) (fun k => by rw [path_Meet.l1, if_neg (by omega), wrap_id (by omega) (by omega)]) hr, ?_⟩
    rw [List.drop_of_length_le (by omega)]
    simp
  | succ d ih =>
    intro j hj
    have hjl : j < l.length := by omega
    have e1 : rdOf ByteArray.empty l (j : Int) = l[j] := rd_ext l j hjl
    have hi' := hl _ (List.getElem_mem hi)
    have hj' := hl _ (List.getElem_mem hjl)
    have hst : ∀ k, path_Meet.l1 (k + 1) l i l[i] j l l.length i = if meetB l[i] l[j] = true then some ((i : Int), (j : Int), true) else path_Meet.l1 k l i l[i] ((j : Int) + 1) l l.length i := by
      intro k
      rw [path_Meet.l1, if_pos (by omega), if_pos (by omega), e1, path_Within_eq _ _ hi', path_Within_eq _ _ hj']
      simp only [Option.bind_some]
      rw [wrap_id (by omega) (by omega)]
      unfold meetB
      by_cases h1 : l[i].toList = l[j].toList
      · rw [if_pos h1, if_pos (by simp [h1])]
      · rw [if_neg h1]
        by_cases h2 : withinB l[i] l[j] = true
        · rw [if_pos h2, if_pos (by simp [h2])]
        · rw [if_neg h2]
          by_cases h3 : withinB l[j] l[i] = true
          · rw [if_pos h3, if_pos (by simp [h3])]
          · rw [if_neg h3, if_neg (by simp [h1, h2, h3])]
    by_cases h : meetB l[i] l[j] = true
    · refine ⟨((i : Int), (j : Int), true), Ev.step (f := fun _ => some ((i : Int), (j : Int), true)) (fun k => by rw [hst, if_pos h]) (Ev.now _), ?_⟩
      rw [List.drop_eq_getElem_cons hjl]
      constructor
      · intro hf; cases hf
      · rintro ⟨_, hf⟩
        rw [hf _ List.mem_cons_self] at h
        cases h
    · obtain ⟨q, hq, hqi⟩ := ih (j + 1) (by omega)
      refine ⟨q, Ev.step (f := fun k => path_Meet.l1 k l i l[i] ((j : Int) + 1) l l.length i) (fun k => by rw [hst, if_neg h]) (by exact_mod_cast hq), ?_⟩
      have h' : meetB l[i] l[j] = false := by simpa using h
      rw [hqi, List.drop_eq_getElem_cons hjl, List.forall_mem_cons]
      simp only [h', true_and]
theorem Meet_l0 (l : List ByteArray) (hl : ∀ x ∈ l, x.size ≤ 140737488351232) (hn : l.length ≤ 1000000) : ∀ (d i : Nat), i + d = l.length →
    ∃ q, Ev (fun k => path_Meet.l0 k l l l.length i) q ∧ ((q.2.2 = false) ↔ (l.drop i).Pairwise (fun a b => meetB a b = false)) := by
  intro d
  induction d with
  | zero =>
    intro i hi
    refine ⟨(0, 0, false), Ev.step (f := fun _ => some (0, 0, false)) (fun k => by rw [path_Meet.l0, if_neg (by omega)]) (Ev.now _), ?_⟩
    rw [List.drop_of_length_le (by omega)]
    simp
  | succ d ih =>
    intro i hi
    have hil : i < l.length := by omega
    have e1 : rdOf ByteArray.empty l (i : Int) = l[i] := rd_ext l i hil
    obtain ⟨r, hr, hri⟩ := ih (i + 1) (by omega)
    obtain ⟨q, hq, hqi⟩ := Meet_l1 l hl hn i hil r (by exact_mod_cast hr) (l.length - (i + 1)) (i + 1) (by omega)
    refine ⟨q, Ev.step (f := fun k => path_Meet.l1 k l i l[i] ((i : Int) + 1) l l.length i) (fun k => by rw [path_Meet.l0, if_pos (by omega), if_pos (by omega), if_pos (by omega), e1, wrap_id (by omega) (by omega)]) (by exact_mod_cast hq), ?_⟩
    rw [hqi, hri, List.drop_eq_getElem_cons hil, List.pairwise_cons]
    exact and_comm
theorem Meet_free (l : List ByteArray) (hl : ∀ x ∈ l, x.size ≤ 140737488351232) (hn : l.length ≤ 1000000) : ∃ q, Ev (fun k => path_Meet.f k l) q ∧ ((q.2.2 = false) ↔ l.Pairwise (fun a b => meetB a b = false)) := by
  obtain ⟨q, h1, h2⟩ := Meet_l0 l hl hn l.length 0 (by omega)
  exact ⟨q, by exact_mod_cast h1, by simpa using h2⟩
/-! ### lists that may be -/
def lessR (a b : S55) : Bool := Op.bytesLess a.f0.toList b.f0.toList
theorem lessR_eq (a b : S55) : lessR a b = decide (a.f0.toList < b.f0.toList) := Go.Proofs.bytesLess_eq _ _
theorem lessR_trans {a b c : S55} (h1 : lessR a b = true) (h2 : lessR b c = true) : lessR a c = true := by
  rw [lessR_eq, decide_eq_true_eq] at *
  exact List.lt_trans h1 h2
theorem lessR_ne {a b : S55} (h : lessR a b = true) : a.f0.toList ≠ b.f0.toList := by
  rw [lessR_eq, decide_eq_true_eq] at h
  intro e
  rw [e] at h
  exact List.lt_irrefl _ h
structure GoodR (l : List S55) : Prop where
  len : l.length ≤ 1024
  chk : ∀ r ∈ l, chkR r = 0
  srt : l.Pairwise (fun a b => lessR a b = true)
  free : l.Pairwise (fun a b => meetB a.f0 b.f0 = false)
theorem srt_of {l : List S55} (h : ∀ j, j < l.length → 0 < j → ltN l j = true) : l.Pairwise (fun a b => lessR a b = true) := by
  rw [List.pairwise_iff_getElem]
  intro i j hi hjl hij
  have key : ∀ d, i + 1 + d < l.length → lessR (at55 l i) (at55 l (i + 1 + d)) = true := by
    intro d
    induction d with
    | zero =>
      intro hd
      have := h (i + 1) (by omega) (by omega)
      unfold ltN at this
      unfold lessR
      simpa using this
    | succ d ih =>
      intro hd
      have h1 := h (i + 1 + (d + 1)) (by omega) (by omega)
      unfold ltN at h1
      rw [show i + 1 + (d + 1) - 1 = i + 1 + d by omega] at h1
      exact lessR_trans (ih (by omega)) h1
  have := key (j - (i + 1)) (by omega)
  rw [show i + 1 + (j - (i + 1)) = j by omega, at55_get _ _ hi, at55_get _ _ hjl] at this
  exact this
theorem cRF_good {l : List S55} (hc : ∀ r ∈ l, chkR r = 0) (hs : l.Pairwise (fun a b => lessR a b = true)) : ∀ d i, i + d = l.length → cRF l 0 d i = 0
  | 0, i, _ => rfl
  | d + 1, i, hi => by
    have hlt : i < l.length := by omega
    rw [cRF, if_pos (hc _ (by rw [at55_get _ _ hlt]; exact List.getElem_mem hlt)), if_neg, cRF_good hc hs d (i + 1) (by omega)]
    rw [Bool.not_eq_true, Bool.and_eq_false_iff]
    by_cases h0 : 0 < i
    · right
      have := List.pairwise_iff_getElem.1 hs (i - 1) i (by omega) hlt (by omega)
      rw [← at55_get l (i - 1) (by omega), ← at55_get l i hlt] at this
      show (!ltN l i) = false
      unfold ltN
      unfold lessR at this
      rw [this]; rfl
    · left; exact decide_eq_false h0
theorem CheckR_ev (l : List S55) (hs : ∀ x ∈ l, x.f0.size ≤ 140737488351232) (hn : l.length ≤ 1024) : ∃ c, Ev (fun k => refs_Check.f k l) c ∧ (c = 0 ↔ GoodR l) := by
  obtain ⟨q, h1, h2⟩ := Meet_free (l.map (·.f0)) (fun x hx => by obtain ⟨r, hr, rfl⟩ := List.mem_map.1 hx; exact hs r hr) (by rw [List.length_map]; omega)
  have hf1 : Ev (fun k => (refs_names.f k l).bind fun t115 => ((path_Meet.f k t115).bind fun bt118 => (if bt118.2.2 = true then (some (61 : Int)) else (some 0)))) (if q.2.2 = true then 61 else 0) := Ev.bind (names_ev l (by omega)) (Ev.bind h1 (ev_iff (fun h => by rw [if_pos h]; exact Ev.now _) (fun h => by rw [if_neg h]; exact Ev.now _)))
  have e1 := Check_l0 l (by omega) _ hf1 l.length 0 (by omega)
  refine ⟨_, Ev.congr (fun k => by unfold refs_Check.f; rw [if_neg (by omega)]) (by exact_mod_cast e1), ?_⟩
  rw [List.pairwise_map] at h2
  constructor
  · intro h
    obtain ⟨h3, h4⟩ := cRF_zero l _ _ _ h
    refine ⟨hn, fun r hr => ?_, srt_of (fun j hj h0 => (h4 j (by omega) (by omega)).2 h0), h2.1 ?_⟩
    · obtain ⟨j, hj, rfl⟩ := List.mem_iff_getElem.1 hr
      have := (h4 j (by omega) (by omega)).1
      rwa [at55_get l j hj] at this
    · by_cases hq : q.2.2 = true
      · rw [if_pos hq] at h3; cases h3
      · simpa using hq
  · intro h
    rw [if_neg (by rw [h2.2 h.free]; decide)]
    exact cRF_good h.chk h.srt _ _ (by omega)
/-! ### the place -/
theorem cmp_lt : ∀ a b : List UInt8, (Lib.compareBytes a b < 0 ↔ a < b) ∧ (Lib.compareBytes a b = 0 ↔ a = b)
  | [], [] => by simp [Lib.compareBytes]
  | [], y :: q => by simp [Lib.compareBytes]
  | x :: r, [] => by simp [Lib.compareBytes]
  | x :: r, y :: q => by
    obtain ⟨h1, h2⟩ := cmp_lt r q
    rw [Lib.compareBytes]
    by_cases hl : x < y
    · rw [if_pos hl]
      have hne : x ≠ y := fun e => by subst e; exact absurd hl (by simp)
      constructor
      · simp [List.cons_lt_cons_iff, hl]
      · simp [hne]
    · rw [if_neg hl]
      by_cases hg : y < x
      · rw [if_pos hg]
        have hne : x ≠ y := fun e => by subst e; exact absurd hg (by simp)
        constructor
        · simp [List.cons_lt_cons_iff, hl, hne]
        · simp [hne]
      · rw [if_neg hg]
        have he : x = y := by
          rw [UInt8.lt_iff_toNat_lt] at hl hg
          exact UInt8.toNat_inj.1 (by omega)
        subst he
        constructor
        · rw [h1, List.cons_lt_cons_iff]; simp
        · rw [h2]; simp
def cmpF (r : S55) (x : ByteArray) : Int := Lib.compareBytes r.f0.data.toList x.data.toList
theorem cmpF_lt (r : S55) (x : ByteArray) : cmpF r x < 0 ↔ r.f0.toList < x.toList := by
  rw [Lib.toList_data, Lib.toList_data]; exact (cmp_lt _ _).1
theorem cmpF_eq (r : S55) (x : ByteArray) : cmpF r x = 0 ↔ r.f0.toList = x.toList := by
  rw [Lib.toList_data, Lib.toList_data]; exact (cmp_lt _ _).2
theorem place_l0 (l : List S55) (x : ByteArray) (hn : l.length ≤ 1000000) (hs : l.Pairwise (fun a b => lessR a b = true)) : ∀ (d i j : Nat), j - i ≤ d → i ≤ j → j ≤ l.length → (∀ t (h : t < l.length), t < i → l[t].f0.toList < x.toList) → (∀ t (h : t < l.length), j ≤ t → ¬ l[t].f0.toList < x.toList) →
    ∃ (p : Nat) (b : Bool), Ev (fun k => api_Ref_string.l0 k l x (fun z0 z1 z2 z3 => refs_place_1.f z0 z1 z2 z3) l.length i j) ((p : Int), b) ∧ p ≤ l.length ∧ (∀ t (h : t < l.length), t < p → l[t].f0.toList < x.toList) ∧ (∀ t (h : t < l.length), p ≤ t → ¬ l[t].f0.toList < x.toList) ∧ (b = true ↔ ∃ h : p < l.length, l[p].f0.toList = x.toList) := by
  intro d
  induction d with
  | zero =>
    intro i j hd hij hjl hlo hhi
    have e : j = i := by omega
    subst e
    by_cases hlt : j < l.length
    · refine ⟨j, cmpF l[j] x == 0, Ev.step (f := fun _ => some ((j : Int), cmpF l[j] x == 0)) (fun k => ?_) (Ev.now _), hjl, hlo, hhi, ?_⟩
      · have e0 : rd_T55 l (j : Int) = l[j] := at55_get l j hlt
        rw [api_Ref_string.l0, if_neg (by omega), if_pos (by omega), if_pos (by omega), if_pos (by omega), e0]
        rfl
      · rw [beq_iff_eq, cmpF_eq]; exact ⟨fun h => ⟨hlt, h⟩, fun ⟨_, h⟩ => h⟩
    · exact ⟨j, false, Ev.step (f := fun _ => some ((j : Int), false)) (fun k => by rw [api_Ref_string.l0, if_neg (by omega), if_neg (by omega)]) (Ev.now _), hjl, hlo, hhi, ⟨fun h => (by cases h), fun ⟨h, _⟩ => absurd h hlt⟩⟩
  | succ d ih =>
    intro i j hd hij hjl hlo hhi
    by_cases hlt : i < j
    · have hm : wrap64 ((IntKind.u64.wrap (wrap64 ((i : Int) + (j : Int)))) / 2) = (((i + j) / 2 : Nat) : Int) := by
        rw [wrap_id (x := (i : Int) + j) (by omega) (by omega)]
        have : IntKind.u64.wrap ((i : Int) + (j : Int)) = (i : Int) + j := by
          simp [IntKind.wrap, IntKind.bits, IntKind.signed]
          omega
        rw [this, wrap_id (by omega) (by omega)]
        omega
      have hml : (i + j) / 2 < l.length := by omega
      have e0 : rd_T55 l (((i + j) / 2 : Nat) : Int) = l[(i + j) / 2] := at55_get l _ hml
      have hst : ∀ k, api_Ref_string.l0 (k + 1) l x (fun z0 z1 z2 z3 => refs_place_1.f z0 z1 z2 z3) l.length i j = if cmpF l[(i + j) / 2] x < 0 then api_Ref_string.l0 k l x (fun z0 z1 z2 z3 => refs_place_1.f z0 z1 z2 z3) l.length (((i + j) / 2 + 1 : Nat) : Int) j else api_Ref_string.l0 k l x (fun z0 z1 z2 z3 => refs_place_1.f z0 z1 z2 z3) l.length i (((i + j) / 2 : Nat) : Int) := by
        intro k
        rw [api_Ref_string.l0, if_pos (by omega), hm, if_pos (by omega), if_pos (by omega), e0, wrap_id (x := (((i + j) / 2 : Nat) : Int) + 1) (by omega) (by omega)]
        rfl
      have srt := List.pairwise_iff_getElem.1 hs
      by_cases h : cmpF l[(i + j) / 2] x < 0
      · obtain ⟨p, b, h1, h2⟩ := ih ((i + j) / 2 + 1) j (by omega) (by omega) hjl (fun t ht htl => by
          rcases Nat.lt_or_ge t ((i + j) / 2) with h3 | h3
          · have := srt t ((i + j) / 2) ht hml h3
            rw [lessR_eq, decide_eq_true_eq] at this
            exact List.lt_trans this ((cmpF_lt _ _).1 h)
          · have : t = (i + j) / 2 := by omega
            subst this
            exact (cmpF_lt _ _).1 h) hhi
        exact ⟨p, b, Ev.step (fun k => by rw [hst, if_pos h]) h1, h2⟩
      · obtain ⟨p, b, h1, h2⟩ := ih i ((i + j) / 2) (by omega) (by omega) (by omega) hlo (fun t ht htl => by
          rcases Nat.lt_or_ge ((i + j) / 2) t with h3 | h3
          · have := srt ((i + j) / 2) t hml ht h3
            rw [lessR_eq, decide_eq_true_eq] at this
            exact fun h4 => h ((cmpF_lt _ _).2 (List.lt_trans this h4))
          · have : t = (i + j) / 2 := by omega
            subst this
            exact fun h4 => h ((cmpF_lt _ _).2 h4))
        exact ⟨p, b, Ev.step (fun k => by rw [hst, if_neg h]) h1, h2⟩
    · exact ih i j (by omega) hij hjl hlo hhi
/-! ### what is put -/
def wayB (r x : S55) : Bool := withinB x.f0 r.f0 || withinB r.f0 x.f0
structure Puts (l m : List S55) (r : S55) : Prop where
  cut : ∃ a c b, l = a ++ c ++ b ∧ m = a ++ [r] ++ b ∧ (∀ x ∈ c, x.f0.toList = r.f0.toList) ∧ (∀ x ∈ a, lessR x r = true) ∧ (∀ x ∈ b, lessR r x = true) ∧ c.length ≤ 1
  way : ∀ x ∈ l, wayB r x = false
  chk : chkR r = 0
theorem Put_ev (l : List S55) (r : S55) (hg : GoodR l) (hn : l.length ≤ 40) (hs : ∀ x ∈ l, x.f0.size ≤ 140737488351232) (hr : r.f0.size ≤ 140737488351232) : ∃ m e, Ev (fun k => refs_Put.f k l r.f0 r.f1 r.f2) (m, e) ∧ ((e ≠ 0 ∧ m = []) ∨ (e = 0 ∧ Puts l m r)) := by
  by_cases hc : chkR r = 0
  rotate_left
  · refine ⟨[], chkR r, Ev.bind (check_ev r) ?_, .inl ⟨hc, rfl⟩⟩
    exact Ev.congr (fun k => if_neg hc) (Ev.now _)
  have hw : ∀ x ∈ l, refs_Put_1.f x.f0 x.f1 x.f2 r.f0 r.f1 r.f2 = some (wayB r x) := fun x hx => by
    unfold refs_Put_1.f wayB
    rw [path_Within_eq _ _ (hs x hx), path_Within_eq _ _ hr]
    cases withinB x.f0 r.f0 <;> rfl
  have hway : Ev (fun k => api_Ref_97.f k l (fun z0 z1 z2 => refs_Put_1.f z0 z1 z2 r.f0 r.f1 r.f2)) (decide (firstR (wayB r) l ≥ 0)) := Ev.bind (IndexR_ev l _ (wayB r) hw (by omega)) (Ev.now _)
  by_cases hx : firstR (wayB r) l ≥ 0
  · refine ⟨[], 61, Ev.bind (check_ev r) ?_, .inl ⟨by decide, rfl⟩⟩
    refine Ev.congr (f := fun k => (api_Ref_97.f k l (fun z0 z1 z2 => refs_Put_1.f z0 z1 z2 r.f0 r.f1 r.f2)).bind _) (fun k => if_pos hc) (Ev.bind hway ?_)
    exact Ev.congr (fun k => if_pos (by simpa using hx)) (Ev.now _)
  have hfree : ∀ x ∈ l, wayB r x = false := by
    intro x hxm
    have h1 : l.findIdx (wayB r) = l.length := by
      unfold firstR at hx
      split at hx
      · omega
      · exact Nat.le_antisymm List.findIdx_le_length (by omega)
    exact List.findIdx_eq_length.1 h1 x hxm
  have h0 : api_Ref_98.f l = some l := by
    unfold api_Ref_98.f
    simp only [Option.bind_some, List.length_nil, List.nil_append]
    rw [if_pos (by omega)]
  obtain ⟨p, b, h1, h2, h3, h4, h5⟩ := place_l0 l r.f0 (by omega) hg.srt l.length 0 l.length (by omega) (by omega) (Nat.le_refl _) (fun t ht h => by omega) (fun t ht h => by omega)
  have hplace : Ev (fun k => refs_place.f k l r.f0) ((p : Int), b) := Ev.bind (by exact_mod_cast h1) (Ev.now _)
  have srt := List.pairwise_iff_getElem.1 hg.srt
  have hlo : ∀ x ∈ l.take p, lessR x r = true := fun x hx => by
    obtain ⟨j, hj, rfl⟩ := List.mem_iff_getElem.1 hx
    rw [List.length_take] at hj
    rw [List.getElem_take, lessR_eq, decide_eq_true_eq]
    exact h3 j (by omega) (by omega)
  have hgo : ∀ m, Ev (fun k => (refs_place.f k l r.f0).bind fun bt107 => (if bt107.2 = true then (if 0 ≤ bt107.1 then (if bt107.1 < (l.length : Int) then (some ((l.set (bt107.1 : Int).toNat (⟨r.f0, r.f1, r.f2⟩ : S55)), (0 : Int))) else (none)) else (none)) else (if (l.length : Int) ≥ 1024 then (some (([] : List (S55)), 4)) else ((slices_Insert_100.f l bt107.1 (([(⟨r.f0, r.f1, r.f2⟩ : S55)] : List (S55)))).bind fun t113 => (some (t113, 0)))))) (m, 0) → Ev (fun k => refs_Put.f k l r.f0 r.f1 r.f2) (m, 0) := fun m hm => by
    refine Ev.bind (check_ev r) ?_
    refine Ev.congr (f := fun k => (api_Ref_97.f k l (fun z0 z1 z2 => refs_Put_1.f z0 z1 z2 r.f0 r.f1 r.f2)).bind _) (fun k => if_pos hc) (Ev.bind hway ?_)
    refine Ev.congr (f := fun k => (api_Ref_98.f l).bind _) (fun k => if_neg (by simpa using hx)) ?_
    rw [h0]
    exact hm
  cases hb : b with
  | true =>
    obtain ⟨hpl, hpe⟩ := h5.1 hb
    refine ⟨l.take p ++ [r] ++ l.drop (p + 1), 0, hgo _ (Ev.bind hplace ?_), .inr ⟨rfl, ⟨l.take p, [l[p]], l.drop (p + 1), ?_, rfl, ?_, hlo, ?_, by simp⟩, hfree, hc⟩⟩
    · refine Ev.congr (f := fun _ => some (l.take p ++ [r] ++ l.drop (p + 1), (0 : Int))) (fun k => ?_) (Ev.now _)
      rw [if_pos hb, if_pos (by omega), if_pos (by omega), Int.toNat_natCast, List.set_eq_take_append_cons_drop, if_pos hpl]
      simp
    · rw [List.append_assoc, List.singleton_append, ← List.drop_eq_getElem_cons hpl, List.take_append_drop]
    · intro x hx
      rw [List.mem_singleton.1 hx]; exact hpe
    · intro x hx
      obtain ⟨j, hj, rfl⟩ := List.mem_iff_getElem.1 hx
      rw [List.length_drop] at hj
      rw [List.getElem_drop]
      have := srt p (p + 1 + j) hpl (by omega) (by omega)
      rw [lessR_eq, decide_eq_true_eq] at this ⊢
      rw [← hpe]; exact this
  | false =>
    have hins : slices_Insert_100.f l (p : Int) [r] = some (l.take p ++ [r] ++ l.drop p) := by
      unfold slices_Insert_100.f
      simp only
      rw [if_pos (by omega), if_pos (by omega), if_pos (by omega), Int.toNat_natCast]
    refine ⟨l.take p ++ [r] ++ l.drop p, 0, hgo _ (Ev.bind hplace ?_), .inr ⟨rfl, ⟨l.take p, [], l.drop p, ?_, rfl, ?_, hlo, ?_, by simp⟩, hfree, hc⟩⟩
    · refine Ev.congr (f := fun _ => some (l.take p ++ [r] ++ l.drop p, (0 : Int))) (fun k => ?_) (Ev.now _)
      rw [if_neg (show ¬ ((p : Int), b).2 = true by simp [hb]), if_neg (by omega), hins]
      rfl
    · rw [List.append_nil, List.take_append_drop]
    · intro x hx; cases hx
    · intro x hx
      obtain ⟨j, hj, rfl⟩ := List.mem_iff_getElem.1 hx
      rw [List.length_drop] at hj
      rw [List.getElem_drop]
      have h6 := h4 (p + j) (by omega) (by omega)
      rw [lessR_eq, decide_eq_true_eq]
      rcases lt_tri r.f0.toList l[p + j].f0.toList with h | h | h
      · exact h
      · exfalso
        by_cases hj0 : j = 0
        · subst hj0
          have := h5.2 ⟨by omega, h.symm⟩
          rw [hb] at this; cases this
        · have := srt p (p + j) (by omega) (by omega) (by omega)
          rw [lessR_eq, decide_eq_true_eq, ← h] at this
          exact h4 p (by omega) (Nat.le_refl _) this
      · exact absurd h h6
theorem Puts.good {l m : List S55} {r : S55} (h : Puts l m r) (hg : GoodR l) (hn : l.length ≤ 40) : GoodR m := by
  obtain ⟨⟨a, c, b, rfl, rfl, hc, ha, hb, _⟩, hw, hk⟩ := h
  obtain ⟨g1, g2, g3, g4⟩ := hg
  rw [List.append_assoc, List.pairwise_append] at g3 g4
  have hne : ∀ x, lessR x r = true ∨ lessR r x = true → wayB r x = false → meetB x.f0 r.f0 = false := fun x h1 h2 => by
    unfold wayB at h2
    unfold meetB
    rw [h2, Bool.or_false]
    rcases h1 with h1 | h1
    · exact decide_eq_false (lessR_ne h1)
    · exact decide_eq_false (fun e => lessR_ne h1 e.symm)
  have hmb : ∀ x ∈ b, meetB r.f0 x.f0 = false := fun x hx => by
    rw [meetB_comm]
    exact hne x (.inr (hb x hx)) (hw x (by simp [hx]))
  have hma : ∀ x ∈ a, meetB x.f0 r.f0 = false := fun x hx => hne x (.inl (ha x hx)) (hw x (by simp [hx]))
  refine ⟨?_, ?_, ?_, ?_⟩
  · simp only [List.length_append, List.length_cons, List.length_nil] at *
    omega
  · intro x hx
    simp only [List.mem_append, List.mem_singleton] at hx
    rcases hx with (hx | hx) | hx
    · exact g2 x (by simp [hx])
    · rw [hx]; exact hk
    · exact g2 x (by simp [hx])
  · rw [List.append_assoc, List.pairwise_append]
    refine ⟨g3.1, List.pairwise_cons.2 ⟨hb, (List.pairwise_append.1 g3.2.1).2.1⟩, fun x hx y hy => ?_⟩
    rcases List.mem_cons.1 hy with h2 | h2
    · rw [h2]; exact ha x hx
    · exact g3.2.2 x hx y (List.mem_append_right _ h2)
  · rw [List.append_assoc, List.pairwise_append]
    refine ⟨g4.1, List.pairwise_cons.2 ⟨hmb, (List.pairwise_append.1 g4.2.1).2.1⟩, fun x hx y hy => ?_⟩
    rcases List.mem_cons.1 hy with h2 | h2
    · rw [h2]; exact hma x hx
    · exact g4.2.2 x hx y (List.mem_append_right _ h2)
theorem findR_cons (a : S55) (l : List S55) (x : ByteArray) : findR (a :: l) x = if hasR x a = true then (a.f0, a.f1, a.f2, true) else findR l x := by
  unfold findR
  rw [List.findIdx_cons]
  by_cases h : hasR x a = true
  · rw [h]
    simp only [cond_true, if_true]
    rw [if_pos (by simp)]
    rfl
  · have h' : hasR x a = false := by simpa using h
    rw [h']
    simp only [cond_false, Bool.false_eq_true, if_false, List.length_cons]
    have e1 : at55 (a :: l) (l.findIdx (hasR x) + 1) = at55 l (l.findIdx (hasR x)) := rfl
    by_cases h2 : l.findIdx (hasR x) < l.length
    · rw [if_pos (by omega), if_pos h2, e1]
    · rw [if_neg (by omega), if_neg h2]
theorem findR_skip (x : ByteArray) (b : List S55) : ∀ l : List S55, (∀ e ∈ l, hasR x e = false) → findR (l ++ b) x = findR b x
  | [], _ => rfl
  | a :: l, h => by rw [List.cons_append, findR_cons, h a List.mem_cons_self, if_neg (by decide), findR_skip x b l (fun e he => h e (List.mem_cons_of_mem _ he))]
theorem findR_congr (x : ByteArray) {b c : List S55} (h : findR b x = findR c x) : ∀ l : List S55, findR (l ++ b) x = findR (l ++ c) x
  | [] => h
  | a :: l => by rw [List.cons_append, List.cons_append, findR_cons, findR_cons, findR_congr x h l]
theorem Puts.find {l m : List S55} {r : S55} (h : Puts l m r) : findR m r.f0 = (r.f0, r.f1, r.f2, true) := by
  obtain ⟨⟨a, c, b, rfl, rfl, hc, ha, hb, _⟩, hw, hk⟩ := h
  rw [List.append_assoc, findR_skip _ _ _ (fun x hx => by unfold hasR; simpa using lessR_ne (ha x hx)), List.singleton_append, findR_cons, if_pos (by simp [hasR])]
theorem Puts.other {l m : List S55} {r : S55} (h : Puts l m r) (x : ByteArray) (hx : x.toList ≠ r.f0.toList) : findR m x = findR l x := by
  obtain ⟨⟨a, c, b, rfl, rfl, hc, ha, hb, _⟩, hw, hk⟩ := h
  have e1 : ∀ y : S55, y.f0.toList = r.f0.toList → hasR x y = false := fun y hy => by
    unfold hasR
    rw [hy]
    simpa using fun e => hx e.symm
  rw [List.append_assoc, List.append_assoc]
  refine findR_congr x ?_ a
  rw [findR_skip _ _ [r] (fun y hy => by rw [List.mem_singleton.1 hy]; exact e1 r rfl), findR_skip _ _ c (fun y hy => e1 y (hc y hy))]
theorem Puts.drop {l m : List S55} {r : S55} (h : Puts l m r) : dropR m r.f0 = dropR l r.f0 := by
  obtain ⟨⟨a, c, b, rfl, rfl, hc, ha, hb, _⟩, hw, hk⟩ := h
  unfold dropR
  have h1 : [r].filter (fun e => !hasR r.f0 e) = [] := List.filter_eq_nil_iff.2 (fun y hy => by rw [List.mem_singleton.1 hy]; simp [hasR])
  have h2 : c.filter (fun e => !hasR r.f0 e) = [] := List.filter_eq_nil_iff.2 (fun y hy => by simp [hasR, hc y hy])
  rw [List.filter_append, List.filter_append, List.filter_append, List.filter_append, h1, h2]
/-! ### the law -/
theorem RefsPut_ev (l : List S55) (r : S55) (name : ByteArray) (hl : ∀ x ∈ l, x.f0.size ≤ 140737488351232 ∧ x.f1.size ≤ 140737488351232 ∧ x.f2.size ≤ 140737488351232) (hn : l.length ≤ 140737488351232) (h0 : r.f0.size ≤ 140737488351232) (h1 : r.f1.size ≤ 140737488351232) (h2 : r.f2.size ≤ 140737488351232) (hx : name.size ≤ 140737488351232) : Ev (fun k => graftagelaw37_RefsPut.f k l r.f0 r.f1 r.f2 name) true := by
  have hT : Ev (fun k => graftagelaw37_RefsPut.j0 k l name true r.f0 r.f1 r.f2) true :=
    Ev.step (f := fun k => (graftagelaw37_lives.f k).bind fun t => some t) (fun k => by rw [graftagelaw37_RefsPut.j0, if_pos rfl]) liveOr37
  refine Ev.bind (Few_ev l hl hn) (ev_iff (fun h3 => ?_) (fun h3 => hT))
  have h40 := (few_of l l.length 0 (by omega) h3).1
  refine Ev.bind (Few_ev [r] (fun x hx => by rw [List.mem_singleton.1 hx]; exact ⟨h0, h1, h2⟩) (by simp)) (ev_iff (fun h4 => ?_) (fun h4 => hT))
  refine ev_iff (fun h5 => hT) (fun h5 => ?_)
  obtain ⟨c, hc, hz⟩ := CheckR_ev l (fun x hx => (hl x hx).1) (by omega)
  refine Ev.bind hc ?_
  by_cases hc0 : c = 0
  rotate_left
  · rw [show (c != 0) = true by simpa using hc0]; exact hT
  subst hc0
  have hg := hz.1 rfl
  refine Ev.step (f := ?_) (fun k => by rw [show ((0 : Int) != 0) = false from rfl, graftagelaw37_RefsPut.j0, if_neg (by decide)]) ?_
  obtain ⟨m, e, hm, hcase⟩ := Put_ev l r hg h40 (fun x hx => (hl x hx).1) h0
  refine Ev.bind hm ?_
  rcases hcase with ⟨he, rfl⟩ | ⟨rfl, hp⟩
  · refine Ev.congr (f := fun k => (graftagelaw37_lives.f k).bind fun t => some t) (fun k => ?_) liveOr37
    rw [if_neg he, if_pos (by simp)]
  have hgm := hp.good hg h40
  have hml : m.length ≤ 1024 := hgm.len
  have hms : ∀ x ∈ m, x.f0.size ≤ 140737488351232 := fun x hx => by
    have := nameB_size (chkR_zero (hgm.chk x hx)).1
    omega
  obtain ⟨c2, hc2, hz2⟩ := CheckR_ev m hms hml
  have := hz2.2 hgm
  subst this
  refine Ev.congr (f := fun k => (refs_Find.f k m r.f0).bind _) (fun k => if_pos rfl) ?_
  refine Ev.bind (FindR_ev m _ (by omega)) (Ev.bind (FindR_ev m _ (by omega)) (Ev.bind (FindR_ev l _ (by omega)) (Ev.bind hc2 ?_)))
  have hd : dropR m r.f0 = dropR l r.f0 := hp.drop
  have hD : Ev (fun k => (refs_Drop.f k m r.f0).bind fun t130 => ((refs_Drop.f k l r.f0).bind fun t133 => ((graftageref37_Same.f k t130 t133).bind fun t136 => (if t136 = true then ((graftagelaw37_lives.f k).bind fun t137 => (some t137)) else (some false))))) true := by
    refine Ev.bind (DropR_ev m _ (by omega)) (Ev.bind (DropR_ev l _ (by omega)) ?_)
    rw [hd]
    have hlen : (dropR l r.f0).length ≤ l.length := List.length_filter_le _ _
    refine Ev.bind (Same55_ev _ (by omega)) ?_
    exact Ev.congr (fun k => if_pos rfl) liveOr37
  rw [hp.find]
  by_cases h : name.toList = r.f0.toList
  · refine Ev.congr (fun k => ?_) hD
    rw [if_pos rfl, if_pos rfl, if_pos (by simp), if_pos h]
  · rw [hp.other name h]
    refine Ev.congr (fun k => ?_) hD
    rw [if_pos rfl, if_pos rfl, if_pos (by simp), if_neg h, if_pos (by simp), if_pos (by simp)]
end Go.Proofs.YtccbpbdfihnlgaaDoor.Q


/- RefsPut, over plain lists and numbers. -/
namespace Go.Proofs.YtccbpbdfihnlgaaDoor.Pure
open Go.Proofs.YtccbpbdfihnlgaaDoor.Q Go.Proofs.YtccbpbdfihnlgaaDoorW.PrintWords
theorem RefsPut : ∀ (y0 : List (S55)), ∀ (y1 : S55), ∀ (y2 : ByteArray), (y0.length * 48 ≤ 140737488351232 ∧ ∀ y_y0 ∈ y0, (y_y0.f0.size ≤ 140737488351232 ∧ y_y0.f1.size ≤ 140737488351232 ∧ y_y0.f2.size ≤ 140737488351232)) → (y1.f0.size ≤ 140737488351232 ∧ y1.f1.size ≤ 140737488351232 ∧ y1.f2.size ≤ 140737488351232) → y2.size ≤ 140737488351232 → ∃ k, graftagelaw37_RefsPut.f k y0 y1.f0 y1.f1 y1.f2 y2 = some true :=
  fun y0 y1 y2 h h1 h2 => (RefsPut_ev y0 y1 y2 h.2 (by omega) h1.1 h1.2.1 h1.2.2 h2).rounds

end Go.Proofs.YtccbpbdfihnlgaaDoor.Pure


/- What a law's argument reads as (numbers, bools, strings, structs, slices, nested) opens into the printed kinds, with the reach's bounds; for the rows of this seat. -/
namespace Go.Proofs.YtccbpbdfihnlgaaDoor.Ro
open Go.RowKit Go.Deep Go.Proofs.YtccbpbdfihnlgaaDoorW.PrintWords

/-- What a reading of type t by the form tells in the words of kind d; S: the bounds. -/
def Opens (P : Program) (t : TypeId) {α : Type} (d : Kd α) (S : α → Prop) : Prop :=
  ∀ {H : Type} (enc : TypeId × Value → H) (w : World) (fuel : Nat) (cs : List Value) (x : DataW H × List MemPlace),
    DataW.trod enc P w 0 (fun _ => true) true fuel t cs = some x → (∀ n ∈ DataW.weights P t x.1, n ≤ reachBytes) → ∃ y : α, d.K w y cs ∧ S y

section
variable {P : Program} {t e : TypeId}

theorem Opens.int {k : IntKind} (ht : P.underlying t = some (.int k)) : Opens P t (Kd.int k) (fun y => (Lit.int k y).wf = true) := by
  intro H enc w fuel cs x h _
  obtain ⟨n, rfl, rfl, hw⟩ := DataW.trod_int ht h
  exact ⟨n, rfl, hw⟩

theorem Opens.bool (ht : P.underlying t = some .bool) : Opens P t Kd.bool (fun _ => True) := by
  intro H enc w fuel cs x h _
  obtain ⟨b, rfl, rfl⟩ := DataW.trod_bool ht h
  exact ⟨b, rfl, trivial⟩

theorem Opens.string (ht : P.underlying t = some .string) : Opens P t Kd.string (fun y => y.size ≤ 140737488351232) := by
  intro H enc w fuel cs x h hn
  obtain ⟨s, rfl, rfl, _⟩ := DataW.trod_string ht h
  refine ⟨s, rfl, ?_⟩
  have := hn s.data.toList.length (by simp [DataW.weights])
  simpa [reachBytes] using this

theorem choose_list {α : Type} {n : Nat} {p : Nat → α → Prop} (h : ∀ i, i < n → ∃ y, p i y) : ∃ l : List α, l.length = n ∧ ∀ i y, l[i]? = some y → p i y := by
  induction n with
  | zero => exact ⟨[], rfl, fun i y hy => by simp at hy⟩
  | succ n ih =>
    obtain ⟨l, hl, hp⟩ := ih (fun i hi => h i (by omega))
    obtain ⟨y, hy⟩ := h n (by omega)
    refine ⟨l ++ [y], by simp [hl], fun i z hz => ?_⟩
    rcases Nat.lt_or_ge i l.length with hi | hi
    · rw [List.getElem?_append_left hi] at hz
      exact hp i z hz
    · rw [List.getElem?_append_right hi] at hz
      have : i - l.length = 0 := by
        have := (List.getElem?_eq_some_iff.1 hz).1
        simpa using this
      rw [this] at hz
      have h1 : i = n := by omega
      subst h1
      have : y = z := by simpa using hz
      subst this
      exact hy

theorem weightsAll_mem {H : Type} {e : TypeId} : ∀ {l : List (DataW H)} {d : DataW H}, d ∈ l → ∀ n ∈ d.weights P e, n ∈ DataW.weightsAll P e l
  | a :: l, d, hd, n, hn => by
    simp only [DataW.weightsAll, List.mem_append]
    rcases List.mem_cons.1 hd with rfl | hd
    · exact .inl hn
    · exact .inr (weightsAll_mem hd n hn)

theorem Opens.slice {α : Type} {d : Kd α} {S : α → Prop} {b : Nat} (ht : P.underlying t = some (.slice e)) (hc : P.cellsOf e = d.sz) (hb : P.bytesOf e = b) (h : Opens P e d S) :
    Opens P t (Kd.slice e d) (fun l => l.length * b ≤ 140737488351232 ∧ ∀ y ∈ l, S y) := by
  intro H enc w fuel cs x hx hn
  rcases open_slice ht hx with ⟨rfl, rfl⟩ | ⟨a, len, cap, m, n, D, Pl, rfl, _, hl, hm, hmm, rfl, hall⟩
  · exact ⟨[], ⟨none, 0, rfl, Nat.le_refl _, rfl, by simp, fun h => absurd h (by simp)⟩, by simp, by simp⟩
  · simp only [if_true] at hmm
    obtain rfl : m = cap := hmm
    have hel : ∀ i, i < len → ∃ y : α, (∃ cs', w.cells? 0 (a.add (i * P.cellsOf e)) (P.cellsOf e) = some cs' ∧ d.K w y cs') ∧ S y := by
      intro i hi
      obtain ⟨cs', h1, h2⟩ := hall i (by omega)
      obtain ⟨y, hy, hs⟩ := h enc w n cs' _ h2 (fun k hk => hn k (by
        simp only [DataW.weights, ht, List.mem_cons, List.mem_append]
        exact .inr (.inl (weightsAll_mem (List.mem_map.2 ⟨i, List.mem_range.2 hi, rfl⟩) k hk))))
      exact ⟨y, ⟨cs', h1, hy⟩, hs⟩
    obtain ⟨l, hll, hp⟩ := choose_list hel
    subst hll
    have hw : (l.length + (m - l.length)) * b ≤ reachBytes := by
      have := hn _ (by simp only [DataW.weights, ht, List.mem_cons]; exact .inl rfl)
      simpa [hb] using this
    refine ⟨l, ⟨some a, m, rfl, hl, rfl, by unfold maxLen at hm; omega, fun _ => ⟨a, rfl, fun j p hj => ?_⟩⟩, ?_, fun y hy => ?_⟩
    · obtain ⟨⟨cs', h1, hk⟩, _⟩ := hp j p hj
      obtain ⟨_, hlen, hcell⟩ := World.cells?_some h1
      refine ⟨cs', by rw [hlen, hc], hk, fun i u hu => ?_⟩
      have hi : i < P.cellsOf e := by
        have := (List.getElem?_eq_some_iff.1 hu).1
        omega
      have := hcell i hi
      rw [Go.Deep.add_add, hu, hc] at this
      exact this
    · have : l.length * b ≤ (l.length + (m - l.length)) * b := Nat.mul_le_mul_right _ (by omega)
      simp only [reachBytes] at hw
      omega
    · obtain ⟨j, hj⟩ := List.mem_iff_getElem?.1 hy
      exact (hp j y hj).2

/-- The fields from one on, in line. -/
def OpensF (P : Program) (fs : List Field) (o : Nat) {α : Type} (d : Kd α) (S : α → Prop) : Prop :=
  ∀ {H : Type} (enc : TypeId × Value → H) (w : World) (n : Nat) (cs : List Value) (ys : List (DataW H × List MemPlace)),
    (∀ (i : Nat) (f : Field), fs[i]? = some f → DataW.trod enc P w 0 (fun _ => true) true n f.type ((cs.drop f.offset).take (P.cellsOf f.type)) = ys[i]?) → ys.length = fs.length →
    (∀ k ∈ DataW.weightsEach P (fs.map (·.type)) (ys.map (·.1)), k ≤ reachBytes) → cs.length = o + d.sz → ∃ y : α, d.K w y (cs.drop o) ∧ S y

theorem OpensF.one {α : Type} {f : Field} {o : Nat} {d : Kd α} {S : α → Prop} (ho : f.offset = o) (hc : P.cellsOf f.type = d.sz) (h : Opens P f.type d S) : OpensF P [f] o d S := by
  intro H enc w n cs ys hf hl hw hlen
  match ys, hl with
  | [y], _ =>
    have h1 := hf 0 f rfl
    rw [ho, hc, List.take_of_length_le (by rw [List.length_drop]; omega)] at h1
    exact h enc w n _ y h1 (fun k hk => hw k (by simp [DataW.weightsEach, hk]))

theorem OpensF.cons {α β : Type} {f : Field} {fs : List Field} {o o' : Nat} {d : Kd α} {d' : Kd β} {S : α → Prop} {S' : β → Prop} (ho : f.offset = o) (hc : P.cellsOf f.type = d.sz) (ho' : o + d.sz = o')
    (h : Opens P f.type d S) (h' : OpensF P fs o' d' S') : OpensF P (f :: fs) o (Kd.pair d d') (fun z => S z.1 ∧ S' z.2) := by
  intro H enc w n cs ys hf hl hw hlen
  match ys, hl with
  | y :: ys, hl =>
    have h1 := hf 0 f rfl
    rw [ho, hc] at h1
    have hlen' : cs.length = o + (d.sz + d'.sz) := hlen
    obtain ⟨a, ha, hs⟩ := h enc w n _ y h1 (fun k hk => hw k (by simp only [List.map_cons, DataW.weightsEach, List.mem_append]; exact .inl hk))
    obtain ⟨b, hb, hs'⟩ := h' enc w n cs ys (fun i g hg => hf (i + 1) g (by simpa using hg)) (by simpa using hl) (fun k hk => hw k (by simp only [List.map_cons, DataW.weightsEach, List.mem_append]; exact .inr hk)) (by omega)
    refine ⟨(a, b), ⟨_, _, ?_, ha, hb⟩, hs, hs'⟩
    rw [← ho', ← List.drop_drop, List.take_append_drop]

theorem Opens.struct {α β : Type} {fs : Array Field} {d : Kd α} {S : α → Prop} {f : β → α} {g : α → β} (ht : P.underlying t = some (.struct fs)) (hc : P.cellsOf t = d.sz) (hfg : ∀ a, f (g a) = a) (h : OpensF P fs.toList 0 d S) :
    Opens P t (Kd.iso d f) (fun y => S (f y)) := by
  intro H enc w fuel cs x hx hn
  obtain ⟨xs, n, _, rfl, hl, hlen, hf⟩ := DataW.trod_struct ht hx
  obtain ⟨a, ha, hs⟩ := h enc w n cs xs (fun i q hq => hf i q (by simpa using hq)) (by simpa using hlen) (fun k hk => hn k (by simpa [DataW.weights, ht] using hk)) (by rw [hl, hc]; omega)
  refine ⟨g a, ?_, by show S (f (g a)); rw [hfg]; exact hs⟩
  show d.K w (f (g a)) cs
  rw [hfg]
  simpa using ha

theorem Opens.imp {α : Type} {d : Kd α} {S S' : α → Prop} (h : Opens P t d S) (hS : ∀ y, S y → S' y) : Opens P t d S' := by
  intro H enc w fuel cs x hx hn
  obtain ⟨y, hy, hs⟩ := h enc w fuel cs x hx hn
  exact ⟨y, hy, hS y hs⟩

/-- An argument: its cells, told. -/
theorem Opens.arg {H : Type} {enc : TypeId × Value → H} {α : Type} {d : Kd α} {S : α → Prop} {w : World} {ts : List TypeId} {ds : List (DataW H)} {j : Nat} {v : Value} {dd : DataW H} {ps : List MemPlace} (h : Opens P t d S)
    (hz : (DataW.weightsEach P ts ds).all (· ≤ reachBytes) = true) (ht : ts[j]? = some t) (hd : ds[j]? = some dd) (hv : DataW.Trod enc P w 0 (fun _ => true) true t v dd ps) : ∃ y : α, d.K w y v.cells.toList ∧ S y := by
  obtain ⟨fuel, hf⟩ := hv
  exact h enc w fuel _ (dd, ps) hf (fun n hn => by simpa using List.all_eq_true.1 hz n (DataW.weights_mem_each ht hd n hn))

theorem arg_lt {H : Type} {enc : TypeId × Value → H} {w : World} {v : Value} {dd : DataW H} {ps : List MemPlace} (hv : DataW.Trod enc P w 0 (fun _ => true) true t v dd ps) : ∀ x ∈ ps, x.block < w.heap.size := by
  obtain ⟨m, hm⟩ := hv
  exact DataW.trod_lt m _ _ _ hm
end
end Go.Proofs.YtccbpbdfihnlgaaDoor.Ro


/- The law RefsPut holds: for every input it returns true, and each argument reads afterwards as it read before. -/
namespace Go.Proofs.YtccbpbdfihnlgaaDoor.refsPut
open Go.ChangeShapes Go.WideShapes Go.ChangeAt Go.RowKit Go.Proofs.YtccbpbdfihnlgaaDoor.Ro Go.Proofs.YtccbpbdfihnlgaaDoor.Q Go.Proofs.YtccbpbdfihnlgaaDoorW.PrintWords
open Go.ChangeMaps (open_string shut_string)
theorem own : ownKnob Tryd.prog.godebug = none := by kernel_rfl
theorem laidOut : laidOutB Tryd.prog = true := by kernel_rfl
theorem opens9 : Opens Tryd.prog 9 Kd.string (fun y => y.size ≤ 140737488351232) := (Opens.string Tryd.underlying9)
theorem opens43 : Opens Tryd.prog 43 (Kd.slice 55 k55) (fun y => (y.length * 48 ≤ 140737488351232 ∧ ∀ y_y ∈ y, (y_y.f0.size ≤ 140737488351232 ∧ y_y.f1.size ≤ 140737488351232 ∧ y_y.f2.size ≤ 140737488351232))) := (Opens.slice Tryd.underlying43 (by kernel_rfl) (by kernel_rfl) (Opens.struct (f := (fun x : S55 => (x.f0, x.f1, x.f2))) (g := (fun a => (⟨a.1, a.2.1, a.2.2⟩ : S55))) Tryd.underlying55 (by kernel_rfl) (fun _ => rfl) (OpensF.cons rfl (by kernel_rfl) rfl (Opens.string Tryd.underlying9) (OpensF.cons rfl (by kernel_rfl) rfl (Opens.string Tryd.underlying9) (OpensF.one rfl (by kernel_rfl) (Opens.string Tryd.underlying9))))))
theorem opens55 : Opens Tryd.prog 55 k55 (fun y => (y.f0.size ≤ 140737488351232 ∧ y.f1.size ≤ 140737488351232 ∧ y.f2.size ≤ 140737488351232)) := (Opens.struct (f := (fun x : S55 => (x.f0, x.f1, x.f2))) (g := (fun a => (⟨a.1, a.2.1, a.2.2⟩ : S55))) Tryd.underlying55 (by kernel_rfl) (fun _ => rfl) (OpensF.cons rfl (by kernel_rfl) rfl (Opens.string Tryd.underlying9) (OpensF.cons rfl (by kernel_rfl) rfl (Opens.string Tryd.underlying9) (OpensF.one rfl (by kernel_rfl) (Opens.string Tryd.underlying9)))))
set_option maxRecDepth 100000 in
theorem lifted (os : Os) (started : os.Started) (H : Type) (enc : TypeId × Value → H) :
    ReturnsInHanded {} Tryd.checked os 13 .any (fun w args => (Rows.refsPutSpec.pre enc Tryd.prog Tryd.f13 [] false w args ∧ laidMetH Tryd.prog Rows.refsPutRow.laid w) ∧ sizedMet enc Tryd.prog Tryd.f13 (OpenSpec.ofChange Rows.refsPutSpec) false w args) (Rows.refsPutSpec.post enc Tryd.prog Tryd.f13 false true false false) := by
  refine returnsInHanded_and_shaped (C := Tryd.checked) (X := fun w _ => laidMetH Tryd.prog Rows.refsPutRow.laid w) (fun _ _ _ hh h => h.of_heap hh) own started (by kernel_rfl) Tryd.func13
    (ChangeSpec.witness_shaped (enc := enc) (C := Tryd.checked) (os := os) (X := fun w _ => laidMetH Tryd.prog Rows.refsPutRow.laid w) false (World.laidAll Tryd.prog os Rows.refsPutRow.laid) #[.slice none 0 0, .agg #[.string ByteArray.empty, .string ByteArray.empty, .string ByteArray.empty], .string ByteArray.empty] 8 (World.laidAll_os _ _ _)
      (World.shaped_of_ZipB (by kernel_rfl) (by kernel_rfl)) (by kernel_rfl) (by kernel_rfl) (by kernel_rfl)
      (by rw [MakeChecks.laidMetH_plain _ _ _ (by kernel_rfl)]; exact laidMet_laidAll _ (by kernel_rfl) (by kernel_rfl))) ?_
  intro W base args ds gs before hval0 hW hcnd hsz0 _ hsh0
  have hsz : (DataW.weightsEach Tryd.prog (Tryd.f13.params.toList ++ Rows.refsPutSpec.plain.varTypes Tryd.prog) (ds ++ gs)).all (· ≤ reachBytes) = true := hsz0
  have hval : ∀ (j : Nat) t v, Tryd.f13.params[j]? = some t → args[j]? = some v → Value.okWide Tryd.prog W .any base t v := hval0
  have hW' := hW
  obtain ⟨p, q, hA0, hV, rfl, hfz, hnd⟩ := hW
  have hA : DataW.TrodAll enc Tryd.prog W 0 (fun _ => true) true Tryd.f13.params.toList args.toList ds p := hA0
  rw [Tryd.params13] at hA hval hsz
  obtain ⟨v0, vs0, d0, ds0, p0, q0, hargs, rfl, rfl, h0, r0⟩ := trodAll_cons hA
  obtain ⟨v1, vs1, d1, ds1, p1, q1, rfl, rfl, rfl, h1, r1⟩ := trodAll_cons r0
  obtain ⟨v2, vs2, d2, ds2, p2, q2, rfl, rfl, rfl, h2, r2⟩ := trodAll_cons r1
  obtain ⟨rfl, rfl, rfl⟩ := trodAll_nil r2
  obtain rfl : args = #[v0, v1, v2] := by cases args; simp_all
  obtain ⟨rfl, rfl⟩ := trodVars_none hV
  have lt0 := arg_lt h0
  obtain ⟨y0, hk0, w0⟩ := opens43.arg hsz (j := 0) rfl rfl h0
  obtain ⟨a0, len0, cap0, rfl⟩ := okWide_slice Tryd.underlying43 (hval 0 43 v0 rfl rfl)
  obtain ⟨A0, c0, e0, hl0, hr0⟩ := hk0
  obtain ⟨rfl, rfl, rfl⟩ : a0 = A0 ∧ len0 = y0.length ∧ cap0 = c0 := by simpa [Value.cells] using e0
  have lt1 := arg_lt h1
  obtain ⟨y1, hk1, w1⟩ := opens55.arg hsz (j := 1) rfl rfl h1
  obtain ⟨cs1, rfl, _⟩ := okWide_struct Tryd.underlying55 (hval 1 55 v1 rfl rfl)
  have hk1' := k55_open hk1
  have e1 := hk1'
  obtain rfl : cs1 = #[.string y1.f0, .string y1.f1, .string y1.f2] := by cases cs1; simpa [Value.cells] using e1
  have lt2 := arg_lt h2
  obtain ⟨y2, hk2, w2⟩ := opens9.arg hsz (j := 2) rfl rfl h2
  obtain ⟨x2, rfl⟩ := okWide_string Tryd.underlying9 (hval 2 9 v2 rfl rfl)
  obtain rfl : x2 = y2 := by simpa [Kd.string, Kd.scalar, Value.cells] using hk2
  obtain ⟨k, hp⟩ := Pure.RefsPut _ _ _ w0 w1 w2
  clear hA0 hval0 hsz0 hsz
  refine (Q.graftagelaw37_RefsPut.callsT k _ _ y0 y1.f0 y1.f1 y1.f2 _ true W hr0 hl0 (GV.shaped hsh0) rfl hp).mono ?_
  rintro e W' ⟨rfl, bel0⟩
  have bel : Below W.heap.size W W' := bel0
  exact ⟨_, rfl, _, _, _, [], _, [], hW', trodAll_mk1 (shut_bool Tryd.underlying4 _), (trodAll_cons_mk (Below.trod laidOut (by kernel_rfl) (of_decide_eq_true (by kernel_rfl)) h0 bel lt0) (trodAll_cons_mk (Below.trod laidOut (by kernel_rfl) (of_decide_eq_true (by kernel_rfl)) h1 bel lt1) (trodAll_cons_mk (Below.trod laidOut (by kernel_rfl) (of_decide_eq_true (by kernel_rfl)) h2 bel lt2) trodAll_mk0))), rfl, bel.frame _, fun h => by cases h⟩
theorem over : Rows.refsPutRow.holds Tryd.pinned (OpenSpec.ofChange Rows.refsPutSpec) :=
  OpenClaim.holds_of_wide 13 Tryd.f13 rfl rfl rfl rfl rfl rfl rfl ⟨rfl, rfl, rfl, rfl, rfl⟩ rfl rfl rfl rfl rfl (by kernel_rfl) Tryd.func13 (by kernel_rfl)
    (of_decide_eq_true (by kernel_rfl)) (by unfold Func.isWrapper; first | (rw [if_pos (by decide +kernel)]; kernel_rfl) | (rw [if_neg (by decide +kernel)]; exact ⟨rfl, rfl⟩))
    (fun os started H enc _ => lifted os started H enc)
theorem proved : Rows.RefsPutSaid := over
theorem card_holds : Rows.RefsPutCardSaid :=
  Claim7.holds_tied_plain_at .later [] [.data, .pinned] true (true, "f211dbb39e0f8aee4bdc9ae8c5517fa944c5333aa6a5e92b425f441664a6fa8b") false over (fun _ h => by cases h) (by kernel_rfl) (fun _ h => by cases h) refsPut_row_tie rfl ⟨rfl, rfl⟩ (by kernel_rfl) rfl
    (fun f fn hf hfn => by
      obtain rfl : f = 13 := Option.some.inj ((show Tryd.prog.funcNamed "graftage/graftagelaw37.RefsPut" = some 13 by kernel_rfl).symm.trans hf) |>.symm
      obtain rfl : fn = Tryd.f13 := (Option.some.inj (Tryd.func13.symm.trans hfn)).symm
      exact ⟨by kernel_rfl, fun j t ht => by
        rw [Tryd.params13] at ht
        have hm : t ∈ [43, 55, 9] := by simpa using Array.mem_of_getElem? ht
        have hall : ([43, 55, 9].all fun u => !Tryd.prog.wantsStandIn u) = true := by kernel_rfl
        exact (show Tryd.prog.wantsStandIn t = false by simpa using List.all_eq_true.1 hall t hm)⟩)
    (by kernel_rfl)
#print axioms card_holds
end Go.Proofs.YtccbpbdfihnlgaaDoor.refsPut
namespace Go.Proofs.YtccbpbdfihnlgaaDoor
/-- The statement, under a short name, for the claim. -/
theorem refsPut_holds : Rows.RefsPutCardSaid := refsPut.card_holds
end Go.Proofs.YtccbpbdfihnlgaaDoor


