/- The law CommitPersons holds: for every input it returns true, and each argument reads afterwards as it read before. -/
import Derived.Test.YtbhfbbfjdklfgaaGreatDoorMYCommitPersons1
import Derived.Test.YtbhfbbfjdklfgaaGreatDoorMCommitPersons1
import Derived.Test.YtbhfbbfjdklfgaaGreatDoorMCommitPersons2
import Derived.Test.YtbhfbbfjdklfgaaGreatDoorMCommitPersons3
import Derived.Test.YtbhfbbfjdklfgaaGreatDoorMCommitPersons4
import Derived.Test.YtbhfbbfjdklfgaaGreatDoorMCommitPersons5
import Derived.Deep.Slices
import Derived.Lib.SmallJoins
import Derived.ChangeArms
import Derived.SizedLaws
import Derived.WalkKit
import Derived.ProofKit
import Derived.Test.YtbhfbbfjdklfgaaGreatDoorRows
import Derived.Test.YtbhfbbfjdklfgaaGreatDoorTie
import Derived.Test.YtbhfbbfjdklfgaaGreatDoorCards
import Derived.OpenShut
import Derived.ShutString
import Derived.ChangeOld
import Derived.Below
import Derived.Lay
import Derived.LaidOnce
import Derived.SevenTiedAt
import Derived.LaidLaws
import Derived.Handed
import Derived.ChangeVars
import Derived.JoinedOf
set_option linter.unusedVariables false
set_option linter.unusedSimpArgs false
/- Persons: told and read back, the same person; read and told again, the same words. -/
namespace Go.Proofs.YtbhfbbfjdklfgaaGreatDoor.Q
open Go.RowKit Go.Proofs.YtbhfbbfjdklfgaaGreatDoorW.PrintWords Go.Proofs.YtbhfbbfjdklfgaaGreatDoorW.PrintLast Go.Proofs.YtbhfbbfjdklfgaaGreatDoorW.PrintMore
def dg (d : Nat) : UInt8 := UInt8.ofNat (48 + d)
theorem dg_val {d : Nat} (h : d < 10) : (dg d).toNat = 48 + d := by
  unfold dg; rw [UInt8.toNat_ofNat']; omega
theorem dg_isDig {d : Nat} (h : d < 10) : isDig (dg d) = true := by
  unfold isDig; rw [dg_val h]; simp; omega
theorem dg_of {c : UInt8} (h : isDig c = true) : c = dg (c.toNat - 48) := (dig_ofNat h).symm
theorem isDig_lt {c : UInt8} (h : isDig c = true) : 48 ≤ c.toNat ∧ c.toNat ≤ 57 := by
  unfold isDig at h; simpa using h
theorem dec_one {d : Nat} (h : d < 10) : Lib.decDigits d = [dg d] := by
  rw [Lib.decDigits.eq_def, dif_pos h]; rfl
theorem twoL_eq (u : Nat) : twoL u = [dg (u / 10 % 10), dg (u % 10)] := by
  unfold twoL; rw [dec_one (by omega), dec_one (by omega)]; rfl
theorem val2 (a b : UInt8) : valI (mk [a, b]) = ((10 * (a.toNat - 48) + (b.toNat - 48) : Nat) : Int) := by
  unfold valI; rw [mk_data, valN_cons, valN_cons, valN_nil]; simp
theorem bt0 (c : UInt8) (l : List UInt8) : bt (mk (c :: l)) 0 = (c.toNat : Int) := (sfx_at (s := mk (c :: l)) (i := 0) (by rw [mk_data]; rfl)).2.1
theorem zone5 (c a b d e : UInt8) : zoneB (mk [c, a, b, d, e]) =
    if (c.toNat = 43 ∨ c.toNat = 45) ∧ [c, a, b, d, e] ≠ [45, 48, 48, 48, 48] ∧ isDig a = true ∧ isDig b = true ∧ isDig d = true ∧ isDig e = true then
      (if 60 ≤ (10 * (d.toNat - 48) + (e.toNat - 48) : Nat) then (0, false) else if c.toNat = 45 then (-(60 * (10 * (a.toNat - 48) + (b.toNat - 48) : Nat) + (10 * (d.toNat - 48) + (e.toNat - 48) : Nat) : Int), true) else ((60 * (10 * (a.toNat - 48) + (b.toNat - 48) : Nat) + (10 * (d.toNat - 48) + (e.toNat - 48) : Nat) : Int), true))
    else (0, false) := by
  have hs : (mk [c, a, b, d, e]).size = 5 := mk_size _
  have x1 : (mk [c, a, b, d, e]).extract 1 3 = mk [a, b] := by rw [ext_mk, mk_data]; rfl
  have x2 : (mk [c, a, b, d, e]).extract 3 (mk [c, a, b, d, e]).size = mk [d, e] := by rw [hs, ext_mk, mk_data]; rfl
  unfold zoneB
  rw [x1, x2, hs, bt0, mk_data, val2, val2]
  have hc : (5 = 5 ∧ ((c.toNat : Int) = 43 ∨ (c.toNat : Int) = 45) ∧ [c, a, b, d, e] ≠ [45, 48, 48, 48, 48] ∧ ([c, a, b, d, e].drop 1).all isDig = true) ↔ ((c.toNat = 43 ∨ c.toNat = 45) ∧ [c, a, b, d, e] ≠ [45, 48, 48, 48, 48] ∧ isDig a = true ∧ isDig b = true ∧ isDig d = true ∧ isDig e = true) := by
    rw [show [c, a, b, d, e].drop 1 = [a, b, d, e] from rfl]
    simp only [List.all_cons, List.all_nil, Bool.and_true, Bool.and_eq_true, true_and]
    constructor
    · rintro ⟨h1, h2, h3⟩; exact ⟨by omega, h2, h3⟩
    · rintro ⟨h1, h2, h3⟩; exact ⟨by omega, h2, h3⟩
  by_cases h : (c.toNat = 43 ∨ c.toNat = 45) ∧ [c, a, b, d, e] ≠ [45, 48, 48, 48, 48] ∧ isDig a = true ∧ isDig b = true ∧ isDig d = true ∧ isDig e = true
  · rw [if_pos h, if_pos (hc.2 h)]
    by_cases h2 : 60 ≤ (10 * (d.toNat - 48) + (e.toNat - 48) : Nat)
    · rw [if_pos h2, if_pos (by exact_mod_cast h2)]
    · rw [if_neg h2, if_neg (by exact_mod_cast h2)]
      by_cases h3 : c.toNat = 45
      · rw [if_pos h3, if_pos (by omega)]; congr 1; omega
      · rw [if_neg h3, if_neg (by omega)]
  · rw [if_neg h, if_neg (fun g => h (hc.1 g))]
def sgn (z : Int) : UInt8 := if z < 0 then 45 else 43
def zoneL (z : Int) : List UInt8 := sgn z :: (twoL (z.natAbs / 60) ++ twoL (z.natAbs % 60))
theorem zoneL_eq (z : Int) : zoneL z = [sgn z, dg (z.natAbs / 60 / 10 % 10), dg (z.natAbs / 60 % 10), dg (z.natAbs % 60 / 10 % 10), dg (z.natAbs % 60 % 10)] := by
  unfold zoneL; rw [twoL_eq, twoL_eq]; rfl
theorem tailL_eq (t z : Int) : tailL t z = Lib.itoa t ++ 32 :: zoneL z := rfl
theorem zone_tell (z : Int) (h0 : -5999 ≤ z) (h1 : z ≤ 5999) : zoneB (mk (zoneL z)) = (z, true) := by
  have hA : (sgn z).toNat = 43 ∨ (sgn z).toNat = 45 := by
    unfold sgn
    by_cases hz : z < 0
    · rw [if_pos hz]; exact Or.inr rfl
    · rw [if_neg hz]; exact Or.inl rfl
  have hB : [sgn z, dg (z.natAbs / 60 / 10 % 10), dg (z.natAbs / 60 % 10), dg (z.natAbs % 60 / 10 % 10), dg (z.natAbs % 60 % 10)] ≠ [45, 48, 48, 48, 48] := by
    intro e
    unfold sgn at e
    by_cases hz : z < 0
    · simp only [List.cons.injEq] at e
      obtain ⟨_, e1, e2, e3, e4, _⟩ := e
      have z0 : ∀ d, d < 10 → dg d = 48 → d = 0 := fun d hd h => by
        have := congrArg UInt8.toNat h
        rw [dg_val hd, show (48 : UInt8).toNat = 48 from rfl] at this; omega
      have f1 := z0 _ (by omega) e1
      have f2 := z0 _ (by omega) e2
      have f3 := z0 _ (by omega) e3
      have f4 := z0 _ (by omega) e4
      omega
    · rw [if_neg hz] at e
      simp at e
  rw [zoneL_eq, zone5, if_pos ⟨hA, hB, dg_isDig (by omega), dg_isDig (by omega), dg_isDig (by omega), dg_isDig (by omega)⟩]
  rw [dg_val (by omega), dg_val (by omega), dg_val (by omega), dg_val (by omega)]
  rw [if_neg (by omega)]
  by_cases hz : z < 0
  · rw [if_pos (by unfold sgn; rw [if_pos hz]; rfl)]; congr 1; omega
  · rw [if_neg (by unfold sgn; rw [if_neg hz]; decide)]; congr 1; omega
theorem list5 {l : List UInt8} (h : l.length = 5) : ∃ a b c d e, l = [a, b, c, d, e] := by
  match l, h with
  | [a, b, c, d, e], _ => exact ⟨a, b, c, d, e, rfl⟩
theorem zone_read {l : List UInt8} {z : Int} (h : zoneB (mk l) = (z, true)) : l = zoneL z := by
  have h5 : l.length = 5 := by
    unfold zoneB at h
    by_cases h2 : (mk l).size = 5
    · rw [← mk_size]; exact h2
    · rw [if_neg (fun g => h2 g.1)] at h; simp at h
  obtain ⟨c, a, b, d, e, rfl⟩ := list5 h5
  rw [zone5] at h
  by_cases g : (c.toNat = 43 ∨ c.toNat = 45) ∧ [c, a, b, d, e] ≠ [45, 48, 48, 48, 48] ∧ isDig a = true ∧ isDig b = true ∧ isDig d = true ∧ isDig e = true
  · rw [if_pos g] at h
    obtain ⟨gc, gn, ga, gb, gd, ge⟩ := g
    have la := isDig_lt ga
    have lb := isDig_lt gb
    have ld := isDig_lt gd
    have le := isDig_lt ge
    by_cases g2 : 60 ≤ (10 * (d.toNat - 48) + (e.toNat - 48) : Nat)
    · rw [if_pos g2] at h; simp at h
    · rw [if_neg g2] at h
      have key : z.natAbs = 60 * (10 * (a.toNat - 48) + (b.toNat - 48)) + (10 * (d.toNat - 48) + (e.toNat - 48)) ∧ c = sgn z := by
        by_cases g3 : c.toNat = 45
        · rw [if_pos g3] at h
          have hz := (Prod.mk.inj h).1
          refine ⟨by omega, ?_⟩
          have hne : ¬ (a.toNat = 48 ∧ b.toNat = 48 ∧ d.toNat = 48 ∧ e.toNat = 48) := by
            rintro ⟨k1, k2, k3, k4⟩
            refine gn ?_
            rw [show c = 45 from UInt8.toNat_inj.1 g3, show a = 48 from UInt8.toNat_inj.1 k1, show b = 48 from UInt8.toNat_inj.1 k2, show d = 48 from UInt8.toNat_inj.1 k3, show e = 48 from UInt8.toNat_inj.1 k4]
          unfold sgn
          rw [if_pos (by omega)]
          exact UInt8.toNat_inj.1 g3
        · rw [if_neg g3] at h
          have hz := (Prod.mk.inj h).1
          refine ⟨by omega, ?_⟩
          unfold sgn
          rw [if_neg (by omega)]
          exact UInt8.toNat_inj.1 (by rw [show (43 : UInt8).toNat = 43 from rfl]; omega)
      rw [zoneL_eq, ← key.2, key.1, dg_of ga, dg_of gb, dg_of gd, dg_of ge]
      rw [dg_val (d := a.toNat - 48) (by omega), dg_val (d := b.toNat - 48) (by omega), dg_val (d := d.toNat - 48) (by omega), dg_val (d := e.toNat - 48) (by omega)]
      congr 1
      congr 1
      · congr 1; omega
      congr 1
      · congr 1; omega
      congr 1
      · congr 1; omega
      congr 1
      congr 1; omega
  · rw [if_neg g] at h; simp at h
theorem named_no {s : ByteArray} (h : namedB s = true) : noA s.data.toList := by
  unfold namedB at h
  rw [Bool.and_eq_true] at h
  have ha := h.2
  rw [List.all_eq_true] at ha
  constructor
  · intro hm
    have := ha _ hm
    simp [okU] at this
  · intro hm
    have := ha _ hm
    simp [okU] at this
theorem itoa_dig (t : Int) (h : 0 ≤ t) : Lib.itoa t = Lib.decDigits t.toNat := by
  obtain ⟨n, rfl⟩ := Int.eq_ofNat_of_zero_le h
  rw [itoa_nat, Int.toNat_natCast]
theorem dec_no32 (u : Nat) : (32 : UInt8) ∉ Lib.decDigits u := by
  intro h
  have := dec_all u
  rw [List.all_eq_true] at this
  have := this _ h
  simp [isDig] at this
theorem digOk_of {l : List UInt8} (h : digOk (mk l) = true) : l ≠ [] ∧ l.length ≤ 18 ∧ (1 < l.length → l.head? ≠ some 48) ∧ l.all isDig = true := by
  unfold digOk at h
  rw [Bool.and_eq_true, Bool.not_eq_true', mk_data] at h
  obtain ⟨h1, h2⟩ := h
  unfold offD at h1
  rw [mk_size] at h1
  simp only [Bool.or_eq_false_iff, decide_eq_false_iff_not, Bool.and_eq_false_imp, decide_eq_true_eq] at h1
  cases l with
  | nil => simp at h1
  | cons c l =>
    rw [bt0] at h1
    refine ⟨by simp, by omega, fun g => ?_, h2⟩
    have := h1.2.2 g
    simp only [List.head?_cons, ne_eq, Option.some.injEq]
    rintro rfl
    exact this rfl
theorem digOk_to {l : List UInt8} (h1 : l ≠ []) (h2 : l.length ≤ 18) (h3 : 1 < l.length → l.head? ≠ some 48) (h4 : l.all isDig = true) : digOk (mk l) = true := by
  unfold digOk
  rw [Bool.and_eq_true, Bool.not_eq_true', mk_data]
  refine ⟨?_, h4⟩
  unfold offD
  rw [mk_size]
  simp only [Bool.or_eq_false_iff, decide_eq_false_iff_not, Bool.and_eq_false_imp, decide_eq_true_eq]
  cases l with
  | nil => simp at h1
  | cons c l =>
    rw [bt0]
    refine ⟨by simp, by omega, fun g e => ?_⟩
    have := h3 g
    simp only [List.head?_cons, ne_eq, Option.some.injEq] at this
    exact this (UInt8.toNat_inj.1 (by rw [show (48 : UInt8).toNat = 48 from rfl]; omega))
theorem dec_digOk (u : Nat) (h : u < 10 ^ 18) : digOk (mk (Lib.decDigits u)) = true := by
  refine digOk_to (dec_ne u) ?_ ?_ (dec_all u)
  · exact dec_len 17 u h
  · intro h1
    by_cases h2 : 10 ≤ u
    · obtain ⟨c, l, e, hc, _⟩ := dec_head u h2
      rw [e]; simpa using hc
    · rw [dec_one (by omega)] at h1; simp at h1
theorem who_parts (n m : ByteArray) (t z : Int) (hp : personB n m t z = true) : c1 (whoB n m t z) = (n.data.toList, m.data.toList ++ 62 :: 32 :: tailL t z, true) ∧ c2 (whoB n m t z) = (m.data.toList, tailL t z, true) ∧ c3 (whoB n m t z) = (Lib.decDigits t.toNat, zoneL z, true) := by
  unfold personB at hp
  simp only [Bool.and_eq_true, decide_eq_true_eq] at hp
  obtain ⟨hn, hm, h0, h1, h2, h3⟩ := hp
  have e1 : c1 (whoB n m t z) = (n.data.toList, m.data.toList ++ 62 :: 32 :: tailL t z, true) := by
    unfold c1 whoB whoL
    rw [mk_data]
    exact cut_pair 32 60 (by decide) _ _ (named_no hn).1
  have e2 : c2 (whoB n m t z) = (m.data.toList, tailL t z, true) := by
    unfold c2
    rw [e1]
    exact cut_pair' 62 32 _ _ (named_no hm).2
  refine ⟨e1, e2, ?_⟩
  unfold c3
  rw [e2, tailL_eq, itoa_dig t h0]
  exact cut_one 32 _ _ (dec_no32 _)
theorem who_back (n m : ByteArray) (t z : Int) (hp : personB n m t z = true) : parseWhoB (whoB n m t z) = (n, m, t, z, 0) := by
  obtain ⟨e1, e2, e3⟩ := who_parts n m t z hp
  have hp' := hp
  unfold personB at hp'
  simp only [Bool.and_eq_true, decide_eq_true_eq] at hp'
  obtain ⟨hn, hm, h0, h1, h2, h3⟩ := hp'
  have hz := zone_tell z (by omega) (by omega)
  unfold parseWhoB
  rw [if_pos ⟨by rw [e1], by rw [e2], by rw [e3], by rw [e3]; exact dec_digOk _ (by omega), by rw [e3, hz], by rw [e1]; exact named_no hn, by rw [e2]; exact named_no hm⟩]
  rw [e1, e2, e3, hz, mk_of, mk_of]
  have hv : valI (mk (Lib.decDigits t.toNat)) = t := by
    unfold valI; rw [mk_data, dec_val]; omega
  rw [hv]
  unfold finW
  rw [if_pos hp]
theorem who_again (s n m : ByteArray) (t z : Int) (h : parseWhoB s = (n, m, t, z, 0)) : whoB n m t z = s ∧ personB n m t z = true := by
  unfold parseWhoB at h
  by_cases hw : wOk s
  · rw [if_pos hw] at h
    obtain ⟨w1, w2, w3, w4, w5, w6, w7⟩ := hw
    obtain ⟨t1, _⟩ := cut_text (l := s.data.toList) (s := [32, 60]) (a := (c1 s).1) (b := (c1 s).2.1) (by decide) (by rw [← w1]; rfl)
    obtain ⟨t2, _⟩ := cut_text (l := (c1 s).2.1) (s := [62, 32]) (a := (c2 s).1) (b := (c2 s).2.1) (by decide) (by rw [← w2]; rfl)
    obtain ⟨t3, _⟩ := cut_text (l := (c2 s).2.1) (s := [32]) (a := (c3 s).1) (b := (c3 s).2.1) (by decide) (by rw [← w3]; rfl)
    obtain ⟨d1, d2, d3, d4⟩ := digOk_of w4
    have hz := zone_read (l := (c3 s).2.1) (z := (zoneB (mk (c3 s).2.1)).1) (by rw [← w5])
    unfold finW at h
    by_cases hp : personB (mk (c1 s).1) (mk (c2 s).1) (valI (mk (c3 s).1)) (zoneB (mk (c3 s).2.1)).1 = true
    · rw [if_pos hp] at h
      obtain ⟨rfl, rfl, rfl, rfl⟩ : _ ∧ _ ∧ _ ∧ _ := ⟨(Prod.mk.inj h).1, (Prod.mk.inj (Prod.mk.inj h).2).1, (Prod.mk.inj (Prod.mk.inj (Prod.mk.inj h).2).2).1, (Prod.mk.inj (Prod.mk.inj (Prod.mk.inj (Prod.mk.inj h).2).2).2).1⟩
      refine ⟨?_, hp⟩
      unfold whoB whoL
      rw [mk_data, mk_data, tailL_eq, ← hz]
      have hv : Lib.itoa (valI (mk (c3 s).1)) = (c3 s).1 := by
        unfold valI
        rw [itoa_nat, mk_data, dec_canon d1 d4 d3]
      rw [hv, show (32 : UInt8) :: (c3 s).2.1 = [32] ++ (c3 s).2.1 from rfl, ← List.append_assoc, ← t3, show (62 : UInt8) :: 32 :: (c2 s).2.1 = [62, 32] ++ (c2 s).2.1 from rfl, ← List.append_assoc, ← t2, show (32 : UInt8) :: 60 :: (c1 s).2.1 = [32, 60] ++ (c1 s).2.1 from rfl, ← List.append_assoc, ← t1, mk_of]
    · rw [if_neg hp] at h; simp at h
  · rw [if_neg hw] at h; simp at h
end Go.Proofs.YtbhfbbfjdklfgaaGreatDoor.Q


/- Persons, the plain law. -/
namespace Go.Proofs.YtbhfbbfjdklfgaaGreatDoor.Pure
open Go.RowKit Go.Proofs.YtbhfbbfjdklfgaaGreatDoor.Q Go.Proofs.YtbhfbbfjdklfgaaGreatDoorW.PrintWords Go.Proofs.YtbhfbbfjdklfgaaGreatDoorW.PrintLast Go.Proofs.YtbhfbbfjdklfgaaGreatDoorW.PrintMore
theorem persons_j1 (n m : ByteArray) (t z : Int) (hn : n.size ≤ 140737488351232) (hm : m.size ≤ 140737488351232) : Ev (fun k => graftagelaw16_CommitPersons.j1 k false n m t z) true := by
  refine Ev.step (f := ?_) (fun k => by rw [graftagelaw16_CommitPersons.j1, if_neg (by decide)]) ?_
  refine Ev.bind (Person_ev n m t z hn hm) (ev_ite (fun g => ?_) (fun g => liveOr16))
  have g' := g
  unfold personB at g'
  simp only [Bool.and_eq_true, decide_eq_true_eq] at g'
  obtain ⟨gn, gm, h0, h1, h2, h3⟩ := g'
  have hl : ∀ s : ByteArray, namedB s = true → s.size ≤ 64 := fun s h => by
    unfold namedB edge at h
    simp only [Bool.and_eq_true, Bool.not_eq_true', Bool.or_eq_false_iff, decide_eq_false_iff_not] at h
    omega
  have l1 := hl n gn
  have l2 := hl m gm
  rw [Who_eq n m t z hn hm (by omega) (by omega) (by omega) (by omega)]
  simp only [Option.bind_some]
  have hsz : (whoB n m t z).size ≤ 4294967000 := by
    unfold whoB
    rw [mk_size]
    unfold whoL
    rw [tailL_eq]
    simp only [List.length_append, List.length_cons, size_of, zoneL_eq, List.length_nil]
    have := itoa_len t (by omega) (by omega)
    omega
  refine Ev.bind (ParseWho_ev _ hsz) (Ev.bind lives16 (ev_yes rfl (Ev.bind (refWho_ev n m t z hn hm h0 (by omega) h2 h3) (ev_yes rfl ?_))))
  rw [who_back n m t z g]
  refine ev_yes rfl (ev_eq (Ev.now _) ?_)
  simp
theorem CommitPersons : ∀ (y0 : S24), ∀ (y1 : ByteArray), (y0.f0.size ≤ 140737488351232 ∧ y0.f1.size ≤ 140737488351232 ∧ (Lit.int .i64 y0.f2).wf = true ∧ (Lit.int .i64 y0.f3).wf = true) → y1.size ≤ 140737488351232 → ∃ k, graftagelaw16_CommitPersons.f k y0.f0 y0.f1 y0.f2 y0.f3 y1 = some true := by
  intro y0 y1 h0 h1
  obtain ⟨hn, hm, _, _⟩ := h0
  generalize y0.f0 = n at *
  generalize y0.f1 = m at *
  generalize y0.f2 = t at *
  generalize y0.f3 = z at *
  have key : Ev (fun k => graftagelaw16_CommitPersons.f k n m t z y1) true := by
    have big : Ev (fun k => graftagelaw16_CommitPersons.j0 k y1 true n m t z) true :=
      Ev.step (f := ?_) (fun k => by rw [graftagelaw16_CommitPersons.j0, if_pos rfl]) liveOr16
    refine ev_ite (fun _ => big) (fun g1 => ?_)
    by_cases g2 : wrap64 ((n.size : Int) + (m.size : Int)) > 1000
    · rw [decide_eq_true g2]; exact big
    rw [decide_eq_false g2]
    refine Ev.step (f := ?_) (fun k => by rw [graftagelaw16_CommitPersons.j0, if_neg (by decide)]) ?_
    refine Ev.bind (ParseWho_ev y1 (by omega)) (Ev.bind (refParseWho_ev y1 (by omega)) ?_)
    refine ev_no (by simp) (ev_yes rfl (ev_ite (fun g3 => ?_) (fun g3 => persons_j1 n m t z hn hm)))
    generalize hp : parseWhoB y1 = p at *
    obtain ⟨a, b, c, d, e⟩ := p
    obtain rfl : e = 0 := g3
    obtain ⟨w1, w2⟩ := who_again y1 a b c d hp
    have w3 := w2
    unfold personB at w3
    simp only [Bool.and_eq_true, decide_eq_true_eq] at w3
    obtain ⟨gn, gm, q0, q1, q2, q3⟩ := w3
    have hl : ∀ s : ByteArray, namedB s = true → s.size ≤ 64 := fun s h => by
      unfold namedB edge at h
      simp only [Bool.and_eq_true, Bool.not_eq_true', Bool.or_eq_false_iff, decide_eq_false_iff_not] at h
      omega
    have l1 := hl a gn
    have l2 := hl b gm
    rw [Who_eq a b c d (by omega) (by omega) (by omega) (by omega) (by omega) (by omega)]
    simp only [Option.bind_some]
    rw [w1, show (y1.toList != y1.toList) = false by simp]
    exact persons_j1 n m t z hn hm
  obtain ⟨k, hk⟩ := key
  exact ⟨k, hk k (Nat.le_refl _)⟩
end Go.Proofs.YtbhfbbfjdklfgaaGreatDoor.Pure


/- What a law's argument reads as (numbers, bools, strings, structs, slices, nested) opens into the printed kinds, with the reach's bounds; for the rows of this seat. -/
namespace Go.Proofs.YtbhfbbfjdklfgaaGreatDoor.Ro
open Go.RowKit Go.Deep Go.Proofs.YtbhfbbfjdklfgaaGreatDoorW.PrintWords

/-- What a reading of type t by the form tells in the words of kind d; S: the bounds. -/
def Opens (P : Program) (t : TypeId) {α : Type} (d : Kd α) (S : α → Prop) : Prop :=
  ∀ {H : Type} (enc : TypeId × Value → H) (w : World) (fuel : Nat) (cs : List Value) (x : DataW H × List MemPlace),
    DataW.trod enc P w 0 (fun _ => true) true fuel t cs = some x → (∀ n ∈ DataW.weights P t x.1, n ≤ reachBytes) → ∃ y : α, d.K w y cs ∧ S y

section
variable {P : Program} {t e : TypeId}

theorem Opens.int {k : IntKind} (ht : P.underlying t = some (.int k)) : Opens P t (Kd.int k) (fun y => (Lit.int k y).wf = true) := by
  intro H enc w fuel cs x h _
  obtain ⟨n, rfl, rfl, hw⟩ := DataW.trod_int ht h
  exact ⟨n, rfl, hw⟩

theorem Opens.bool (ht : P.underlying t = some .bool) : Opens P t Kd.bool (fun _ => True) := by
  intro H enc w fuel cs x h _
  obtain ⟨b, rfl, rfl⟩ := DataW.trod_bool ht h
  exact ⟨b, rfl, trivial⟩

theorem Opens.string (ht : P.underlying t = some .string) : Opens P t Kd.string (fun y => y.size ≤ 140737488351232) := by
  intro H enc w fuel cs x h hn
  obtain ⟨s, rfl, rfl, _⟩ := DataW.trod_string ht h
  refine ⟨s, rfl, ?_⟩
  have := hn s.data.toList.length (by simp [DataW.weights])
  simpa [reachBytes] using this

theorem choose_list {α : Type} {n : Nat} {p : Nat → α → Prop} (h : ∀ i, i < n → ∃ y, p i y) : ∃ l : List α, l.length = n ∧ ∀ i y, l[i]? = some y → p i y := by
  induction n with
  | zero => exact ⟨[], rfl, fun i y hy => by simp at hy⟩
  | succ n ih =>
    obtain ⟨l, hl, hp⟩ := ih (fun i hi => h i (by omega))
    obtain ⟨y, hy⟩ := h n (by omega)
    refine ⟨l ++ [y], by simp [hl], fun i z hz => ?_⟩
    rcases Nat.lt_or_ge i l.length with hi | hi
    · rw [List.getElem?_append_left hi] at hz
      exact hp i z hz
    · rw [List.getElem?_append_right hi] at hz
      have : i - l.length = 0 := by
        have := (List.getElem?_eq_some_iff.1 hz).1
        simpa using this
      rw [this] at hz
      have h1 : i = n := by omega
      subst h1
      have : y = z := by simpa using hz
      subst this
      exact hy

theorem weightsAll_mem {H : Type} {e : TypeId} : ∀ {l : List (DataW H)} {d : DataW H}, d ∈ l → ∀ n ∈ d.weights P e, n ∈ DataW.weightsAll P e l
  | a :: l, d, hd, n, hn => by
    simp only [DataW.weightsAll, List.mem_append]
    rcases List.mem_cons.1 hd with rfl | hd
    · exact .inl hn
    · exact .inr (weightsAll_mem hd n hn)

theorem Opens.slice {α : Type} {d : Kd α} {S : α → Prop} {b : Nat} (ht : P.underlying t = some (.slice e)) (hc : P.cellsOf e = d.sz) (hb : P.bytesOf e = b) (h : Opens P e d S) :
    Opens P t (Kd.slice e d) (fun l => l.length * b ≤ 140737488351232 ∧ ∀ y ∈ l, S y) := by
  intro H enc w fuel cs x hx hn
  rcases open_slice ht hx with ⟨rfl, rfl⟩ | ⟨a, len, cap, m, n, D, Pl, rfl, _, hl, hm, hmm, rfl, hall⟩
  · exact ⟨[], ⟨none, 0, rfl, Nat.le_refl _, rfl, by simp, fun h => absurd h (by simp)⟩, by simp, by simp⟩
  · simp only [if_true] at hmm
    obtain rfl : m = cap := hmm
    have hel : ∀ i, i < len → ∃ y : α, (∃ cs', w.cells? 0 (a.add (i * P.cellsOf e)) (P.cellsOf e) = some cs' ∧ d.K w y cs') ∧ S y := by
      intro i hi
      obtain ⟨cs', h1, h2⟩ := hall i (by omega)
      obtain ⟨y, hy, hs⟩ := h enc w n cs' _ h2 (fun k hk => hn k (by
        simp only [DataW.weights, ht, List.mem_cons, List.mem_append]
        exact .inr (.inl (weightsAll_mem (List.mem_map.2 ⟨i, List.mem_range.2 hi, rfl⟩) k hk))))
      exact ⟨y, ⟨cs', h1, hy⟩, hs⟩
    obtain ⟨l, hll, hp⟩ := choose_list hel
    subst hll
    have hw : (l.length + (m - l.length)) * b ≤ reachBytes := by
      have := hn _ (by simp only [DataW.weights, ht, List.mem_cons]; exact .inl rfl)
      simpa [hb] using this
    refine ⟨l, ⟨some a, m, rfl, hl, rfl, by unfold maxLen at hm; omega, fun _ => ⟨a, rfl, fun j p hj => ?_⟩⟩, ?_, fun y hy => ?_⟩
    · obtain ⟨⟨cs', h1, hk⟩, _⟩ := hp j p hj
      obtain ⟨_, hlen, hcell⟩ := World.cells?_some h1
      refine ⟨cs', by rw [hlen, hc], hk, fun i u hu => ?_⟩
      have hi : i < P.cellsOf e := by
        have := (List.getElem?_eq_some_iff.1 hu).1
        omega
      have := hcell i hi
      rw [Go.Deep.add_add, hu, hc] at this
      exact this
    · have : l.length * b ≤ (l.length + (m - l.length)) * b := Nat.mul_le_mul_right _ (by omega)
      simp only [reachBytes] at hw
      omega
    · obtain ⟨j, hj⟩ := List.mem_iff_getElem?.1 hy
      exact (hp j y hj).2

/-- The fields from one on, in line. -/
def OpensF (P : Program) (fs : List Field) (o : Nat) {α : Type} (d : Kd α) (S : α → Prop) : Prop :=
  ∀ {H : Type} (enc : TypeId × Value → H) (w : World) (n : Nat) (cs : List Value) (ys : List (DataW H × List MemPlace)),
    (∀ (i : Nat) (f : Field), fs[i]? = some f → DataW.trod enc P w 0 (fun _ => true) true n f.type ((cs.drop f.offset).take (P.cellsOf f.type)) = ys[i]?) → ys.length = fs.length →
    (∀ k ∈ DataW.weightsEach P (fs.map (·.type)) (ys.map (·.1)), k ≤ reachBytes) → cs.length = o + d.sz → ∃ y : α, d.K w y (cs.drop o) ∧ S y

theorem OpensF.one {α : Type} {f : Field} {o : Nat} {d : Kd α} {S : α → Prop} (ho : f.offset = o) (hc : P.cellsOf f.type = d.sz) (h : Opens P f.type d S) : OpensF P [f] o d S := by
  intro H enc w n cs ys hf hl hw hlen
  match ys, hl with
  | [y], _ =>
    have h1 := hf 0 f rfl
    rw [ho, hc, List.take_of_length_le (by rw [List.length_drop]; omega)] at h1
    exact h enc w n _ y h1 (fun k hk => hw k (by simp [DataW.weightsEach, hk]))

theorem OpensF.cons {α β : Type} {f : Field} {fs : List Field} {o o' : Nat} {d : Kd α} {d' : Kd β} {S : α → Prop} {S' : β → Prop} (ho : f.offset = o) (hc : P.cellsOf f.type = d.sz) (ho' : o + d.sz = o')
    (h : Opens P f.type d S) (h' : OpensF P fs o' d' S') : OpensF P (f :: fs) o (Kd.pair d d') (fun z => S z.1 ∧ S' z.2) := by
  intro H enc w n cs ys hf hl hw hlen
  match ys, hl with
  | y :: ys, hl =>
    have h1 := hf 0 f rfl
    rw [ho, hc] at h1
    have hlen' : cs.length = o + (d.sz + d'.sz) := hlen
    obtain ⟨a, ha, hs⟩ := h enc w n _ y h1 (fun k hk => hw k (by simp only [List.map_cons, DataW.weightsEach, List.mem_append]; exact .inl hk))
    obtain ⟨b, hb, hs'⟩ := h' enc w n cs ys (fun i g hg => hf (i + 1) g (by simpa using hg)) (by simpa using hl) (fun k hk => hw k (by simp only [List.map_cons, DataW.weightsEach, List.mem_append]; exact .inr hk)) (by omega)
    refine ⟨(a, b), ⟨_, _, ?_, ha, hb⟩, hs, hs'⟩
    rw [← ho', ← List.drop_drop, List.take_append_drop]

theorem Opens.struct {α β : Type} {fs : Array Field} {d : Kd α} {S : α → Prop} {f : β → α} {g : α → β} (ht : P.underlying t = some (.struct fs)) (hc : P.cellsOf t = d.sz) (hfg : ∀ a, f (g a) = a) (h : OpensF P fs.toList 0 d S) :
    Opens P t (Kd.iso d f) (fun y => S (f y)) := by
  intro H enc w fuel cs x hx hn
  obtain ⟨xs, n, _, rfl, hl, hlen, hf⟩ := DataW.trod_struct ht hx
  obtain ⟨a, ha, hs⟩ := h enc w n cs xs (fun i q hq => hf i q (by simpa using hq)) (by simpa using hlen) (fun k hk => hn k (by simpa [DataW.weights, ht] using hk)) (by rw [hl, hc]; omega)
  refine ⟨g a, ?_, by show S (f (g a)); rw [hfg]; exact hs⟩
  show d.K w (f (g a)) cs
  rw [hfg]
  simpa using ha

theorem Opens.imp {α : Type} {d : Kd α} {S S' : α → Prop} (h : Opens P t d S) (hS : ∀ y, S y → S' y) : Opens P t d S' := by
  intro H enc w fuel cs x hx hn
  obtain ⟨y, hy, hs⟩ := h enc w fuel cs x hx hn
  exact ⟨y, hy, hS y hs⟩

/-- An argument: its cells, told. -/
theorem Opens.arg {H : Type} {enc : TypeId × Value → H} {α : Type} {d : Kd α} {S : α → Prop} {w : World} {ts : List TypeId} {ds : List (DataW H)} {j : Nat} {v : Value} {dd : DataW H} {ps : List MemPlace} (h : Opens P t d S)
    (hz : (DataW.weightsEach P ts ds).all (· ≤ reachBytes) = true) (ht : ts[j]? = some t) (hd : ds[j]? = some dd) (hv : DataW.Trod enc P w 0 (fun _ => true) true t v dd ps) : ∃ y : α, d.K w y v.cells.toList ∧ S y := by
  obtain ⟨fuel, hf⟩ := hv
  exact h enc w fuel _ (dd, ps) hf (fun n hn => by simpa using List.all_eq_true.1 hz n (DataW.weights_mem_each ht hd n hn))

theorem arg_lt {H : Type} {enc : TypeId × Value → H} {w : World} {v : Value} {dd : DataW H} {ps : List MemPlace} (hv : DataW.Trod enc P w 0 (fun _ => true) true t v dd ps) : ∀ x ∈ ps, x.block < w.heap.size := by
  obtain ⟨m, hm⟩ := hv
  exact DataW.trod_lt m _ _ _ hm
end
end Go.Proofs.YtbhfbbfjdklfgaaGreatDoor.Ro


/- The law CommitPersons holds: for every input it returns true, and each argument reads afterwards as it read before. -/
namespace Go.Proofs.YtbhfbbfjdklfgaaGreatDoor.commitPersons
open Go.ChangeShapes Go.WideShapes Go.ChangeAt Go.RowKit Go.Proofs.YtbhfbbfjdklfgaaGreatDoor.Ro Go.Proofs.YtbhfbbfjdklfgaaGreatDoor.Q Go.Proofs.YtbhfbbfjdklfgaaGreatDoorW.PrintWords
open Go.ChangeMaps (open_string shut_string)
theorem own : ownKnob Tryz.prog.godebug = none := by kernel_rfl
theorem laidOut : laidOutB Tryz.prog = true := by kernel_rfl
theorem opens9 : Opens Tryz.prog 9 Kd.string (fun y => y.size ≤ 140737488351232) := (Opens.string Tryz.underlying9)
theorem opens24 : Opens Tryz.prog 24 k24 (fun y => (y.f0.size ≤ 140737488351232 ∧ y.f1.size ≤ 140737488351232 ∧ (Lit.int .i64 y.f2).wf = true ∧ (Lit.int .i64 y.f3).wf = true)) := (Opens.struct (f := (fun x : S24 => (x.f0, x.f1, x.f2, x.f3))) (g := (fun a => (⟨a.1, a.2.1, a.2.2.1, a.2.2.2⟩ : S24))) Tryz.underlying24 (by kernel_rfl) (fun _ => rfl) (OpensF.cons rfl (by kernel_rfl) rfl (Opens.string Tryz.underlying9) (OpensF.cons rfl (by kernel_rfl) rfl (Opens.string Tryz.underlying9) (OpensF.cons rfl (by kernel_rfl) rfl (Opens.int Tryz.underlying3) (OpensF.one rfl (by kernel_rfl) (Opens.int Tryz.underlying3))))))
set_option maxRecDepth 100000 in
theorem lifted (os : Os) (started : os.Started) (H : Type) (enc : TypeId × Value → H) :
    ReturnsInHanded {} Tryz.checked os 6 .any (fun w args => (Rows.commitPersonsSpec.pre enc Tryz.prog Tryz.f6 [] false w args ∧ laidMetH Tryz.prog Rows.commitPersonsRow.laid w) ∧ sizedMet enc Tryz.prog Tryz.f6 (OpenSpec.ofChange Rows.commitPersonsSpec) false w args) (Rows.commitPersonsSpec.post enc Tryz.prog Tryz.f6 false true false false) := by
  refine returnsInHanded_and_shaped (C := Tryz.checked) (X := fun w _ => laidMetH Tryz.prog Rows.commitPersonsRow.laid w) (fun _ _ _ hh h => h.of_heap hh) own started (by kernel_rfl) Tryz.func6
    (ChangeSpec.witness_shaped (enc := enc) (C := Tryz.checked) (os := os) (X := fun w _ => laidMetH Tryz.prog Rows.commitPersonsRow.laid w) false (World.laidAll Tryz.prog os Rows.commitPersonsRow.laid) #[.agg #[.string ByteArray.empty, .string ByteArray.empty, .int .i64 0, .int .i64 0], .string ByteArray.empty] 8 (World.laidAll_os _ _ _)
      (World.shaped_of_ZipB (by kernel_rfl) (by kernel_rfl)) (by kernel_rfl) (by kernel_rfl) (by kernel_rfl)
      (by rw [MakeChecks.laidMetH_plain _ _ _ (by kernel_rfl)]; exact laidMet_laidAll _ (by kernel_rfl) (by kernel_rfl))) ?_
  intro W base args ds gs before hval0 hW hcnd hsz0 hlm0 hsh0
  have hsz : (DataW.weightsEach Tryz.prog (Tryz.f6.params.toList ++ Rows.commitPersonsSpec.plain.varTypes Tryz.prog) (ds ++ gs)).all (· ≤ reachBytes) = true := hsz0
  have hval : ∀ (j : Nat) t v, Tryz.f6.params[j]? = some t → args[j]? = some v → Value.okWide Tryz.prog W .any base t v := hval0
  have hW' := hW
  obtain ⟨p, q, hA0, hV, rfl, hfz, hnd⟩ := hW
  have hA : DataW.TrodAll enc Tryz.prog W 0 (fun _ => true) true Tryz.f6.params.toList args.toList ds p := hA0
  rw [Tryz.params6] at hA hval hsz
  obtain ⟨v0, vs0, d0, ds0, p0, q0, hargs, rfl, rfl, h0, r0⟩ := trodAll_cons hA
  obtain ⟨v1, vs1, d1, ds1, p1, q1, rfl, rfl, rfl, h1, r1⟩ := trodAll_cons r0
  obtain ⟨rfl, rfl, rfl⟩ := trodAll_nil r1
  obtain rfl : args = #[v0, v1] := by cases args; simp_all
  obtain ⟨rfl, rfl⟩ := trodVars_none hV
  have lt0 := arg_lt h0
  obtain ⟨y0, hk0, w0⟩ := opens24.arg hsz (j := 0) rfl rfl h0
  obtain ⟨cs0, rfl, _⟩ := okWide_struct Tryz.underlying24 (hval 0 24 v0 rfl rfl)
  have hk0' := k24_open hk0
  have e0 := hk0'
  obtain rfl : cs0 = #[.string y0.f0, .string y0.f1, .int .i64 y0.f2, .int .i64 y0.f3] := by cases cs0; simpa [Value.cells] using e0
  have lt1 := arg_lt h1
  obtain ⟨y1, hk1, w1⟩ := opens9.arg hsz (j := 1) rfl rfl h1
  obtain ⟨x1, rfl⟩ := okWide_string Tryz.underlying9 (hval 1 9 v1 rfl rfl)
  obtain rfl : x1 = y1 := by simpa [Kd.string, Kd.scalar, Value.cells] using hk1
  obtain ⟨k, hp⟩ := Pure.CommitPersons _ _ w0 w1
  clear hA0 hval0 hsz0 hsz
  refine (Q.graftagelaw16_CommitPersons.calls k y0.f0 y0.f1 y0.f2 y0.f3 _ true W (GV.shaped hsh0 (l := Rows.commitPersonsRow.laid) (by have h_ := hlm0; rw [MakeChecks.laidMetH_plain _ _ _ (by kernel_rfl)] at h_; exact h_) (.tail _ (.tail _ (.head _)))) hp).mono ?_
  rintro e W' ⟨rfl, bel0⟩
  have bel : Below W.heap.size W W' := bel0
  exact ⟨_, rfl, _, _, _, [], _, [], hW', trodAll_mk1 (shut_bool Tryz.underlying4 _), (trodAll_cons_mk (Below.trod laidOut (by kernel_rfl) (of_decide_eq_true (by kernel_rfl)) h0 bel lt0) (trodAll_cons_mk (Below.trod laidOut (by kernel_rfl) (of_decide_eq_true (by kernel_rfl)) h1 bel lt1) trodAll_mk0)), rfl, bel.frame _, fun h => by cases h⟩
theorem over : Rows.commitPersonsRow.holds Tryz.pinned (OpenSpec.ofChange Rows.commitPersonsSpec) :=
  OpenClaim.holds_of_wide 6 Tryz.f6 rfl rfl rfl rfl rfl rfl rfl ⟨rfl, rfl, rfl, rfl, rfl⟩ rfl rfl rfl rfl rfl (by kernel_rfl) Tryz.func6 joined
    (of_decide_eq_true (by kernel_rfl)) (by unfold Func.isWrapper; first | (rw [if_pos (by decide +kernel)]; kernel_rfl) | (rw [if_neg (by decide +kernel)]; exact ⟨rfl, rfl⟩))
    (fun os started H enc _ => lifted os started H enc)
theorem proved : Rows.CommitPersonsSaid := over
theorem card_holds : Rows.CommitPersonsCardSaid :=
  Claim7.holds_tied_plain_at .later [] [.data, .data, .data, .data, .sentinel, .sentinel, .pinned] true (true, "122aec7e533ec1bbbaac3b90e11b4338a89c93a5f0ce7185d6d93993e47251e7") true over (fun _ h => by cases h) jw (fun _ h => by cases h) commitPersons_row_tie rfl ⟨rfl, rfl⟩ jm rfl
    (fun f fn hf hfn => by
      obtain rfl : f = 6 := Option.some.inj ((show Tryz.prog.funcNamed "graftage/graftagelaw16.CommitPersons" = some 6 by kernel_rfl).symm.trans hf) |>.symm
      obtain rfl : fn = Tryz.f6 := (Option.some.inj (Tryz.func6.symm.trans hfn)).symm
      exact ⟨jl, fun j t ht => by
        rw [Tryz.params6] at ht
        have hm : t ∈ [24, 9] := by simpa using Array.mem_of_getElem? ht
        have hall : ([24, 9].all fun u => !Tryz.prog.wantsStandIn u) = true := by kernel_rfl
        exact (show Tryz.prog.wantsStandIn t = false by simpa using List.all_eq_true.1 hall t hm)⟩)
    jg
#print axioms card_holds
end Go.Proofs.YtbhfbbfjdklfgaaGreatDoor.commitPersons
namespace Go.Proofs.YtbhfbbfjdklfgaaGreatDoor
/-- The statement, under a short name, for the claim. -/
theorem commitPersons_holds : Rows.CommitPersonsCardSaid := commitPersons.card_holds
end Go.Proofs.YtbhfbbfjdklfgaaGreatDoor


