/- The law CommitNames holds: for every input it returns true, and each argument reads afterwards as it read before. -/
import Derived.Test.YtbhfbbfjdklfgaaGreatDoorMCommitNames4
import Derived.Lib.LazyBuf
import Derived.Sort.Walk0
import Derived.Deep.Slices
import Derived.ChangeArms
import Derived.Test.YtbhfbbfjdklfgaaGreatDoorCards
set_option linter.unusedVariables false
set_option linter.unusedSimpArgs false
set_option maxHeartbeats 8000000
set_option maxRecDepth 100000
namespace Go.Proofs.YtbhfbbfjdklfgaaGreatDoor.Q
open Go.Proofs.Tryz Go.RowKit Go.Proofs.YtbhfbbfjdklfgaaGreatDoorW.PrintWords Go.Proofs.YtbhfbbfjdklfgaaGreatDoorW.PrintLast Go.Proofs.YtbhfbbfjdklfgaaGreatDoorW.PrintMore
theorem size_app (a b : ByteArray) : (a ++ b).size = a.size + b.size := ByteArray.size_append
theorem dec_len (n : Nat) : ∀ u : Nat, u < 10 ^ (n + 1) → (Lib.decDigits u).length ≤ n + 1 := by
 induction n with
 | zero => intro u h; rw [Lib.decDigits, dif_pos (by omega)]; simp
 | succ n ih =>
  intro u h
  rw [Lib.decDigits]
  split
  ·simp
  ·rw [List.length_append, List.length_singleton]
   have := ih (u / 10) (by rw [Nat.pow_succ] at h; omega)
   omega
theorem itoa_len (t : Int) (h0 : -9223372036854775808 ≤ t) (h1 : t ≤ 9223372036854775807) : (Lib.itoa t).length ≤ 20 := by
 unfold Lib.itoa
 split
 ·rw [List.length_cons]; have := dec_len 18 t.natAbs (by omega); omega
 ·have := dec_len 18 t.toNat (by omega); omega
theorem Itoa_eq (t : Int) (h0 : -9223372036854775808 ≤ t) (h1 : t ≤ 9223372036854775807) : strconv_Itoa.f t = some (mk (Lib.itoa t)) := by
 unfold strconv_Itoa.f
 rw [if_pos h0, if_pos h1]; rfl
theorem itoa_nat (n : Nat) : Lib.itoa (n : Int) = Lib.decDigits n := by
 unfold Lib.itoa; rw [if_neg (by omega), Int.toNat_natCast]
def twoL (n : Nat) : List UInt8 := Lib.decDigits (n / 10 % 10) ++ Lib.decDigits (n % 10)
def tailL (t z : Int) : List UInt8 := Lib.itoa t ++ 32 :: (if z < 0 then 45 else 43) :: (twoL (z.natAbs / 60) ++ twoL (z.natAbs % 60))
def whoL (n m : List UInt8) (t z : Int) : List UInt8 := n ++ 32 :: 60 :: (m ++ 62 :: 32 :: tailL t z)
def whoB (n m : ByteArray) (t z : Int) : ByteArray := mk (whoL n.data.toList m.data.toList t z)
theorem two_len (n : Nat) : (twoL n).length = 2 := by
 unfold twoL
 rw [List.length_append, Lib.decDigits, dif_pos (by omega), Lib.decDigits, dif_pos (by omega)]; rfl
theorem Who1_eq (n : Nat) (h : (n : Int) ≤ 9223372036854775807) : commit_Who_1.f (n : Int) = some (mk (twoL n)) := by
 unfold commit_Who_1.f
 have e1 : (Int.tmod (wrap64 (Int.tdiv (n : Int) 10)) 10) = ((n / 10 % 10 : Nat) : Int) := by
  rw [Int.tdiv_eq_ediv_of_nonneg (by omega), wrap_id (by omega) (by omega), Int.tmod_eq_emod_of_nonneg (by omega)]; omega
 have e2 : (Int.tmod (n : Int) 10) = ((n % 10 : Nat) : Int) := by rw [Int.tmod_eq_emod_of_nonneg (by omega)]; omega
 rw [e1, e2, Itoa_eq _ (by omega) (by omega), Itoa_eq _ (by omega) (by omega), Option.bind_some, Option.bind_some, itoa_nat, itoa_nat]
 have l1 : (mk (Lib.decDigits (n / 10 % 10))).size = 1 := by rw [mk_size, Lib.decDigits, dif_pos (by omega)]; rfl
 have l2 : (mk (Lib.decDigits (n % 10))).size = 1 := by rw [mk_size, Lib.decDigits, dif_pos (by omega)]; rfl
 rw [if_pos (by omega), mk_app]; rfl
theorem Who_eq (n m : ByteArray) (t z : Int) (hn : n.size ≤ 140737488351232) (hm : m.size ≤ 140737488351232) (h0 : -9223372036854775808 ≤ t) (h1 : t ≤ 9223372036854775807) (hz0 : -9223372036854775808 < z) (hz1 : z ≤ 9223372036854775807) : commit_Who.f n m t z = some (whoB n m t z) := by
 have hl := itoa_len t h0 h1
 have hl1 := two_len (z.natAbs / 60)
 have hl2 := two_len (z.natAbs % 60)
 have s1 : (mk (Lib.itoa t)).size ≤ 20 := by rw [mk_size]; exact hl
 have s2 : (mk (twoL (z.natAbs / 60))).size = 2 := by rw [mk_size]; exact hl1
 have s3 : (mk (twoL (z.natAbs % 60))).size = 2 := by rw [mk_size]; exact hl2
 have c2 : (⟨#[32, 60]⟩ : ByteArray).size = 2 := rfl
 have c3 : (⟨#[62, 32]⟩ : ByteArray).size = 2 := rfl
 have c4 : (⟨#[32]⟩ : ByteArray).size = 1 := rfl
 have c5 : (⟨#[45]⟩ : ByteArray).size = 1 := rfl
 have c6 : (⟨#[43]⟩ : ByteArray).size = 1 := rfl
 unfold commit_Who.f
 rw [Itoa_eq t h0 h1]
 by_cases h : z < 0
 ·have e1 : wrap64 (Int.tdiv (wrap64 (-z)) 60) = ((z.natAbs / 60 : Nat) : Int) := by
   rw [wrap_id (x := -z) (by omega) (by omega), Int.tdiv_eq_ediv_of_nonneg (by omega), wrap_id (by omega) (by omega)]; omega
  have e2 : Int.tmod (wrap64 (-z)) 60 = ((z.natAbs % 60 : Nat) : Int) := by
   rw [wrap_id (x := -z) (by omega) (by omega), Int.tmod_eq_emod_of_nonneg (by omega)]; omega
  rw [if_pos h, if_pos (by omega), if_pos (by simp only [size_app]; omega), if_pos (by simp only [size_app]; omega), Option.bind_some, if_pos (by simp only [size_app]; omega), if_pos (by simp only [size_app]; omega), if_pos (by simp only [size_app]; omega), e1, e2, Who1_eq _ (by omega), Who1_eq _ (by omega), Option.bind_some, if_pos (by simp only [size_app]; omega), Option.bind_some, if_pos (by simp only [size_app]; omega)]
  congr 1
  refine ba_ext ?_
  unfold whoB whoL tailL
  rw [if_pos h]
  simp only [append_data, mk_data, List.append_assoc, List.cons_append, List.nil_append]
  try simp
 ·have e1 : wrap64 (Int.tdiv z 60) = ((z.natAbs / 60 : Nat) : Int) := by
   rw [Int.tdiv_eq_ediv_of_nonneg (by omega), wrap_id (by omega) (by omega)]; omega
  have e2 : Int.tmod z 60 = ((z.natAbs % 60 : Nat) : Int) := by
   rw [Int.tmod_eq_emod_of_nonneg (by omega)]; omega
  rw [if_neg h, if_pos (by omega), if_pos (by simp only [size_app]; omega), if_pos (by simp only [size_app]; omega), Option.bind_some, if_pos (by simp only [size_app]; omega), if_pos (by simp only [size_app]; omega), if_pos (by simp only [size_app]; omega), e1, e2, Who1_eq _ (by omega), Who1_eq _ (by omega), Option.bind_some, if_pos (by simp only [size_app]; omega), Option.bind_some, if_pos (by simp only [size_app]; omega)]
  congr 1
  refine ba_ext ?_
  unfold whoB whoL tailL
  rw [if_neg h]
  simp only [append_data, mk_data, List.append_assoc, List.cons_append, List.nil_append]
  try simp
theorem Cut_eq (s t : ByteArray) (hs : s.size < 4294967281) : strings_Cut.f s t = some (mk (Lib.cut s.data.toList t.data.toList).1, mk (Lib.cut s.data.toList t.data.toList).2.1, (Lib.cut s.data.toList t.data.toList).2.2) := by
 unfold strings_Cut.f; rw [if_pos hs]; rfl
theorem cut_len (l s : List UInt8) : (Lib.cut l s).1.length + (Lib.cut l s).2.1.length ≤ l.length := by
 by_cases h : 0 ≤ Lib.index l s
 ·rw [cut_of h]; simp only [List.length_take, List.length_drop]; omega
 ·rw [cut_no h]; simp
theorem contains_iff : ∀ l : List UInt8, Lib.containsAny l [60, 62] = true ↔ (60 ∈ l ∨ 62 ∈ l)
 | [] => by simp [Lib.containsAny, Lib.indexAny]
 | c :: l => by
  have ih := contains_iff l
  unfold Lib.containsAny at ih ⊢
  rw [decide_eq_true_iff] at ih ⊢
  rw [Lib.indexAny]
  by_cases h : ([60, 62] : List UInt8).contains c = true
  ·rw [if_pos h]
   simp at h
   rcases h with rfl | rfl <;> simp
  ·rw [if_neg h]
   have h60 : c ≠ 60 := by rintro rfl; simp at h
   have h62 : c ≠ 62 := by rintro rfl; simp at h
   have hge := Go.Lib.indexAny_ge [60, 62] l
   by_cases h1 : Lib.indexAny l [60, 62] = -1
   ·rw [h1] at ih ⊢
    simp at ih ⊢
    exact ⟨⟨fun e => h60 e.symm, ih.1⟩, fun e => h62 e.symm, ih.2⟩
   ·rw [if_neg (by simpa using h1)]
    have : 0 ≤ Lib.indexAny l [60, 62] := by omega
    have h2 := ih.1 this
    constructor
    ·intro _; rcases h2 with h2 | h2 <;> simp [h2]
    ·intro _; omega
theorem index_not (x : UInt8) : ∀ l : List UInt8, Lib.index l [x] = -1 ↔ x ∉ l
 | [] => by rw [Lib.index]; simp
 | c :: l => by
  by_cases h : c = x
  ·subst h
   rw [index_cons_hit (by simp [List.isPrefixOf])]; simp
  ·rw [index_cons_miss (by simp [List.isPrefixOf]; exact fun e => h e.symm)]
   have ih := index_not x l
   have hge := Lib.index_ge l [x]
   by_cases h1 : Lib.index l [x] = -1
   ·rw [if_pos (by simpa using h1)]
    simp only [List.mem_cons, not_or, true_iff]
    exact ⟨fun e => h e.symm, ih.1 h1⟩
   ·rw [if_neg (by simpa using h1)]
    constructor
    ·intro h2; omega
    ·intro h2; exact absurd (ih.2 (fun e => h2 (by simp [e]))) h1
def noA (l : List UInt8) : Prop := 60 ∉ l ∧ 62 ∉ l
instance (l : List UInt8) : Decidable (noA l) := by unfold noA; infer_instance
def finW (n m : ByteArray) (t z : Int) : ByteArray × ByteArray × Int × Int × Int := if personB n m t z = true then (n, m, t, z, 0) else (⟨#[]⟩, ⟨#[]⟩, 0, 0, 1)
def c1 (s : ByteArray) : List UInt8 × List UInt8 × Bool := Lib.cut s.data.toList [32, 60]
def c2 (s : ByteArray) : List UInt8 × List UInt8 × Bool := Lib.cut (c1 s).2.1 [62, 32]
def c3 (s : ByteArray) : List UInt8 × List UInt8 × Bool := Lib.cut (c2 s).2.1 [32]
def wOk (s : ByteArray) : Prop := (c1 s).2.2 = true ∧ (c2 s).2.2 = true ∧ (c3 s).2.2 = true ∧ digOk (mk (c3 s).1) = true ∧ (zoneB (mk (c3 s).2.1)).2 = true ∧ noA (c1 s).1 ∧ noA (c2 s).1
instance (s : ByteArray) : Decidable (wOk s) := by unfold wOk; infer_instance
def parseWhoB (s : ByteArray) : ByteArray × ByteArray × Int × Int × Int :=
 if wOk s then finW (mk (c1 s).1) (mk (c2 s).1) (valI (mk (c3 s).1)) (zoneB (mk (c3 s).2.1)).1 else (⟨#[]⟩, ⟨#[]⟩, 0, 0, 2)
theorem c_len (s : ByteArray) : (c1 s).1.length + (c1 s).2.1.length ≤ s.size ∧ (c2 s).1.length + (c2 s).2.1.length ≤ (c1 s).2.1.length ∧ (c3 s).1.length + (c3 s).2.1.length ≤ (c2 s).2.1.length := by
 have h1 := cut_len s.data.toList [32, 60]
 have h2 := cut_len (c1 s).2.1 [62, 32]
 have h3 := cut_len (c2 s).2.1 [32]
 rw [size_of] at h1
 exact ⟨h1, h2, h3⟩
theorem ParseWho_ev (s : ByteArray) (hs : s.size ≤ 4294967000) : Ev (fun k => commit_ParseWho.f k s) (parseWhoB s) := by
 obtain ⟨l1, l2, l3⟩ := c_len s
 have E1 : strings_Cut.f s ⟨#[32, 60]⟩ = some (mk (c1 s).1, mk (c1 s).2.1, (c1 s).2.2) := Cut_eq _ _ (by omega)
 have E2 : strings_Cut.f (mk (c1 s).2.1) ⟨#[62, 32]⟩ = some (mk (c2 s).1, mk (c2 s).2.1, (c2 s).2.2) := by
  rw [Cut_eq _ _ (by rw [mk_size]; omega), mk_data]; rfl
 have E3 : strings_Cut.f (mk (c2 s).2.1) ⟨#[32]⟩ = some (mk (c3 s).1, mk (c3 s).2.1, (c3 s).2.2) := by
  rw [Cut_eq _ _ (by rw [mk_size]; omega), mk_data]; rfl
 have bad : ¬ wOk s → ∀ (n m : ByteArray) (t z : Int), Ev (fun k => commit_ParseWho.j0 k n m t z true) (parseWhoB s) := fun h n m t z => by
  unfold parseWhoB; rw [if_neg h]
  exact Ev.step (f := ?_) (fun k => by rw [commit_ParseWho.j0, if_pos rfl]) (Ev.now _)
 unfold commit_ParseWho.f
 rw [E1]
 simp only [Option.bind_some]
 rw [E2]
 simp only [Option.bind_some]
 rw [E3]
 simp only [Option.bind_some]
 refine Ev.bind (digits_ev _ (by rw [mk_size]; omega)) (Ev.bind (zone_ev _) ?_)
 unfold wOk at bad
 refine ev_ite (fun g1 => ?_) (fun g1 => bad (fun e => g1 e.1) _ _ _ _)
 refine ev_ite (fun g2 => ?_) (fun g2 => bad (fun e => g2 e.2.1) _ _ _ _)
 refine ev_ite (fun g3 => ?_) (fun g3 => bad (fun e => g3 e.2.2.1) _ _ _ _)
 refine ev_ite (fun g4 => ?_) (fun g4 => bad (fun e => g4 (by rw [if_pos e.2.2.2.1])) _ _ _ _)
 have g4' : digOk (mk (c3 s).1) = true := by
  by_cases h : digOk (mk (c3 s).1) = true
  ·exact h
  ·rw [if_neg h] at g4; simp at g4
 rw [if_pos g4']
 refine ev_ite (fun g5 => ?_) (fun g5 => bad (fun e => g5 e.2.2.2.2.1) _ _ _ _)
 refine ev_yes (by rw [mk_size, mk_size]; omega) ?_
 have E4 : strings_ContainsAny.f (mk (c1 s).1 ++ mk (c2 s).1) ⟨#[60, 62]⟩ = some (Lib.containsAny ((c1 s).1 ++ (c2 s).1) [60, 62]) := by
  unfold strings_ContainsAny.f
  rw [if_pos (by rw [size_app, mk_size, mk_size]; omega), if_pos (by decide), if_pos (by decide), append_data, mk_data, mk_data]
 rw [E4]
 simp only [Option.bind_some]
 by_cases g6 : Lib.containsAny ((c1 s).1 ++ (c2 s).1) [60, 62] = true
 ·rw [g6]
  refine bad (fun e => ?_) _ _ _ _
  rw [contains_iff, List.mem_append, List.mem_append] at g6
  obtain ⟨_, _, _, _, _, ⟨a, b⟩, c, d⟩ := e
  rcases g6 with (h | h) | (h | h) <;> contradiction
 ·have hw : wOk s := by
   rw [contains_iff, List.mem_append, List.mem_append] at g6
   simp only [not_or] at g6
   exact ⟨g1, g2, g3, g4', g5, ⟨g6.1.1, g6.2.1⟩, g6.1.2, g6.2.2⟩
  rw [Bool.not_eq_true] at g6
  rw [g6]
  refine Ev.step (f := ?_) (fun k => by rw [commit_ParseWho.j0, if_neg (by decide)]) ?_
  unfold parseWhoB finW
  rw [if_pos hw]
  refine Ev.bind (somebody_ev _ _ _ _ (by rw [mk_size]; omega) (by rw [mk_size]; omega)) (ev_ite (fun g => ?_) (fun g => ?_))
  ·rw [if_pos g]; exact Ev.now _
  ·rw [if_neg g]; exact Ev.now _
theorem drop_pre {α : Type} (a b : List α) (i : Nat) (h : a.length = i) : (a ++ b).drop i = b := by subst h; simp
theorem take_pre {α : Type} (a b : List α) (i : Nat) (h : a.length = i) : (a ++ b).take i = a := by subst h; simp
def dg (d : Nat) : UInt8 := UInt8.ofNat (48 + d)
theorem dg_val {d : Nat} (h : d < 10) : (dg d).toNat = 48 + d := by
 unfold dg; rw [UInt8.toNat_ofNat']; omega
theorem dg_isDig {d : Nat} (h : d < 10) : isDig (dg d) = true := by
 unfold isDig; rw [dg_val h]; simp; omega
theorem dec_one {d : Nat} (h : d < 10) : Lib.decDigits d = [dg d] := by
 rw [Lib.decDigits.eq_def, dif_pos h]; rfl
theorem twoL_eq (u : Nat) : twoL u = [dg (u / 10 % 10), dg (u % 10)] := by
 unfold twoL; rw [dec_one (by omega), dec_one (by omega)]; rfl
theorem val2 (a b : UInt8) : valI (mk [a, b]) = ((10 * (a.toNat - 48) + (b.toNat - 48) : Nat) : Int) := by
 unfold valI; rw [mk_data, valN_cons, valN_cons, valN_nil]; simp
theorem bt0 (c : UInt8) (l : List UInt8) : bt (mk (c :: l)) 0 = (c.toNat : Int) := (sfx_at (s := mk (c :: l)) (i := 0) (by rw [mk_data]; rfl)).2.1
theorem zone5 (c a b d e : UInt8) : zoneB (mk [c, a, b, d, e]) =
  if (c.toNat = 43 ∨ c.toNat = 45) ∧ [c, a, b, d, e] ≠ [45, 48, 48, 48, 48] ∧ isDig a = true ∧ isDig b = true ∧ isDig d = true ∧ isDig e = true then
   (if 60 ≤ (10 * (d.toNat - 48) + (e.toNat - 48) : Nat) then (0, false) else if c.toNat = 45 then (-(60 * (10 * (a.toNat - 48) + (b.toNat - 48) : Nat) + (10 * (d.toNat - 48) + (e.toNat - 48) : Nat) : Int), true) else ((60 * (10 * (a.toNat - 48) + (b.toNat - 48) : Nat) + (10 * (d.toNat - 48) + (e.toNat - 48) : Nat) : Int), true))
  else (0, false) := by
 have hs : (mk [c, a, b, d, e]).size = 5 := mk_size _
 have x1 : (mk [c, a, b, d, e]).extract 1 3 = mk [a, b] := by rw [ext_mk, mk_data]; rfl
 have x2 : (mk [c, a, b, d, e]).extract 3 (mk [c, a, b, d, e]).size = mk [d, e] := by rw [hs, ext_mk, mk_data]; rfl
 unfold zoneB
 rw [x1, x2, hs, bt0, mk_data, val2, val2]
 have hc : (5 = 5 ∧ ((c.toNat : Int) = 43 ∨ (c.toNat : Int) = 45) ∧ [c, a, b, d, e] ≠ [45, 48, 48, 48, 48] ∧ ([c, a, b, d, e].drop 1).all isDig = true) ↔ ((c.toNat = 43 ∨ c.toNat = 45) ∧ [c, a, b, d, e] ≠ [45, 48, 48, 48, 48] ∧ isDig a = true ∧ isDig b = true ∧ isDig d = true ∧ isDig e = true) := by
  rw [show [c, a, b, d, e].drop 1 = [a, b, d, e] from rfl]
  simp only [List.all_cons, List.all_nil, Bool.and_true, Bool.and_eq_true, true_and]
  constructor
  ·rintro ⟨h1, h2, h3⟩; exact ⟨by omega, h2, h3⟩
  ·rintro ⟨h1, h2, h3⟩; exact ⟨by omega, h2, h3⟩
 by_cases h : (c.toNat = 43 ∨ c.toNat = 45) ∧ [c, a, b, d, e] ≠ [45, 48, 48, 48, 48] ∧ isDig a = true ∧ isDig b = true ∧ isDig d = true ∧ isDig e = true
 ·rw [if_pos h, if_pos (hc.2 h)]
  by_cases h2 : 60 ≤ (10 * (d.toNat - 48) + (e.toNat - 48) : Nat)
  ·rw [if_pos h2, if_pos (by exact_mod_cast h2)]
  ·rw [if_neg h2, if_neg (by exact_mod_cast h2)]
   by_cases h3 : c.toNat = 45
   ·rw [if_pos h3, if_pos (by omega)]; congr 1; omega
   ·rw [if_neg h3, if_neg (by omega)]
 ·rw [if_neg h, if_neg (fun g => h (hc.1 g))]
def sgn (z : Int) : UInt8 := if z < 0 then 45 else 43
def zoneL (z : Int) : List UInt8 := sgn z :: (twoL (z.natAbs / 60) ++ twoL (z.natAbs % 60))
theorem zoneL_eq (z : Int) : zoneL z = [sgn z, dg (z.natAbs / 60 / 10 % 10), dg (z.natAbs / 60 % 10), dg (z.natAbs % 60 / 10 % 10), dg (z.natAbs % 60 % 10)] := by
 unfold zoneL; rw [twoL_eq, twoL_eq]; rfl
theorem tailL_eq (t z : Int) : tailL t z = Lib.itoa t ++ 32 :: zoneL z := rfl
theorem zone_tell (z : Int) (h0 : -5999 ≤ z) (h1 : z ≤ 5999) : zoneB (mk (zoneL z)) = (z, true) := by
 have hA : (sgn z).toNat = 43 ∨ (sgn z).toNat = 45 := by
  unfold sgn
  by_cases hz : z < 0
  ·rw [if_pos hz]; exact Or.inr rfl
  ·rw [if_neg hz]; exact Or.inl rfl
 have hB : [sgn z, dg (z.natAbs / 60 / 10 % 10), dg (z.natAbs / 60 % 10), dg (z.natAbs % 60 / 10 % 10), dg (z.natAbs % 60 % 10)] ≠ [45, 48, 48, 48, 48] := by
  intro e
  unfold sgn at e
  by_cases hz : z < 0
  ·simp only [List.cons.injEq] at e
   obtain ⟨_, e1, e2, e3, e4, _⟩ := e
   have z0 : ∀ d, d < 10 → dg d = 48 → d = 0 := fun d hd h => by
    have := congrArg UInt8.toNat h
    rw [dg_val hd, show (48 : UInt8).toNat = 48 from rfl] at this; omega
   have f1 := z0 _ (by omega) e1
   have f2 := z0 _ (by omega) e2
   have f3 := z0 _ (by omega) e3
   have f4 := z0 _ (by omega) e4
   omega
  ·rw [if_neg hz] at e
   simp at e
 rw [zoneL_eq, zone5, if_pos ⟨hA, hB, dg_isDig (by omega), dg_isDig (by omega), dg_isDig (by omega), dg_isDig (by omega)⟩]
 rw [dg_val (by omega), dg_val (by omega), dg_val (by omega), dg_val (by omega)]
 rw [if_neg (by omega)]
 by_cases hz : z < 0
 ·rw [if_pos (by unfold sgn; rw [if_pos hz]; rfl)]; congr 1; omega
 ·rw [if_neg (by unfold sgn; rw [if_neg hz]; decide)]; congr 1; omega
theorem named_no {s : ByteArray} (h : namedB s = true) : noA s.data.toList := by
 unfold namedB at h
 rw [Bool.and_eq_true] at h
 have ha := h.2
 rw [List.all_eq_true] at ha
 constructor
 ·intro hm
  have := ha _ hm
  simp [okU] at this
 ·intro hm
  have := ha _ hm
  simp [okU] at this
theorem itoa_dig (t : Int) (h : 0 ≤ t) : Lib.itoa t = Lib.decDigits t.toNat := by
 obtain ⟨n, rfl⟩ := Int.eq_ofNat_of_zero_le h
 rw [itoa_nat, Int.toNat_natCast]
theorem dec_no32 (u : Nat) : (32 : UInt8) ∉ Lib.decDigits u := by
 intro h
 have := dec_all u
 rw [List.all_eq_true] at this
 have := this _ h
 simp [isDig] at this
theorem digOk_to {l : List UInt8} (h1 : l ≠ []) (h2 : l.length ≤ 18) (h3 : 1 < l.length → l.head? ≠ some 48) (h4 : l.all isDig = true) : digOk (mk l) = true := by
 unfold digOk
 rw [Bool.and_eq_true, Bool.not_eq_true', mk_data]
 refine ⟨?_, h4⟩
 unfold offD
 rw [mk_size]
 simp only [Bool.or_eq_false_iff, decide_eq_false_iff_not, Bool.and_eq_false_imp, decide_eq_true_eq]
 cases l with
 | nil => simp at h1
 | cons c l =>
  rw [bt0]
  refine ⟨by simp, by omega, fun g e => ?_⟩
  have := h3 g
  simp only [List.head?_cons, ne_eq, Option.some.injEq] at this
  exact this (UInt8.toNat_inj.1 (by rw [show (48 : UInt8).toNat = 48 from rfl]; omega))
theorem dec_digOk (u : Nat) (h : u < 10 ^ 18) : digOk (mk (Lib.decDigits u)) = true := by
 refine digOk_to (dec_ne u) ?_ ?_ (dec_all u)
 ·exact dec_len 17 u h
 ·intro h1
  by_cases h2 : 10 ≤ u
  ·obtain ⟨c, l, e, hc, _⟩ := dec_head u h2
   rw [e]; simpa using hc
  ·rw [dec_one (by omega)] at h1; simp at h1
theorem who_parts (n m : ByteArray) (t z : Int) (hp : personB n m t z = true) : c1 (whoB n m t z) = (n.data.toList, m.data.toList ++ 62 :: 32 :: tailL t z, true) ∧ c2 (whoB n m t z) = (m.data.toList, tailL t z, true) ∧ c3 (whoB n m t z) = (Lib.decDigits t.toNat, zoneL z, true) := by
 unfold personB at hp
 simp only [Bool.and_eq_true, decide_eq_true_eq] at hp
 obtain ⟨hn, hm, h0, h1, h2, h3⟩ := hp
 have e1 : c1 (whoB n m t z) = (n.data.toList, m.data.toList ++ 62 :: 32 :: tailL t z, true) := by
  unfold c1 whoB whoL
  rw [mk_data]
  exact cut_pair 32 60 (by decide) _ _ (named_no hn).1
 have e2 : c2 (whoB n m t z) = (m.data.toList, tailL t z, true) := by
  unfold c2
  rw [e1]
  exact cut_pair' 62 32 _ _ (named_no hm).2
 refine ⟨e1, e2, ?_⟩
 unfold c3
 rw [e2, tailL_eq, itoa_dig t h0]
 exact cut_one 32 _ _ (dec_no32 _)
theorem who_back (n m : ByteArray) (t z : Int) (hp : personB n m t z = true) : parseWhoB (whoB n m t z) = (n, m, t, z, 0) := by
 obtain ⟨e1, e2, e3⟩ := who_parts n m t z hp
 have hp' := hp
 unfold personB at hp'
 simp only [Bool.and_eq_true, decide_eq_true_eq] at hp'
 obtain ⟨hn, hm, h0, h1, h2, h3⟩ := hp'
 have hz := zone_tell z (by omega) (by omega)
 unfold parseWhoB
 rw [if_pos ⟨by rw [e1], by rw [e2], by rw [e3], by rw [e3]; exact dec_digOk _ (by omega), by rw [e3, hz], by rw [e1]; exact named_no hn, by rw [e2]; exact named_no hm⟩]
 rw [e1, e2, e3, hz, mk_of, mk_of]
 have hv : valI (mk (Lib.decDigits t.toNat)) = t := by
  unfold valI; rw [mk_data, dec_val]; omega
 rw [hv]
 unfold finW
 rw [if_pos hp]
attribute [local go_sem] max2_int min2_int max_two min_two max_three min_three max_four min_four
end Go.Proofs.YtbhfbbfjdklfgaaGreatDoor.Q
namespace Go.Proofs.YtbhfbbfjdklfgaaGreatDoor.Q
open Go.Proofs.Tryz Go.RowKit Go.Proofs.YtbhfbbfjdklfgaaGreatDoorW.PrintWords Go.Proofs.YtbhfbbfjdklfgaaGreatDoorW.PrintLast Go.Proofs.YtbhfbbfjdklfgaaGreatDoorW.PrintMore
theorem w_succ (n : Nat) (h : n ≤ 140737488351232) : wrap64 ((n : Int) + 1) = ((n + 1 : Nat) : Int) := by rw [wrap_id (by omega) (by omega)]; omega
def zeroB (s : ByteArray) : Bool := s.data.toList.any fun c => decide (c.toNat = 0)
theorem zeroB_iff (s : ByteArray) : zeroB s = true ↔ (0 : UInt8) ∈ s.data.toList := by
 unfold zeroB
 rw [List.any_eq_true]
 constructor
 ·rintro ⟨c, hc, h⟩
  rw [decide_eq_true_eq] at h
  rwa [← show c = 0 from UInt8.toNat_inj.1 h]
 ·intro h; exact ⟨0, h, rfl⟩
theorem contains_zero (s : ByteArray) (hs : s.size < 4294967281) : strings_Contains2.f s ⟨#[0]⟩ = some (zeroB s) := by
 unfold strings_Contains2.f
 rw [if_pos hs]
 congr 1
 have h1 := index_not 0 s.data.toList
 have hge := Lib.index_ge s.data.toList [0]
 rw [Bool.eq_iff_iff, zeroB_iff]
 unfold Lib.contains
 rw [decide_eq_true_eq]
 show 0 ≤ Lib.index s.data.toList [0] ↔ _
 constructor
 ·intro h
  refine Classical.byContradiction fun h2 => ?_
  have := h1.2 h2
  omega
 ·intro h
  refine Classical.byContradiction fun h2 => ?_
  exact h1.1 (by omega) h
def above (c : UInt8) : Bool := decide (32 < c.toNat)
def taggedB (s : ByteArray) : Bool := s.data.toList.all above && (decide (1 ≤ s.size) && decide (s.size ≤ 64))
theorem above_all (c : UInt8) (t : List UInt8) : (c :: t).all above = (above c && t.all above) := rfl
theorem tagged_l0 (s : ByteArray) (hs : s.size ≤ 140737488351232) : ∀ (t : List UInt8) (i : Nat), s.data.toList.drop i = t → Ev (fun k => commit_tagged.l0 k s (s.size : Int) i) (t.all above && (decide (1 ≤ s.size) && decide (s.size ≤ 64)))
 | [], i, h => by
  have := sfx_end h
  refine Ev.step (f := ?_) (fun k => by rw [commit_tagged.l0, if_neg (by omega)]) (ev_ite (fun g => ev_eq (Ev.now _) ?_) (fun g => ev_eq (Ev.now _) ?_))
  ·rw [List.all_nil, Bool.true_and, decide_eq_true (by omega : 1 ≤ s.size), Bool.true_and]
   exact decide_eq_decide.2 (by omega)
  ·rw [decide_eq_false (by omega : ¬ 1 ≤ s.size)]; simp
 | c :: t, i, h => by
  obtain ⟨hlt, hb, ht⟩ := sfx_at h
  refine Ev.step (f := ?_) (fun k => by rw [commit_tagged.l0, if_pos (by omega), if_pos (by omega), if_pos (by omega), hb, w_succ i (by omega)]) ?_
  refine ev_ite (fun g => ev_eq (Ev.now _) ?_) (fun g => ev_eq (tagged_l0 s hs t (i + 1) ht) ?_)
  ·rw [above_all, show above c = false from decide_eq_false (by omega)]; rfl
  ·rw [above_all, show above c = true from decide_eq_true (by omega), Bool.true_and]
theorem tagged_ev (s : ByteArray) (hs : s.size ≤ 140737488351232) : Ev (fun k => commit_tagged.f k s) (taggedB s) := tagged_l0 s hs _ 0 rfl
def wordB (a : Int) : ByteArray := if a = 1 then ⟨#[98, 108, 111, 98]⟩ else if a = 2 then ⟨#[116, 114, 101, 101]⟩ else if a = 3 then ⟨#[99, 111, 109, 109, 105, 116]⟩ else if a = 4 then ⟨#[116, 97, 103]⟩ else ⟨#[]⟩
theorem wordF_eq (a : Int) : wordF a 4 0 = wordB a := by
 unfold wordB
 simp only [wordF, kindW]
 by_cases h1 : a = 1
 ·subst h1; rfl
 ·rw [if_neg (by omega), if_neg h1]
  by_cases h2 : a = 2
  ·subst h2; rfl
  ·rw [if_neg (by omega), if_neg h2]
   by_cases h3 : a = 3
   ·subst h3; rfl
   ·rw [if_neg (by omega), if_neg h3]
    by_cases h4 : a = 4
    ·subst h4; rfl
    ·rw [if_neg (by omega), if_neg h4]
theorem Word_eq (a : Int) : object_Word.f a = some (wordB a) := by unfold object_Word.f; rw [wordF_eq]
theorem word_none (a : Int) : (wordB a).toList = ([] : List UInt8) ↔ ¬ (1 ≤ a ∧ a ≤ 4) := by
 unfold wordB
 by_cases h1 : a = 1
 ·rw [if_pos h1, ByteArray.toList_eq]; simp; omega
 rw [if_neg h1]
 by_cases h2 : a = 2
 ·rw [if_pos h2, ByteArray.toList_eq]; simp; omega
 rw [if_neg h2]
 by_cases h3 : a = 3
 ·rw [if_pos h3, ByteArray.toList_eq]; simp; omega
 rw [if_neg h3]
 by_cases h4 : a = 4
 ·rw [if_pos h4, ByteArray.toList_eq]; simp; omega
 rw [if_neg h4, ByteArray.toList_eq]; simp; omega
def tagOk (o : ByteArray) (a : Int) (g n m : ByteArray) (t z : Int) (x : ByteArray) : Prop := idOk o = true ∧ (1 ≤ a ∧ a ≤ 4) ∧ taggedB g = true ∧ personB n m t z = true ∧ zeroB x = false
instance (o : ByteArray) (a : Int) (g n m : ByteArray) (t z : Int) (x : ByteArray) : Decidable (tagOk o a g n m t z x) := by unfold tagOk; infer_instance
def checkTagB (o : ByteArray) (a : Int) (g n m : ByteArray) (t z : Int) (x : ByteArray) : Int := if tagOk o a g n m t z x then (if x.size > 4096 then 4 else 0) else 1
theorem CheckTag_ev (o : ByteArray) (a : Int) (g n m : ByteArray) (t z : Int) (x : ByteArray) (hg : g.size ≤ 140737488351232) (hn : n.size ≤ 140737488351232) (hm : m.size ≤ 140737488351232) (hx : x.size < 4294967281) : Ev (fun k => commit_CheckTag.f k o a g n m t z x) (checkTagB o a g n m t z x) := by
 have bad : ¬ tagOk o a g n m t z x → Ev (fun k => commit_CheckTag.j0 k true o a g n m t z x) (checkTagB o a g n m t z x) := fun h => by
  unfold checkTagB; rw [if_neg h]
  exact Ev.step (f := ?_) (fun k => by rw [commit_CheckTag.j0, if_pos rfl]) (Ev.now _)
 refine Ev.bind (ident_Is_ev o) (ev_ite (fun g1 => ?_) (fun g1 => bad (fun e => g1 e.1)))
 rw [Word_eq]
 simp only [Option.bind_some]
 refine ev_ite (fun g2 => bad (fun e => (word_none a).1 g2 e.2.1)) (fun g2 => ?_)
 refine Ev.bind (tagged_ev g hg) (ev_ite (fun g3 => ?_) (fun g3 => bad (fun e => g3 e.2.2.1)))
 refine Ev.bind (somebody_ev n m t z hn hm) (ev_ite (fun g4 => ?_) (fun g4 => bad (fun e => g4 e.2.2.2.1)))
 rw [contains_zero x hx]
 simp only [Option.bind_some]
 cases g5 : zeroB x with
 | true => exact bad (fun e => by have := e.2.2.2.2; rw [g5] at this; cases this)
 | false =>
  have ok : tagOk o a g n m t z x := ⟨g1, Classical.byContradiction (fun h => g2 ((word_none a).2 h)), g3, g4, g5⟩
  unfold checkTagB
  rw [if_pos ok]
  refine Ev.step (f := ?_) (fun k => by rw [commit_CheckTag.j0, if_neg (by decide)]) (ev_ite (fun h => ?_) (fun h => ?_))
  ·rw [if_pos (by omega)]; exact Ev.now _
  ·rw [if_neg (by omega)]; exact Ev.now _
end Go.Proofs.YtbhfbbfjdklfgaaGreatDoor.Q
namespace Go.Proofs.YtbhfbbfjdklfgaaGreatDoor.Q
open Go.Proofs.Tryz Go.RowKit Go.Proofs.YtbhfbbfjdklfgaaGreatDoorW.PrintWords Go.Proofs.YtbhfbbfjdklfgaaGreatDoorW.PrintLast Go.Proofs.YtbhfbbfjdklfgaaGreatDoorW.PrintMore
attribute [local go_sem] max2_int min2_int max_two min_two max_three min_three max_four min_four
end Go.Proofs.YtbhfbbfjdklfgaaGreatDoor.Q
namespace Go.Proofs.YtbhfbbfjdklfgaaGreatDoor.Q
open Go.Proofs.Tryz Go.RowKit Go.Proofs.YtbhfbbfjdklfgaaGreatDoorW.PrintWords Go.Proofs.YtbhfbbfjdklfgaaGreatDoorW.PrintLast Go.Proofs.YtbhfbbfjdklfgaaGreatDoorW.PrintMore
def lineF (u p : List UInt8) : List UInt8 × List UInt8 × Bool := if (Lib.cut u [10]).2.2 = true ∧ (Lib.cut u [10]).1.take p.length = p then ((Lib.cut u [10]).1.drop p.length, (Lib.cut u [10]).2.1, true) else ([], u, false)
theorem lineF_len (u p : List UInt8) : (lineF u p).1.length ≤ u.length ∧ (lineF u p).2.1.length ≤ u.length := by
 have h := cut_len u [10]
 unfold lineF
 split
 ·show (List.drop p.length (Lib.cut u [10]).1).length ≤ u.length ∧ (Lib.cut u [10]).2.1.length ≤ u.length
  rw [List.length_drop]; constructor <;> omega
 ·simp
theorem fail_two (s : ByteArray) (e : Int) : commit_reader_fail.f s e 2 = some (s, 2) := by
 unfold commit_reader_fail.f
 by_cases h : e = 0
 ·rw [if_pos h]
 ·rw [if_neg h, if_pos rfl]
theorem CutPrefix_eq (s p : ByteArray) : strings_CutPrefix.f s p = some (if s.data.toList.take p.size = p.data.toList then (mk (s.data.toList.drop p.size), true) else (s, false)) := by
 have hx : (s.extract 0 p.size).toList = s.data.toList.take p.size := by rw [ByteArray.toList_eq, ext_data]; simp
 have hy : s.extract p.size s.size = mk (s.data.toList.drop p.size) := by
  rw [ext_mk, List.take_of_length_le]
  rw [List.length_drop, size_of]; omega
 unfold strings_CutPrefix.f stringslite_CutPrefix.f stringslite_HasPrefix.f
 by_cases h : (s.size : Int) ≥ (p.size : Int)
 ·rw [if_pos h, if_pos (by omega), if_pos (by omega), hx, ByteArray.toList_eq p]
  simp only [Option.bind_some]
  by_cases g : s.data.toList.take p.size = p.data.toList
  ·rw [if_pos g, if_pos (by rw [g]; simp), if_pos (by omega), if_pos (by omega), hy]; rfl
  ·rw [if_neg g, if_neg (by simpa using g)]; rfl
 ·rw [if_neg h]
  simp only [Option.bind_some]
  rw [if_neg (by decide), if_neg (fun e => ?_)]
  ·rfl
  ·have := congrArg List.length e
   rw [List.length_take, size_of, size_of] at this
   omega
theorem line_eq (s : ByteArray) (e : Int) (p : ByteArray) (hs : s.size < 4294967281) : commit_reader_line.f s e p = some (mk (lineF s.data.toList p.data.toList).1, mk (lineF s.data.toList p.data.toList).2.1, if (lineF s.data.toList p.data.toList).2.2 = true then e else 2) := by
 unfold commit_reader_line.f
 rw [Cut_eq s ⟨#[10]⟩ hs]
 simp only [Option.bind_some]
 rw [CutPrefix_eq, mk_data]
 simp only [Option.bind_some]
 rw [fail_two]
 simp only [Option.bind_some]
 generalize hl : lineF s.data.toList p.data.toList = L
 unfold lineF at hl
 rw [size_of] at hl
 show (if (Lib.cut s.data.toList [10]).2.2 = true then (if (if (Lib.cut s.data.toList [10]).1.take p.size = p.data.toList then (mk ((Lib.cut s.data.toList [10]).1.drop p.size), true) else (mk (Lib.cut s.data.toList [10]).1, false)).2 = true then some ((if (Lib.cut s.data.toList [10]).1.take p.size = p.data.toList then (mk ((Lib.cut s.data.toList [10]).1.drop p.size), true) else (mk (Lib.cut s.data.toList [10]).1, false)).1, mk (Lib.cut s.data.toList [10]).2.1, e) else some ((⟨#[]⟩ : ByteArray), s, 2)) else some ((⟨#[]⟩ : ByteArray), s, 2)) = _
 by_cases g1 : (Lib.cut s.data.toList [10]).2.2 = true
 ·by_cases g2 : (Lib.cut s.data.toList [10]).1.take p.size = p.data.toList
  ·rw [if_pos ⟨g1, g2⟩] at hl
   subst hl
   rw [if_pos g1, if_pos g2, if_pos rfl, if_pos rfl]
  ·rw [if_neg (fun h => g2 h.2)] at hl
   subst hl
   rw [if_pos g1, if_neg g2, if_neg Bool.false_ne_true, if_neg Bool.false_ne_true, mk_of]; rfl
 ·rw [if_neg (fun h => g1 h.1)] at hl
  subst hl
  rw [if_neg g1, if_neg Bool.false_ne_true, mk_of]; rfl
end Go.Proofs.YtbhfbbfjdklfgaaGreatDoor.Q
namespace Go.Proofs.YtbhfbbfjdklfgaaGreatDoor.Q
open Go.Proofs.Tryz Go.RowKit Go.Proofs.YtbhfbbfjdklfgaaGreatDoorW.PrintWords Go.Proofs.YtbhfbbfjdklfgaaGreatDoorW.PrintLast Go.Proofs.YtbhfbbfjdklfgaaGreatDoorW.PrintMore
theorem who_code (s : ByteArray) : (parseWhoB s).2.2.2.2 = 0 ∨ (parseWhoB s).2.2.2.2 = 1 ∨ (parseWhoB s).2.2.2.2 = 2 := by
 unfold parseWhoB finW
 repeat' split
 all_goals simp
theorem id_ev (s : ByteArray) (e : Int) (p : ByteArray) (hs : s.size < 4294967281) : Ev (fun k => commit_reader_id.f k s e p) (mk (lineF s.data.toList p.data.toList).1, mk (lineF s.data.toList p.data.toList).2.1, if (lineF s.data.toList p.data.toList).2.2 = true ∧ idOk (mk (lineF s.data.toList p.data.toList).1) = true then e else 2) := by
 unfold commit_reader_id.f
 rw [line_eq s e p hs]
 simp only [Option.bind_some]
 generalize lineF s.data.toList p.data.toList = L
 refine Ev.bind (ident_Is_ev _) (ev_ite (fun g => ev_eq (Ev.now _) ?_) (fun g => ?_))
 ·by_cases h : L.2.2 = true
  ·rw [if_pos h, if_pos ⟨h, g⟩]
  ·rw [if_neg h, if_neg (fun q => h q.1)]
 ·rw [fail_two]
  simp only [Option.bind_some]
  rw [if_neg (fun q => g q.2)]
  exact Ev.now _
def errW2 (e c : Int) : Int := if c = 0 then e else if e = 0 then c else if c = 2 then 2 else e
theorem who_ev (s : ByteArray) (e : Int) (p : ByteArray) (hs : s.size ≤ 4294967000) : Ev (fun k => commit_reader_who.f k s e p)
  ((parseWhoB (mk (lineF s.data.toList p.data.toList).1)).1, (parseWhoB (mk (lineF s.data.toList p.data.toList).1)).2.1, (parseWhoB (mk (lineF s.data.toList p.data.toList).1)).2.2.1, (parseWhoB (mk (lineF s.data.toList p.data.toList).1)).2.2.2.1, mk (lineF s.data.toList p.data.toList).2.1,
   errW2 (if (lineF s.data.toList p.data.toList).2.2 = true then e else 2) (parseWhoB (mk (lineF s.data.toList p.data.toList).1)).2.2.2.2) := by
 have hl := (lineF_len s.data.toList p.data.toList).1
 rw [size_of] at hl
 unfold commit_reader_who.f
 rw [line_eq s e p (by omega)]
 simp only [Option.bind_some]
 generalize lineF s.data.toList p.data.toList = L at *
 refine Ev.bind (ParseWho_ev _ (by rw [mk_size]; omega)) ?_
 generalize parseWhoB (mk L.1) = W
 generalize (if L.2.2 = true then e else 2) = f
 refine ev_ite (fun g => ev_eq (Ev.now _) ?_) (fun g => ?_)
 ·unfold errW2; rw [if_pos g]
 ·unfold errW2; rw [if_neg g]
  unfold commit_reader_fail.f
  by_cases h : f = 0
  ·rw [if_pos h, if_pos h]; exact Ev.now _
  ·rw [if_neg h, if_neg h]
   by_cases h2 : W.2.2.2.2 = 2
   ·rw [if_pos h2, if_pos h2, h2]; exact Ev.now _
   ·rw [if_neg h2, if_neg h2]; exact Ev.now _
def tL1 (s : ByteArray) := lineF s.data.toList [111, 98, 106, 101, 99, 116, 32]
def tL2 (s : ByteArray) := lineF (tL1 s).2.1 [116, 121, 112, 101, 32]
def tL3 (s : ByteArray) := lineF (tL2 s).2.1 [116, 97, 103, 32]
def tL4 (s : ByteArray) := lineF (tL3 s).2.1 [116, 97, 103, 103, 101, 114, 32]
def tL5 (s : ByteArray) := lineF (tL4 s).2.1 []
def tWho (s : ByteArray) := parseWhoB (mk (tL4 s).1)
def tKind (s : ByteArray) : Int := kindF (mk (tL2 s).1) 4 0
def tGood (s : ByteArray) : Prop := (tL1 s).2.2 = true ∧ idOk (mk (tL1 s).1) = true ∧ (tL2 s).2.2 = true ∧ tKind s ≠ 0 ∧ (tL3 s).2.2 = true ∧ (tL4 s).2.2 = true ∧ (tWho s).2.2.2.2 ≠ 2 ∧ (tL5 s).2.2 = true ∧ (tL5 s).1 = []
instance (s : ByteArray) : Decidable (tGood s) := by unfold tGood; infer_instance
abbrev TagR := ByteArray × Int × ByteArray × ByteArray × ByteArray × Int × Int × ByteArray × Int
def noTag (c : Int) : TagR := (⟨#[]⟩, 0, ⟨#[]⟩, ⟨#[]⟩, ⟨#[]⟩, 0, 0, ⟨#[]⟩, c)
def tCheck (s : ByteArray) : Int := checkTagB (mk (tL1 s).1) (tKind s) (mk (tL3 s).1) (tWho s).1 (tWho s).2.1 (tWho s).2.2.1 (tWho s).2.2.2.1 (mk (tL5 s).2.1)
def parseTagB (s : ByteArray) : TagR :=
 if tGood s then (if (tWho s).2.2.2.2 = 1 then noTag 1 else if tCheck s = 0 then (mk (tL1 s).1, tKind s, mk (tL3 s).1, (tWho s).1, (tWho s).2.1, (tWho s).2.2.1, (tWho s).2.2.2.1, mk (tL5 s).2.1, 0) else noTag (tCheck s)) else noTag 2
theorem who_len (s : ByteArray) : (parseWhoB s).1.size ≤ s.size ∧ (parseWhoB s).2.1.size ≤ s.size := by
 obtain ⟨l1, l2, l3⟩ := c_len s
 unfold parseWhoB finW
 repeat' split
 all_goals (try simp only [mk_size]); (try constructor) <;> (first | omega | exact Nat.zero_le _)
theorem t_len (s : ByteArray) : (tL1 s).1.length ≤ s.size ∧ (tL1 s).2.1.length ≤ s.size ∧ (tL2 s).1.length ≤ s.size ∧ (tL2 s).2.1.length ≤ s.size ∧ (tL3 s).1.length ≤ s.size ∧ (tL3 s).2.1.length ≤ s.size ∧ (tL4 s).1.length ≤ s.size ∧ (tL4 s).2.1.length ≤ s.size ∧ (tL5 s).1.length ≤ s.size ∧ (tL5 s).2.1.length ≤ s.size := by
 have h1 := lineF_len s.data.toList [111, 98, 106, 101, 99, 116, 32]
 have h2 := lineF_len (tL1 s).2.1 [116, 121, 112, 101, 32]
 have h3 := lineF_len (tL2 s).2.1 [116, 97, 103, 32]
 have h4 := lineF_len (tL3 s).2.1 [116, 97, 103, 103, 101, 114, 32]
 have h5 := lineF_len (tL4 s).2.1 []
 rw [size_of] at h1
 change (tL1 s).1.length ≤ _ ∧ (tL1 s).2.1.length ≤ _ at h1
 change (tL2 s).1.length ≤ _ ∧ (tL2 s).2.1.length ≤ _ at h2
 change (tL3 s).1.length ≤ _ ∧ (tL3 s).2.1.length ≤ _ at h3
 change (tL4 s).1.length ≤ _ ∧ (tL4 s).2.1.length ≤ _ at h4
 change (tL5 s).1.length ≤ _ ∧ (tL5 s).2.1.length ≤ _ at h5
 omega
theorem tag_j1 (s : ByteArray) (hs : s.size ≤ 4294967000) (e : Int) (x : ByteArray) (he : e = if tGood s then (tWho s).2.2.2.2 else 2) : Ev (fun k => commit_ParseTag.j1 k (mk (tL5 s).2.1) e (mk (tL1 s).1) (tKind s) (mk (tL3 s).1) (tWho s).1 (tWho s).2.1 (tWho s).2.2.1 (tWho s).2.2.2.1 x) (parseTagB s) := by
 obtain ⟨l1, l2, l3, l4, l5, l6, l7, l8, l9, l10⟩ := t_len s
 have hw := who_len (mk (tL4 s).1)
 rw [mk_size] at hw
 change (tWho s).1.size ≤ _ ∧ (tWho s).2.1.size ≤ _ at hw
 refine Ev.step (f := ?_) (fun k => by rw [commit_ParseTag.j1]) ?_
 unfold parseTagB
 by_cases hg : tGood s
 ·rw [if_pos hg] at he ⊢
  rcases who_code (mk (tL4 s).1) with h | h | h
  ·have h' : (tWho s).2.2.2.2 = 0 := h
   rw [h'] at he
   rw [h', if_neg (by decide)]
   refine ev_yes he (Ev.bind (CheckTag_ev _ _ _ _ _ _ _ _ (by rw [mk_size]; omega) (by omega) (by omega) (by rw [mk_size]; omega)) ?_)
   refine ev_ite (fun g => ?_) (fun g => ?_)
   ·rw [if_pos (show tCheck s = 0 from g)]; exact Ev.now _
   ·rw [if_neg (show ¬ tCheck s = 0 from g)]; exact Ev.now _
  ·have h' : (tWho s).2.2.2.2 = 1 := h
   rw [h'] at he
   rw [h', if_pos rfl]
   refine ev_no (by omega) ?_
   rw [he]; exact Ev.now _
  ·exact absurd h hg.2.2.2.2.2.2.1
 ·rw [if_neg hg] at he ⊢
  refine ev_no (by omega) ?_
  rw [he]; exact Ev.now _
theorem tag_j0 (s : ByteArray) (hs : s.size ≤ 4294967000) (e : Int) (x y z w : ByteArray) (a b : Int) (he : e = if (tL1 s).2.2 = true ∧ idOk (mk (tL1 s).1) = true ∧ (tL2 s).2.2 = true ∧ tKind s ≠ 0 then 0 else 2) : Ev (fun k => commit_ParseTag.j0 k (mk (tL2 s).2.1) e (mk (tL1 s).1) (tKind s) x y z a b w) (parseTagB s) := by
 obtain ⟨l1, l2, l3, l4, l5, l6, l7, l8, l9, l10⟩ := t_len s
 refine Ev.step (f := ?_) (fun k => by rw [commit_ParseTag.j0]) ?_
 rw [line_eq _ _ _ (by rw [mk_size]; omega)]
 simp only [Option.bind_some]
 rw [mk_data]
 change Ev (fun k => (commit_reader_who.f k (mk (tL3 s).2.1) (if (tL3 s).2.2 = true then e else 2) ⟨#[116, 97, 103, 103, 101, 114, 32]⟩).bind _) _
 refine Ev.bind (who_ev _ _ _ (by rw [mk_size]; omega)) ?_
 rw [mk_data]
 change Ev (fun k => (commit_reader_line.f (mk (tL4 s).2.1) (errW2 (if (tL4 s).2.2 = true then (if (tL3 s).2.2 = true then e else 2) else 2) (tWho s).2.2.2.2) ⟨#[]⟩).bind _) _
 rw [line_eq _ _ _ (by rw [mk_size]; omega)]
 simp only [Option.bind_some]
 rw [mk_data]
 change Ev (fun k => if (mk (tL5 s).1).toList = ([] : List UInt8) then commit_ParseTag.j1 k (mk (tL5 s).2.1) (if (tL5 s).2.2 = true then errW2 (if (tL4 s).2.2 = true then (if (tL3 s).2.2 = true then e else 2) else 2) (tWho s).2.2.2.2 else 2) (mk (tL1 s).1) (tKind s) (mk (tL3 s).1) (tWho s).1 (tWho s).2.1 (tWho s).2.2.1 (tWho s).2.2.2.1 w else _) _
 have hwc := who_code (mk (tL4 s).1)
 change (tWho s).2.2.2.2 = 0 ∨ (tWho s).2.2.2.2 = 1 ∨ (tWho s).2.2.2.2 = 2 at hwc
 refine ev_ite (fun g => ?_) (fun g => ?_)
 ·rw [mk_toList] at g
  refine tag_j1 s hs _ _ ?_
  by_cases hg : tGood s
  ·rw [if_pos hg]
   obtain ⟨g1, g2, g3, g4, g5, g6, g7, g8, g9⟩ := hg
   rw [if_pos g8, if_pos g6, if_pos g5, he, if_pos ⟨g1, g2, g3, g4⟩]
   unfold errW2
   rcases hwc with h | h | h
   ·rw [h]; rfl
   ·rw [h]; rfl
   ·exact absurd h g7
  ·rw [if_neg hg]
   by_cases g8 : (tL5 s).2.2 = true
   ·rw [if_pos g8]
    have : (if (tL4 s).2.2 = true then (if (tL3 s).2.2 = true then e else 2) else 2) = 0 → (tWho s).2.2.2.2 = 2 := fun h0 => by
     rcases hwc with h | h | h
     ·exfalso
      refine hg ?_
      by_cases a4 : (tL4 s).2.2 = true
      ·rw [if_pos a4] at h0
       by_cases a3 : (tL3 s).2.2 = true
       ·rw [if_pos a3, he] at h0
        by_cases a1 : (tL1 s).2.2 = true ∧ idOk (mk (tL1 s).1) = true ∧ (tL2 s).2.2 = true ∧ tKind s ≠ 0
        ·exact ⟨a1.1, a1.2.1, a1.2.2.1, a1.2.2.2, a3, a4, by rw [h]; decide, g8, g⟩
        ·rw [if_neg a1] at h0; cases h0
       ·rw [if_neg a3] at h0; cases h0
      ·rw [if_neg a4] at h0; cases h0
     ·exfalso
      refine hg ?_
      by_cases a4 : (tL4 s).2.2 = true
      ·rw [if_pos a4] at h0
       by_cases a3 : (tL3 s).2.2 = true
       ·rw [if_pos a3, he] at h0
        by_cases a1 : (tL1 s).2.2 = true ∧ idOk (mk (tL1 s).1) = true ∧ (tL2 s).2.2 = true ∧ tKind s ≠ 0
        ·exact ⟨a1.1, a1.2.1, a1.2.2.1, a1.2.2.2, a3, a4, by rw [h]; decide, g8, g⟩
        ·rw [if_neg a1] at h0; cases h0
       ·rw [if_neg a3] at h0; cases h0
      ·rw [if_neg a4] at h0; cases h0
     ·exact h
    have two : (if (tL4 s).2.2 = true then (if (tL3 s).2.2 = true then e else 2) else 2) = 0 ∨ (if (tL4 s).2.2 = true then (if (tL3 s).2.2 = true then e else 2) else 2) = 2 := by
     rw [he]
     repeat' split
     all_goals simp
    generalize (if (tL4 s).2.2 = true then (if (tL3 s).2.2 = true then e else 2) else 2) = f at *
    unfold errW2
    rcases two with h | h
    ·rw [this h, h]; rfl
    ·subst h
     rcases hwc with h | h | h <;> rw [h] <;> rfl
   ·rw [if_neg g8]
 ·rw [fail_two]
  simp only [Option.bind_some]
  refine tag_j1 s hs 2 _ ?_
  rw [if_neg (fun hg => g (by rw [mk_toList]; exact hg.2.2.2.2.2.2.2.2))]
theorem ParseTag_ev (s : ByteArray) (hs : s.size ≤ 4294967000) : Ev (fun k => commit_ParseTag.f k s) (parseTagB s) := by
 obtain ⟨l1, l2, l3, l4, l5, l6, l7, l8, l9, l10⟩ := t_len s
 refine Ev.bind (id_ev s 0 _ (by omega)) ?_
 change Ev (fun k => (commit_reader_line.f (mk (tL1 s).2.1) (if (tL1 s).2.2 = true ∧ idOk (mk (tL1 s).1) = true then 0 else 2) ⟨#[116, 121, 112, 101, 32]⟩).bind _) _
 rw [line_eq _ _ _ (by rw [mk_size]; omega)]
 simp only [Option.bind_some]
 rw [mk_data]
 change Ev (fun k => (object_Kind.f (mk (tL2 s).1)).bind _) _
 unfold object_Kind.f
 simp only [Option.bind_some]
 refine ev_ite (fun g => ?_) (fun g => ?_)
 ·rw [fail_two]
  simp only [Option.bind_some]
  exact tag_j0 s hs 2 _ _ _ _ _ _ (by rw [if_neg (fun h => h.2.2.2 g)])
 ·refine tag_j0 s hs _ _ _ _ _ _ _ ?_
  change (if (tL2 s).2.2 = true then (if (tL1 s).2.2 = true ∧ idOk (mk (tL1 s).1) = true then (0 : Int) else 2) else 2) = if (tL1 s).2.2 = true ∧ idOk (mk (tL1 s).1) = true ∧ (tL2 s).2.2 = true ∧ tKind s ≠ 0 then 0 else 2
  have g' : tKind s ≠ 0 := g
  by_cases a1 : (tL1 s).2.2 = true <;> by_cases a2 : idOk (mk (tL1 s).1) = true <;> by_cases b : (tL2 s).2.2 = true <;> simp [a1, a2, b, g']
attribute [local go_sem] max2_int min2_int max_two min_two max_three min_three max_four min_four
def graftageref16_ParseTag.T6 : Bool × List (List Nat × List Nat) := (true, [([], []), ([], []), ([1], [1]), ([], []), ([], []), ([0, 2, 3, 4], [0, 2, 3, 4]), ([], []), ([6, 5, 2, 0, 1, 2, 3, 4, 5, 6], [5, 6])])
def graftageref16_ParseTag.B6 : List Nat := [0, 0, 2, 0, 0, 31, 0, 127]
theorem graftageref16_ParseTag.tab6 : rtab .any (opsOf Tryz.f24 6) = graftageref16_ParseTag.T6 := by kernel_rfl
theorem graftageref16_ParseTag.bits6 : waitsOk graftageref16_ParseTag.T6.2 graftageref16_ParseTag.B6 = true := by kernel_rfl
theorem lineF_cons (r : List UInt8) : lineF (10 :: r) [] = ([], r, true) := by
 unfold lineF
 have : Lib.cut (10 :: r) [10] = ([], r, true) := cut_one 10 [] r (by simp)
 rw [this]; simp
def graftageref16_TagBody.T4 : Bool × List (List Nat × List Nat) := (true, [([], []), ([0], [0]), ([1], [1]), ([2], [2]), ([], []), ([4], [4]), ([5], [5]), ([3, 6], [3, 6]), ([7], [7]), ([], []), ([9], [9]), ([8, 10], [8, 10]), ([11], [11]), ([], []), ([13], [13]), ([14, 6], [14]), ([12, 15], [12, 15]), ([16], [16]), ([], []), ([18], [18]), ([17, 19], [17, 19]), ([20, 15, 0, 1, 2, 3, 4, 5, 6, 7, 8, 9, 10, 11, 12, 13, 14, 15, 16, 17, 18, 19, 20], [20]), ([21, 0, 1, 2, 3, 4, 5, 6, 7, 8, 9, 10, 11, 12, 13, 14, 15, 16, 17, 18, 19, 20, 21], [])])
def graftageref16_TagBody.B4 : List Nat := [0, 1, 3, 7, 0, 16, 48, 127, 255, 0, 512, 2047, 4095, 0, 8192, 24688, 65535, 131071, 0, 262144, 1048575, 2097151, 4194303]
theorem graftageref16_TagBody.tab4 : rtab .any (opsOf Tryz.f26 4) = graftageref16_TagBody.T4 := by kernel_rfl
theorem graftageref16_TagBody.bits4 : waitsOk graftageref16_TagBody.T4.2 graftageref16_TagBody.B4 = true := by kernel_rfl
theorem idOk_no10 {o : ByteArray} (h : idOk o = true) : (10 : UInt8) ∉ o.data.toList := by
 unfold idOk at h
 rw [Bool.and_eq_true] at h
 intro hm
 obtain ⟨j, hj, e⟩ := List.getElem_of_mem hm
 have hj' : j < o.size := by rw [← size_of]; exact hj
 have h1 := hexF_at o o.size 0 h.2 j (Nat.zero_le _) (by omega)
 rw [bt_get o j hj', e] at h1
 exact absurd h1 (by decide)
theorem tagged_no10 {g : ByteArray} (h : taggedB g = true) : (10 : UInt8) ∉ g.data.toList := by
 unfold taggedB at h
 rw [Bool.and_eq_true] at h
 intro hm
 have := List.all_eq_true.1 h.1 _ hm
 exact absurd this (by decide)
theorem named_no10 {s : ByteArray} (h : namedB s = true) : (10 : UInt8) ∉ s.data.toList := by
 unfold namedB at h
 rw [Bool.and_eq_true] at h
 intro hm
 have := List.all_eq_true.1 h.2 _ hm
 exact absurd this (by decide)
theorem dec_no10 (u : Nat) : (10 : UInt8) ∉ Lib.decDigits u := by
 intro hm
 have := List.all_eq_true.1 (dec_all u) _ hm
 exact absurd this (by decide)
theorem dg_no10 {d : Nat} (h : d < 10) : (10 : UInt8) ≠ dg d := by
 intro e
 have := congrArg UInt8.toNat e
 rw [dg_val h] at this
 have e10 : (10 : UInt8).toNat = 10 := rfl
 omega
theorem zoneL_no10 (z : Int) : (10 : UInt8) ∉ zoneL z := by
 rw [zoneL_eq]
 simp only [List.mem_cons, List.not_mem_nil, or_false, not_or]
 refine ⟨?_, dg_no10 (by omega), dg_no10 (by omega), dg_no10 (by omega), dg_no10 (by omega)⟩
 unfold sgn
 split <;> decide
theorem who_no10 {n m : ByteArray} {t z : Int} (hp : personB n m t z = true) : (10 : UInt8) ∉ whoL n.data.toList m.data.toList t z := by
 unfold personB at hp
 simp only [Bool.and_eq_true, decide_eq_true_eq] at hp
 obtain ⟨hn, hm, h0, h1, h2, h3⟩ := hp
 unfold whoL
 rw [tailL_eq, itoa_dig t h0]
 simp only [List.mem_append, List.mem_cons, not_or]
 exact ⟨named_no10 hn, by decide, by decide, named_no10 hm, by decide, by decide, dec_no10 _, by decide, zoneL_no10 z⟩
theorem word_no10 (a : Int) : (10 : UInt8) ∉ (wordB a).data.toList := by
 unfold wordB
 repeat' split
 all_goals decide
theorem lineF_of (p a r : List UInt8) (hp : (10 : UInt8) ∉ p) (ha : (10 : UInt8) ∉ a) : lineF (p ++ (a ++ 10 :: r)) p = (a, r, true) := by
 unfold lineF
 have : Lib.cut (p ++ (a ++ 10 :: r)) [10] = (p ++ a, r, true) := by
  rw [← List.append_assoc]
  exact cut_one 10 (p ++ a) r (by rw [List.mem_append]; exact fun h => h.elim hp ha)
 rw [this]
 show (if true = true ∧ (p ++ a).take p.length = p then ((p ++ a).drop p.length, r, true) else _) = _
 rw [take_pre p a p.length rfl, drop_pre p a p.length rfl, if_pos ⟨rfl, rfl⟩]
theorem lineF_text {u p : List UInt8} (h : (lineF u p).2.2 = true) : u = p ++ ((lineF u p).1 ++ 10 :: (lineF u p).2.1) := by
 unfold lineF at h ⊢
 split at h
 ·rename_i g
  rw [if_pos g]
  have e := (cut_text (l := u) (s := [10]) (a := (Lib.cut u [10]).1) (b := (Lib.cut u [10]).2.1) (by decide) (by rw [← g.1])).1
  show u = p ++ ((Lib.cut u [10]).1.drop p.length ++ 10 :: (Lib.cut u [10]).2.1)
  have q := List.take_append_drop p.length (Lib.cut u [10]).1
  rw [g.2] at q
  rw [← List.append_assoc, q]
  simpa using e
 ·cases h
def tagL (o : List UInt8) (a : Int) (g : List UInt8) (w x : List UInt8) : List UInt8 :=
 [111, 98, 106, 101, 99, 116, 32] ++ (o ++ 10 :: ([116, 121, 112, 101, 32] ++ ((wordB a).data.toList ++ 10 :: ([116, 97, 103, 32] ++ (g ++ 10 :: ([116, 97, 103, 103, 101, 114, 32] ++ (w ++ 10 :: (10 :: x))))))))
def tagB (o : ByteArray) (a : Int) (g n m : ByteArray) (t z : Int) (x : ByteArray) : ByteArray := mk (tagL o.data.toList a g.data.toList (whoL n.data.toList m.data.toList t z) x.data.toList)
def tagBodyB (o : ByteArray) (a : Int) (g n m : ByteArray) (t z : Int) (x : ByteArray) : ByteArray × Int := if checkTagB o a g n m t z x = 0 then (tagB o a g n m t z x, 0) else (⟨#[]⟩, checkTagB o a g n m t z x)
theorem check_zero {o : ByteArray} {a : Int} {g n m : ByteArray} {t z : Int} {x : ByteArray} (h : checkTagB o a g n m t z x = 0) : tagOk o a g n m t z x ∧ x.size ≤ 4096 := by
 unfold checkTagB at h
 split at h
 ·rename_i k
  refine ⟨k, ?_⟩
  split at h
  ·cases h
  ·omega
 ·cases h
theorem named_len {s : ByteArray} (h : namedB s = true) : s.size ≤ 64 := by
 unfold namedB edge at h
 simp only [Bool.and_eq_true, Bool.not_eq_true', Bool.or_eq_false_iff, decide_eq_false_iff_not] at h
 omega
theorem person_facts {n m : ByteArray} {t z : Int} (hp : personB n m t z = true) : n.size ≤ 64 ∧ m.size ≤ 64 ∧ 0 ≤ t ∧ t ≤ 1099511627776 ∧ -840 ≤ z ∧ z ≤ 840 := by
 unfold personB at hp
 simp only [Bool.and_eq_true, decide_eq_true_eq] at hp
 exact ⟨named_len hp.1, named_len hp.2.1, hp.2.2.1, hp.2.2.2.1, hp.2.2.2.2.1, hp.2.2.2.2.2⟩
theorem whoL_len {n m : ByteArray} {t z : Int} (hp : personB n m t z = true) : (whoL n.data.toList m.data.toList t z).length ≤ 200 := by
 obtain ⟨l1, l2, h0, h1, _, _⟩ := person_facts hp
 unfold whoL
 rw [tailL_eq]
 simp only [List.length_append, List.length_cons, size_of, zoneL_eq, List.length_nil]
 have := itoa_len t (by omega) (by omega)
 omega
theorem word_size (a : Int) : (wordB a).size ≤ 6 := by
 unfold wordB
 repeat' split
 all_goals decide
theorem id_size {o : ByteArray} (h : idOk o = true) : o.size = 40 := by
 unfold idOk at h
 rw [Bool.and_eq_true, decide_eq_true_eq] at h
 exact h.1
theorem tag_text (o w g h x : ByteArray) : (((((((((⟨#[111, 98, 106, 101, 99, 116, 32]⟩ : ByteArray) ++ o) ++ (⟨#[10, 116, 121, 112, 101, 32]⟩ : ByteArray)) ++ w) ++ (⟨#[10, 116, 97, 103, 32]⟩ : ByteArray)) ++ g) ++ (⟨#[10, 116, 97, 103, 103, 101, 114, 32]⟩ : ByteArray)) ++ h) ++ (⟨#[10, 10]⟩ : ByteArray)) ++ x
  = mk ([111, 98, 106, 101, 99, 116, 32] ++ (o.data.toList ++ 10 :: ([116, 121, 112, 101, 32] ++ (w.data.toList ++ 10 :: ([116, 97, 103, 32] ++ (g.data.toList ++ 10 :: ([116, 97, 103, 103, 101, 114, 32] ++ (h.data.toList ++ 10 :: (10 :: x.data.toList))))))))) := by
 refine ba_ext ?_
 simp only [append_data, mk_data]
 simp only [List.append_assoc, List.cons_append, List.nil_append]
theorem tag_sizes {o : ByteArray} {a : Int} {g n m : ByteArray} {t z : Int} {x : ByteArray} (h : checkTagB o a g n m t z x = 0) : o.size = 40 ∧ (wordB a).size ≤ 6 ∧ g.size ≤ 64 ∧ (whoB n m t z).size ≤ 200 ∧ x.size ≤ 4096 := by
 obtain ⟨⟨h1, h2, h3, h4, h5⟩, h6⟩ := check_zero h
 refine ⟨id_size h1, word_size a, ?_, ?_, h6⟩
 ·unfold taggedB at h3
  simp only [Bool.and_eq_true, decide_eq_true_eq] at h3
  exact h3.2.2
 ·unfold whoB
  rw [mk_size]
  exact whoL_len h4
theorem TagBody_ev (o : ByteArray) (a : Int) (g n m : ByteArray) (t z : Int) (x : ByteArray) (hg : g.size ≤ 140737488351232) (hn : n.size ≤ 140737488351232) (hm : m.size ≤ 140737488351232) (hx : x.size < 4294967281) : Ev (fun k => commit_TagBody.f k o a g n m t z x) (tagBodyB o a g n m t z x) := by
 refine Ev.bind (CheckTag_ev o a g n m t z x hg hn hm hx) ?_
 unfold tagBodyB
 refine ev_ite (fun h => ?_) (fun h => ?_)
 ·obtain ⟨z1, z2, z3, z4, z5⟩ := tag_sizes h
  obtain ⟨l1, l2, h0, h1, h2, h3⟩ := person_facts (check_zero h).1.2.2.2.1
  rw [if_pos h, Word_eq, Who_eq n m t z (by omega) (by omega) (by omega) (by omega) (by omega) (by omega)]
  simp only [Option.bind_some, ByteArray.size_append]
  generalize hw : wordB a = w at *
  generalize hh : whoB n m t z = v at *
  have s1 : (⟨#[111, 98, 106, 101, 99, 116, 32]⟩ : ByteArray).size = 7 := rfl
  have s2 : (⟨#[10, 116, 121, 112, 101, 32]⟩ : ByteArray).size = 6 := rfl
  have s3 : (⟨#[10, 116, 97, 103, 32]⟩ : ByteArray).size = 5 := rfl
  have s4 : (⟨#[10, 116, 97, 103, 103, 101, 114, 32]⟩ : ByteArray).size = 8 := rfl
  have s5 : (⟨#[10, 10]⟩ : ByteArray).size = 2 := rfl
  rw [s1, s2, s3, s4, s5]
  refine ev_yes (by omega) (ev_yes (by omega) (ev_yes (by omega) (ev_yes (by omega) (ev_yes (by omega) (ev_yes (by omega) (ev_yes (by omega) (ev_yes (by omega) (ev_yes (by omega) ?_))))))))
  refine ev_eq (Ev.now _) ?_
  rw [tag_text]
  unfold tagB tagL
  rw [hw, ← hh]
  unfold whoB
  rw [mk_data]
 ·rw [if_neg h]; exact Ev.now _
theorem kind_word (a : Int) (h : 1 ≤ a ∧ a ≤ 4) : kindF (wordB a) 4 0 = a := by
 have : a = 1 ∨ a = 2 ∨ a = 3 ∨ a = 4 := by omega
 rcases this with rfl | rfl | rfl | rfl <;> decide +kernel
theorem tag_back (o : ByteArray) (a : Int) (g n m : ByteArray) (t z : Int) (x : ByteArray) (h : checkTagB o a g n m t z x = 0) : parseTagB (tagB o a g n m t z x) = (o, a, g, n, m, t, z, x, 0) := by
 obtain ⟨⟨h1, h2, h3, h4, h5⟩, h6⟩ := check_zero h
 have e1 : tL1 (tagB o a g n m t z x) = (o.data.toList, _, true) := (congrArg (fun q => lineF q [111, 98, 106, 101, 99, 116, 32]) (mk_data (tagL o.data.toList a g.data.toList (whoL n.data.toList m.data.toList t z) x.data.toList))).trans (lineF_of [111, 98, 106, 101, 99, 116, 32] o.data.toList _ (by decide) (idOk_no10 h1))
 have e2 : tL2 (tagB o a g n m t z x) = ((wordB a).data.toList, _, true) := (congrArg (fun q : List UInt8 × List UInt8 × Bool => lineF q.2.1 [116, 121, 112, 101, 32]) e1).trans (lineF_of [116, 121, 112, 101, 32] (wordB a).data.toList _ (by decide) (word_no10 a))
 have e3 : tL3 (tagB o a g n m t z x) = (g.data.toList, _, true) := (congrArg (fun q : List UInt8 × List UInt8 × Bool => lineF q.2.1 [116, 97, 103, 32]) e2).trans (lineF_of [116, 97, 103, 32] g.data.toList _ (by decide) (tagged_no10 h3))
 have e4 : tL4 (tagB o a g n m t z x) = (whoL n.data.toList m.data.toList t z, 10 :: x.data.toList, true) := (congrArg (fun q : List UInt8 × List UInt8 × Bool => lineF q.2.1 [116, 97, 103, 103, 101, 114, 32]) e3).trans (lineF_of [116, 97, 103, 103, 101, 114, 32] (whoL n.data.toList m.data.toList t z) (10 :: x.data.toList) (by decide) (who_no10 h4))
 have e5 : tL5 (tagB o a g n m t z x) = ([], x.data.toList, true) := by unfold tL5; rw [e4]; exact lineF_cons _
 have eW : tWho (tagB o a g n m t z x) = (n, m, t, z, 0) := by unfold tWho; rw [e4]; exact who_back n m t z h4
 have eK : tKind (tagB o a g n m t z x) = a := by unfold tKind; rw [e2]; show kindF (mk (wordB a).data.toList) 4 0 = a; rw [mk_of]; exact kind_word a h2
 have eC : tCheck (tagB o a g n m t z x) = 0 := by
  unfold tCheck
  rw [e1, e3, e5, eW, eK]
  show checkTagB (mk o.data.toList) a (mk g.data.toList) n m t z (mk x.data.toList) = 0
  rw [mk_of, mk_of, mk_of]; exact h
 have hg : tGood (tagB o a g n m t z x) := by
  unfold tGood
  rw [e1, e2, e3, e4, e5, eW, eK]
  refine ⟨rfl, ?_, rfl, by omega, rfl, rfl, show (0 : Int) ≠ 2 by decide, rfl, rfl⟩
  show idOk (mk o.data.toList) = true
  rw [mk_of]; exact h1
 unfold parseTagB
 rw [if_pos hg, eW]
 show (if (0 : Int) = 1 then _ else if tCheck _ = 0 then _ else _) = _
 rw [if_neg (by decide), if_pos eC, e1, e3, e5, eK]
 show (mk o.data.toList, a, mk g.data.toList, n, m, t, z, mk x.data.toList, (0 : Int)) = _
 rw [mk_of, mk_of, mk_of]
end Go.Proofs.YtbhfbbfjdklfgaaGreatDoor.Q
namespace Go.Proofs.YtbhfbbfjdklfgaaGreatDoor.Q
open Go.Proofs.Tryz Go.RowKit Go.Proofs.YtbhfbbfjdklfgaaGreatDoorW.PrintWords Go.Proofs.YtbhfbbfjdklfgaaGreatDoorW.PrintLast Go.Proofs.YtbhfbbfjdklfgaaGreatDoorW.PrintMore
theorem idxF_ev (l : List ByteArray) (hl : l.length ≤ 140737488351232) (g : ByteArray → Option Bool) (p : ByteArray → Bool) (hg : ∀ z, g z = some (p z)) : ∀ (d i : Nat), i + d = l.length → ∃ r : Int, Ev (fun k => slices_IndexFunc_string_string.l0 k l g (l.length : Int) i) r ∧ decide (r ≥ 0) = (l.drop i).any p
 | 0, i, h => ⟨-1, Ev.step (f := ?_) (fun k => by rw [slices_IndexFunc_string_string.l0, if_neg (by omega)]) (Ev.now _), by rw [List.drop_of_length_le (by omega)]; rfl⟩
 | d + 1, i, h => by
  have hi : i < l.length := by omega
  rw [List.drop_eq_getElem_cons hi, List.any_cons]
  cases hp : p l[i] with
  | true => exact ⟨(i : Int), Ev.step (f := ?_) (fun k => by rw [slices_IndexFunc_string_string.l0, if_pos (by omega), if_pos (by omega), if_pos (by omega), rd_ext l i hi, hg, Option.bind_some]) (ev_yes hp (Ev.now _)), by simp⟩
  | false =>
   obtain ⟨r, h1, h2⟩ := idxF_ev l hl g p hg d (i + 1) (by omega)
   exact ⟨r, Ev.step (f := ?_) (fun k => by rw [slices_IndexFunc_string_string.l0, if_pos (by omega), if_pos (by omega), if_pos (by omega), rd_ext l i hi, hg, Option.bind_some, w_succ i (by omega)]) (ev_no (show ¬ p l[i] = true by rw [hp]; decide) h1), by simpa using h2⟩
theorem containsF_ev (l : List ByteArray) (hl : l.length ≤ 140737488351232) (g : ByteArray → Option Bool) (p : ByteArray → Bool) (hg : ∀ z, g z = some (p z)) : Ev (fun k => slices_ContainsFunc_string_string.f k l g) (l.any p) := by
 obtain ⟨r, h1, h2⟩ := idxF_ev l hl g p hg l.length 0 (by omega)
 refine Ev.bind h1 (ev_eq (Ev.now _) ?_)
 rw [h2, List.drop_zero]
def dupL : List (List UInt8) → List ByteArray → Bool
 | _, [] => false
 | seen, p :: r => decide (p.data.toList ∈ seen) || dupL (seen ++ [p.data.toList]) r
theorem chk_l0 (l : List ByteArray) (hl : l.length ≤ 140737488351232) (hs : ∀ p ∈ l, p.size ≤ 140737488351232) : ∀ (u : List ByteArray) (i : Nat) (seen : List (List UInt8)) (m : MSB), l.drop i = u → i ≤ l.length → m.n ≤ i → (∀ y, m.f y = if y ∈ seen then some true else none) → Ev (fun k => commit_Check.l0 k l (l.length : Int) i m) (if dupL seen u = true then 6 else 0)
 | [], i, seen, m, h, hi, hm, hf => by
  have : l.length ≤ i := by have := congrArg List.length h; rw [List.length_drop] at this; simp at this; omega
  exact Ev.step (f := ?_) (fun k => by rw [commit_Check.l0, if_neg (by omega)]) (Ev.now _)
 | p :: r, i, seen, m, h, hi, hm, hf => by
  have hlt : i < l.length := by have := congrArg List.length h; rw [List.length_drop, List.length_cons] at this; omega
  rw [List.drop_eq_getElem_cons hlt] at h
  obtain ⟨h1, h2⟩ := List.cons.inj h
  have hsz := hs l[i] (List.getElem_mem hlt)
  refine Ev.step (f := ?_) (fun k => by rw [commit_Check.l0, if_pos (by omega), if_pos (by omega), if_pos (by omega), rd_ext l i hlt, if_pos (by omega), w_succ i (by omega)]) ?_
  rw [h1] at hsz ⊢
  have hget : MSB.get m p = decide (p.data.toList ∈ seen) := by
   unfold MSB.get
   rw [hf]
   by_cases q : p.data.toList ∈ seen
   ·rw [if_pos q, decide_eq_true q]; rfl
   ·rw [if_neg q, decide_eq_false q]; rfl
  rw [dupL]
  refine ev_ite (fun g => ?_) (fun g => ?_)
  ·rw [hget] at g
   rw [g, Bool.true_or, if_pos rfl]; exact Ev.now _
  ·rw [hget, Bool.not_eq_true] at g
   rw [g, Bool.false_or]
   refine ev_yes (by omega) (chk_l0 l hl hs r (i + 1) (seen ++ [p.data.toList]) (MSB.put m p true) h2 (by omega) (show m.n + 1 ≤ i + 1 by omega) (fun y => ?_))
   show (if y = p.data.toList then some true else m.f y) = _
   rw [hf]
   by_cases q : y = p.data.toList
   ·rw [if_pos q, if_pos (by rw [List.mem_append]; exact Or.inr (by simp [q]))]
   ·rw [if_neg q]
    by_cases q2 : y ∈ seen
    ·rw [if_pos q2, if_pos (by rw [List.mem_append]; exact Or.inl q2)]
    ·rw [if_neg q2, if_neg (by rw [List.mem_append]; simp [q, q2])]
section
variable (t : ByteArray) (l : List ByteArray) (an am : ByteArray) (aq az : Int) (cn cm : ByteArray) (cq cz : Int) (x : ByteArray)
def comOk : Prop := idOk t = true ∧ (∀ p ∈ l, idOk p = true) ∧ personB an am aq az = true ∧ personB cn cm cq cz = true ∧ zeroB x = false
instance : Decidable (comOk t l an am aq az cn cm cq cz x) := by unfold comOk; infer_instance
def checkB : Int := if comOk t l an am aq az cn cm cq cz x then (if x.size > 4096 ∨ l.length > 8 then 4 else if dupL [] l = true then 6 else 0) else 1
theorem any_not_id : l.any (fun p => !idOk p) = true ↔ ¬ ∀ p ∈ l, idOk p = true := by
 rw [List.any_eq_true]
 constructor
 ·rintro ⟨p, hp, h⟩ q
  rw [q p hp] at h; cases h
 ·intro h
  refine Classical.byContradiction fun g => h (fun p hp => ?_)
  cases e : idOk p with
  | true => rfl
  | false => exact absurd ⟨p, hp, by rw [e]; rfl⟩ g
theorem Check_ev (hl : l.length ≤ 140737488351232) (hn : an.size ≤ 140737488351232) (hm : am.size ≤ 140737488351232) (hcn : cn.size ≤ 140737488351232) (hcm : cm.size ≤ 140737488351232) (hx : x.size < 4294967281) : Ev (fun k => commit_Check.f k t l an am aq az cn cm cq cz x) (checkB t l an am aq az cn cm cq cz x) := by
 have bad : ¬ comOk t l an am aq az cn cm cq cz x → Ev (fun k => commit_Check.j0 k true t l an am aq az cn cm cq cz x) (checkB t l an am aq az cn cm cq cz x) := fun h => by
  unfold checkB; rw [if_neg h]
  exact Ev.step (f := ?_) (fun k => by rw [commit_Check.j0, if_pos rfl]) (Ev.now _)
 refine Ev.bind (Ev.now (!idOk t)) (ev_ite (fun g1 => bad (fun e => by rw [e.1] at g1; cases g1)) (fun g1 => ?_))
 refine Ev.bind (containsF_ev l hl _ (fun p => !idOk p) (fun z => rfl)) (ev_ite (fun g2 => bad (fun e => (any_not_id l).1 g2 e.2.1)) (fun g2 => ?_))
 refine Ev.bind (somebody_ev an am aq az hn hm) (ev_ite (fun g3 => ?_) (fun g3 => bad (fun e => g3 e.2.2.1)))
 refine Ev.bind (somebody_ev cn cm cq cz hcn hcm) (ev_ite (fun g4 => ?_) (fun g4 => bad (fun e => g4 e.2.2.2.1)))
 rw [contains_zero x hx]
 simp only [Option.bind_some]
 cases g5 : zeroB x with
 | true => exact bad (fun e => by have := e.2.2.2.2; rw [g5] at this; cases this)
 | false =>
  have hid : ∀ p ∈ l, idOk p = true := Classical.byContradiction fun h => g2 ((any_not_id l).2 h)
  have ok : comOk t l an am aq az cn cm cq cz x := ⟨by simpa using g1, hid, g3, g4, g5⟩
  unfold checkB
  rw [if_pos ok]
  refine Ev.step (f := ?_) (fun k => by rw [commit_Check.j0, if_neg (by decide)]) (ev_ite (fun h => ?_) (fun h => ?_))
  ·rw [if_pos (Or.inl (by omega))]
   exact Ev.step (f := ?_) (fun k => by rw [commit_Check.j1, if_pos rfl]) (Ev.now _)
  ·by_cases h2 : (l.length : Int) > 8
   ·rw [if_pos (Or.inr (by omega)), decide_eq_true h2]
    exact Ev.step (f := ?_) (fun k => by rw [commit_Check.j1, if_pos rfl]) (Ev.now _)
   ·rw [if_neg (fun z => z.elim (fun q => h (by omega)) (fun q => h2 (by omega))), decide_eq_false h2]
    refine Ev.step (f := ?_) (fun k => by rw [commit_Check.j1, if_neg (by decide)]) ?_
    exact chk_l0 l hl (fun p hp => by have := id_size (hid p hp); omega) l 0 [] MSB.nil (List.drop_zero) (Nat.zero_le _) (Nat.zero_le _) (fun y => by simp [MSB.nil])
end
end Go.Proofs.YtbhfbbfjdklfgaaGreatDoor.Q
namespace Go.Proofs.YtbhfbbfjdklfgaaGreatDoor.Q
open Go.Proofs.Tryz Go.RowKit Go.Proofs.YtbhfbbfjdklfgaaGreatDoorW.PrintWords Go.Proofs.YtbhfbbfjdklfgaaGreatDoorW.PrintLast Go.Proofs.YtbhfbbfjdklfgaaGreatDoorW.PrintMore
attribute [local go_sem] max2_int min2_int max_two min_two max_three min_three max_four min_four
end Go.Proofs.YtbhfbbfjdklfgaaGreatDoor.Q
namespace Go.Proofs.YtbhfbbfjdklfgaaGreatDoor.Q
open Go.Proofs.Tryz Go.RowKit Go.Proofs.YtbhfbbfjdklfgaaGreatDoorW.PrintWords Go.Proofs.YtbhfbbfjdklfgaaGreatDoorW.PrintLast Go.Proofs.YtbhfbbfjdklfgaaGreatDoorW.PrintMore
def PAR : List UInt8 := [112, 97, 114, 101, 110, 116, 32]
def parsL : List ByteArray → List UInt8
 | [] => []
 | p :: r => PAR ++ (p.data.toList ++ 10 :: parsL r)
def endL (wa wc x : List UInt8) : List UInt8 := [97, 117, 116, 104, 111, 114, 32] ++ (wa ++ 10 :: ([99, 111, 109, 109, 105, 116, 116, 101, 114, 32] ++ (wc ++ 10 :: (10 :: x))))
def comL (t : List UInt8) (l : List ByteArray) (wa wc x : List UInt8) : List UInt8 := [116, 114, 101, 101, 32] ++ (t ++ 10 :: (parsL l ++ endL wa wc x))
theorem end_text (b h v x : ByteArray) : ((((b ++ (⟨#[97, 117, 116, 104, 111, 114, 32]⟩ : ByteArray)) ++ h) ++ (⟨#[10, 99, 111, 109, 109, 105, 116, 116, 101, 114, 32]⟩ : ByteArray)) ++ v) ++ (⟨#[10, 10]⟩ : ByteArray) ++ x = mk (b.data.toList ++ endL h.data.toList v.data.toList x.data.toList) := by
 refine ba_ext ?_
 unfold endL
 simp only [append_data, mk_data, List.append_assoc, List.cons_append, List.nil_append]
theorem par_text (b p : ByteArray) : b ++ (((⟨#[112, 97, 114, 101, 110, 116, 32]⟩ : ByteArray) ++ p) ++ (⟨#[10]⟩ : ByteArray)) = mk (b.data.toList ++ (PAR ++ (p.data.toList ++ [10]))) := by
 refine ba_ext ?_
 unfold PAR
 simp only [append_data, mk_data, List.append_assoc, List.cons_append, List.nil_append]
theorem head_text (t : ByteArray) : ((⟨#[116, 114, 101, 101, 32]⟩ : ByteArray) ++ t) ++ (⟨#[10]⟩ : ByteArray) = mk ([116, 114, 101, 101, 32] ++ (t.data.toList ++ [10])) := by
 refine ba_ext ?_
 simp only [append_data, mk_data, List.append_assoc, List.cons_append, List.nil_append]
theorem par_step (b p : ByteArray) (r : List ByteArray) (e : List UInt8) : (mk (b.data.toList ++ (PAR ++ (p.data.toList ++ [10])))).data.toList ++ (parsL r ++ e) = b.data.toList ++ (parsL (p :: r) ++ e) := by
 rw [mk_data, parsL]
 simp only [List.append_assoc, List.cons_append, List.nil_append]
theorem par_size (b p : ByteArray) : (mk (b.data.toList ++ (PAR ++ (p.data.toList ++ [10])))).size = b.size + p.size + 8 := by
 rw [mk_size]
 simp only [List.length_append, List.length_cons, List.length_nil, size_of, PAR]
 omega
section
variable (t : ByteArray) (l : List ByteArray) (an am : ByteArray) (aq az : Int) (cn cm : ByteArray) (cq cz : Int) (x : ByteArray)
def comB : ByteArray := mk (comL t.data.toList l (whoL an.data.toList am.data.toList aq az) (whoL cn.data.toList cm.data.toList cq cz) x.data.toList)
def bodyB : ByteArray × Int := if checkB t l an am aq az cn cm cq cz x = 0 then (comB t l an am aq az cn cm cq cz x, 0) else (⟨#[]⟩, checkB t l an am aq az cn cm cq cz x)
theorem com_zero (h : checkB t l an am aq az cn cm cq cz x = 0) : comOk t l an am aq az cn cm cq cz x ∧ x.size ≤ 4096 ∧ l.length ≤ 8 := by
 unfold checkB at h
 split at h
 ·rename_i k
  refine ⟨k, ?_⟩
  split at h
  ·cases h
  ·rename_i q
   constructor
   ·exact Nat.le_of_not_lt (fun z => q (Or.inl z))
   ·exact Nat.le_of_not_lt (fun z => q (Or.inr z))
 ·cases h
theorem whoB_size {n m : ByteArray} {t z : Int} (hp : personB n m t z = true) : (whoB n m t z).size ≤ 200 := by
 unfold whoB; rw [mk_size]; exact whoL_len hp
theorem author_size : (⟨#[97, 117, 116, 104, 111, 114, 32]⟩ : ByteArray).size = 7 := rfl
theorem committer_size : (⟨#[10, 99, 111, 109, 109, 105, 116, 116, 101, 114, 32]⟩ : ByteArray).size = 11 := rfl
theorem parent_size : (⟨#[112, 97, 114, 101, 110, 116, 32]⟩ : ByteArray).size = 7 := rfl
theorem tree_size : (⟨#[116, 114, 101, 101, 32]⟩ : ByteArray).size = 5 := rfl
theorem nl_size : (⟨#[10]⟩ : ByteArray).size = 1 := rfl
theorem nl2_size : (⟨#[10, 10]⟩ : ByteArray).size = 2 := rfl
theorem whoB_data (n m : ByteArray) (t z : Int) : (whoB n m t z).data.toList = whoL n.data.toList m.data.toList t z := by unfold whoB; exact mk_data _
theorem Body_l0 (h : checkB t l an am aq az cn cm cq cz x = 0) : ∀ (u : List ByteArray) (i : Nat) (b : ByteArray), l.drop i = u → b.size + 48 * u.length ≤ 1000 →
  Ev (fun k => commit_Body.l0 k b l (l.length : Int) i t l an am aq az cn cm cq cz x) (mk (b.data.toList ++ (parsL u ++ endL (whoL an.data.toList am.data.toList aq az) (whoL cn.data.toList cm.data.toList cq cz) x.data.toList)), 0)
 | [], i, b, hu, hb => by
  obtain ⟨⟨h1, h2, h3, h4, h5⟩, h6, h7⟩ := com_zero t l an am aq az cn cm cq cz x h
  obtain ⟨l1, l2, p0, p1, p2, p3⟩ := person_facts h3
  obtain ⟨m1, m2, q0, q1, q2, q3⟩ := person_facts h4
  have s1 := whoB_size h3
  have s2 := whoB_size h4
  have hi : l.length ≤ i := by have := congrArg List.length hu; rw [List.length_drop] at this; simp at this; omega
  rw [List.length_nil] at hb
  refine Ev.step (f := ?_) (fun k => by rw [commit_Body.l0, if_neg (by omega), if_pos (by omega), Who_eq an am aq az (by omega) (by omega) (by omega) (by omega) (by omega) (by omega), Who_eq cn cm cq cz (by omega) (by omega) (by omega) (by omega) (by omega) (by omega), Option.bind_some, Option.bind_some]) ?_
  simp only [ByteArray.size_append, author_size, committer_size, nl2_size]
  rw [← whoB_data an am aq az, ← whoB_data cn cm cq cz]
  generalize whoB an am aq az = wa at *
  generalize whoB cn cm cq cz = wc at *
  refine ev_yes (by omega) (ev_yes (by omega) (ev_yes (by omega) (ev_yes (by omega) (ev_yes (by omega) ?_))))
  refine ev_eq (Ev.now _) ?_
  rw [end_text]; rfl
 | p :: r, i, b, hu, hb => by
  obtain ⟨⟨h1, h2, h3, h4, h5⟩, h6, h7⟩ := com_zero t l an am aq az cn cm cq cz x h
  have hlt : i < l.length := by have := congrArg List.length hu; rw [List.length_drop, List.length_cons] at this; omega
  rw [List.drop_eq_getElem_cons hlt] at hu
  obtain ⟨e1, e2⟩ := List.cons.inj hu
  have hsz := id_size (h2 l[i] (List.getElem_mem hlt))
  rw [List.length_cons] at hb
  refine Ev.step (f := ?_) (fun k => by rw [commit_Body.l0, if_pos (by omega), if_pos (by omega), if_pos (by omega), rd_ext l i hlt, w_succ i (by omega)]) ?_
  rw [e1] at hsz ⊢
  simp only [ByteArray.size_append, parent_size, nl_size]
  refine ev_yes (by omega) (ev_yes (by omega) (ev_yes (by omega) ?_))
  rw [par_text]
  refine ev_eq (Body_l0 h r (i + 1) _ e2 (by rw [par_size]; omega)) ?_
  rw [par_step]
theorem head_eq (t : ByteArray) (e : List UInt8) : (mk ([116, 114, 101, 101, 32] ++ (t.data.toList ++ [10]))).data.toList ++ e = [116, 114, 101, 101, 32] ++ (t.data.toList ++ 10 :: e) := by
 rw [mk_data]
 simp only [List.append_assoc, List.cons_append, List.nil_append]
theorem head_size (t : ByteArray) : (mk ([116, 114, 101, 101, 32] ++ (t.data.toList ++ [10]))).size = t.size + 6 := by
 rw [mk_size]
 simp only [List.length_append, List.length_cons, List.length_nil, size_of]
 omega
theorem Body_ev (hl : l.length ≤ 140737488351232) (hn : an.size ≤ 140737488351232) (hm : am.size ≤ 140737488351232) (hcn : cn.size ≤ 140737488351232) (hcm : cm.size ≤ 140737488351232) (hx : x.size < 4294967281) : Ev (fun k => commit_Body.f k t l an am aq az cn cm cq cz x) (bodyB t l an am aq az cn cm cq cz x) := by
 refine Ev.bind (Check_ev t l an am aq az cn cm cq cz x hl hn hm hcn hcm hx) ?_
 unfold bodyB
 refine ev_ite (fun h => ?_) (fun h => ?_)
 ·obtain ⟨⟨h1, h2, h3, h4, h5⟩, h6, h7⟩ := com_zero t l an am aq az cn cm cq cz x h
  have ht := id_size h1
  rw [if_pos h]
  refine ev_yes (by omega) (ev_yes (by rw [ByteArray.size_append, tree_size]; omega) ?_)
  rw [head_text]
  refine ev_eq (Body_l0 t l an am aq az cn cm cq cz x h l 0 _ List.drop_zero (by rw [head_size]; omega)) ?_
  rw [head_eq]; rfl
 ·rw [if_neg h]; exact Ev.now _
end
end Go.Proofs.YtbhfbbfjdklfgaaGreatDoor.Q
namespace Go.Proofs.YtbhfbbfjdklfgaaGreatDoor.Q
open Go.Proofs.Tryz Go.RowKit Go.Proofs.YtbhfbbfjdklfgaaGreatDoorW.PrintWords Go.Proofs.YtbhfbbfjdklfgaaGreatDoorW.PrintLast Go.Proofs.YtbhfbbfjdklfgaaGreatDoorW.PrintMore
attribute [local go_sem] max2_int min2_int max_two min_two max_three min_three max_four min_four
end Go.Proofs.YtbhfbbfjdklfgaaGreatDoor.Q
namespace Go.Proofs.YtbhfbbfjdklfgaaGreatDoor.Q
open Go.Proofs.Tryz Go.RowKit Go.Proofs.YtbhfbbfjdklfgaaGreatDoorW.PrintWords Go.Proofs.YtbhfbbfjdklfgaaGreatDoorW.PrintLast Go.Proofs.YtbhfbbfjdklfgaaGreatDoorW.PrintMore
def TRE : List UInt8 := [116, 114, 101, 101, 32]
def AUT : List UInt8 := [97, 117, 116, 104, 111, 114, 32]
def COM : List UInt8 := [99, 111, 109, 109, 105, 116, 116, 101, 114, 32]
theorem HasPrefix_eq (s p : ByteArray) : strings_HasPrefix.f s p = some (decide (s.data.toList.take p.size = p.data.toList)) := by
 have hx : (s.extract 0 p.size).toList = s.data.toList.take p.size := by rw [ByteArray.toList_eq, ext_data]; simp
 unfold strings_HasPrefix.f stringslite_HasPrefix.f
 by_cases h : (s.size : Int) ≥ (p.size : Int)
 ·rw [if_pos h, if_pos (by omega), if_pos (by omega), hx, ByteArray.toList_eq p]
  simp only [Option.bind_some]
  by_cases g : s.data.toList.take p.size = p.data.toList
  ·rw [decide_eq_true g, g]; simp
  ·rw [decide_eq_false g]; simp [g]
 ·rw [if_neg h]
  simp only [Option.bind_some]
  rw [decide_eq_false (fun e => ?_)]
  have := congrArg List.length e
  rw [List.length_take, size_of, size_of] at this
  omega
def parF : Nat → List UInt8 → List ByteArray × List UInt8 × Bool
 | 0, u => ([], u, true)
 | n + 1, u => if (lineF u PAR).2.2 = true then (if idOk (mk (lineF u PAR).1) = true then (mk (lineF u PAR).1 :: (parF n (lineF u PAR).2.1).1, (parF n (lineF u PAR).2.1).2) else ([], u, false)) else ([], u, true)
theorem lineF_less {u p : List UInt8} (h : (lineF u p).2.2 = true) : (lineF u p).2.1.length < u.length := by
 have := congrArg List.length (lineF_text h)
 simp only [List.length_append, List.length_cons] at this
 omega
theorem parF_len : ∀ (n : Nat) (u : List UInt8), (parF n u).2.1.length ≤ u.length
 | 0, u => Nat.le_refl _
 | n + 1, u => by
  rw [parF]
  split
  ·rename_i h
   split
   ·exact Nat.le_trans (parF_len n _) (Nat.le_of_lt (lineF_less h))
   ·exact Nat.le_refl _
  ·exact Nat.le_refl _
theorem no_line {u : List UInt8} (h : u.take PAR.length = PAR) (hl : (lineF u PAR).2.2 = false) (p : List UInt8) : (lineF u p).2.2 = false := by
 have hc : (Lib.cut u [10]).2.2 = false := by
  cases e : (Lib.cut u [10]).2.2 with
  | false => rfl
  | true =>
   exfalso
   have t := (cut_text (l := u) (s := [10]) (a := (Lib.cut u [10]).1) (b := (Lib.cut u [10]).2.1) (by decide) (by rw [← e])).1
   generalize hA : (Lib.cut u [10]).1 = A at *
   generalize hB : (Lib.cut u [10]).2.1 = B at *
   have hA7 : A.take PAR.length = PAR := by
    by_cases q : PAR.length ≤ A.length
    ·rw [t, List.append_assoc, List.take_append_of_le_length q] at h; exact h
    ·exfalso
     have hlt : A.length < PAR.length := Nat.lt_of_not_le q
     have h10 : (u.take PAR.length)[A.length]? = some 10 := by
      rw [List.getElem?_take_of_lt hlt, t, List.append_assoc, List.getElem?_append_right (Nat.le_refl _), Nat.sub_self]; rfl
     rw [h] at h10
     have : ∀ i : Fin 7, PAR[i.val]? ≠ some 10 := by decide
     exact this ⟨A.length, hlt⟩ h10
   unfold lineF at hl
   rw [hA, if_pos ⟨e, hA7⟩] at hl
   cases hl
 unfold lineF
 rw [if_neg]
 rintro ⟨g, -⟩
 rw [hc] at g; cases g
def k1 (s : ByteArray) := lineF s.data.toList TRE
def kp (s : ByteArray) := parF s.size (k1 s).2.1
def kA (s : ByteArray) := lineF (kp s).2.1 AUT
def kC (s : ByteArray) := lineF (kA s).2.1 COM
def kE (s : ByteArray) := lineF (kC s).2.1 []
def kWA (s : ByteArray) := parseWhoB (mk (kA s).1)
def kWC (s : ByteArray) := parseWhoB (mk (kC s).1)
def kGood (s : ByteArray) : Prop := (k1 s).2.2 = true ∧ idOk (mk (k1 s).1) = true ∧ (kp s).2.2 = true ∧ (kA s).2.2 = true ∧ (kWA s).2.2.2.2 ≠ 2 ∧ (kC s).2.2 = true ∧ (kWC s).2.2.2.2 ≠ 2 ∧ (kE s).2.2 = true ∧ (kE s).1 = []
instance (s : ByteArray) : Decidable (kGood s) := by unfold kGood; infer_instance
abbrev ComR := ByteArray × List ByteArray × ByteArray × ByteArray × Int × Int × ByteArray × ByteArray × Int × Int × ByteArray × Int
def noCom (c : Int) : ComR := (⟨#[]⟩, [], ⟨#[]⟩, ⟨#[]⟩, 0, 0, ⟨#[]⟩, ⟨#[]⟩, 0, 0, ⟨#[]⟩, c)
def kCheck (s : ByteArray) : Int := checkB (mk (k1 s).1) (kp s).1 (kWA s).1 (kWA s).2.1 (kWA s).2.2.1 (kWA s).2.2.2.1 (kWC s).1 (kWC s).2.1 (kWC s).2.2.1 (kWC s).2.2.2.1 (mk (kE s).2.1)
def parseB (s : ByteArray) : ComR :=
 if kGood s then (if (kWA s).2.2.2.2 = 1 ∨ (kWC s).2.2.2.2 = 1 then noCom 1 else if kCheck s = 0 then (mk (k1 s).1, (kp s).1, (kWA s).1, (kWA s).2.1, (kWA s).2.2.1, (kWA s).2.2.2.1, (kWC s).1, (kWC s).2.1, (kWC s).2.2.1, (kWC s).2.2.2.1, mk (kE s).2.1, 0) else noCom (kCheck s)) else noCom 2
theorem parF_num : ∀ (n : Nat) (u : List UInt8), (parF n u).1.length ≤ n
 | 0, u => Nat.le_refl _
 | n + 1, u => by
  rw [parF]
  split
  ·split
   ·exact Nat.succ_le_succ (parF_num n _)
   ·exact Nat.zero_le _
  ·exact Nat.zero_le _
theorem k_len (s : ByteArray) : (k1 s).1.length ≤ s.size ∧ (k1 s).2.1.length ≤ s.size ∧ (kp s).2.1.length ≤ s.size ∧ (kA s).1.length ≤ s.size ∧ (kA s).2.1.length ≤ s.size ∧ (kC s).1.length ≤ s.size ∧ (kC s).2.1.length ≤ s.size ∧ (kE s).1.length ≤ s.size ∧ (kE s).2.1.length ≤ s.size := by
 have h1 := lineF_len s.data.toList TRE
 have h2 := parF_len s.size (k1 s).2.1
 have h3 := lineF_len (kp s).2.1 AUT
 have h4 := lineF_len (kA s).2.1 COM
 have h5 := lineF_len (kC s).2.1 []
 rw [size_of] at h1
 change (k1 s).1.length ≤ _ ∧ (k1 s).2.1.length ≤ _ at h1
 change (kp s).2.1.length ≤ _ at h2
 change (kA s).1.length ≤ _ ∧ (kA s).2.1.length ≤ _ at h3
 change (kC s).1.length ≤ _ ∧ (kC s).2.1.length ≤ _ at h4
 change (kE s).1.length ≤ _ ∧ (kE s).2.1.length ≤ _ at h5
 omega
theorem k_who_len (s : ByteArray) : (kWA s).1.size ≤ s.size ∧ (kWA s).2.1.size ≤ s.size ∧ (kWC s).1.size ≤ s.size ∧ (kWC s).2.1.size ≤ s.size := by
 obtain ⟨l1, l2, l3, l4, l5, l6, l7, l8, l9⟩ := k_len s
 have ha := who_len (mk (kA s).1)
 have hc := who_len (mk (kC s).1)
 rw [mk_size] at ha hc
 change (kWA s).1.size ≤ _ ∧ (kWA s).2.1.size ≤ _ at ha
 change (kWC s).1.size ≤ _ ∧ (kWC s).2.1.size ≤ _ at hc
 omega
end Go.Proofs.YtbhfbbfjdklfgaaGreatDoor.Q
namespace Go.Proofs.YtbhfbbfjdklfgaaGreatDoor.Q
open Go.Proofs.Tryz Go.RowKit Go.Proofs.YtbhfbbfjdklfgaaGreatDoorW.PrintWords Go.Proofs.YtbhfbbfjdklfgaaGreatDoorW.PrintLast Go.Proofs.YtbhfbbfjdklfgaaGreatDoorW.PrintMore
theorem errW2_two (c : Int) : errW2 2 c = 2 := by
 unfold errW2
 by_cases h : c = 0
 ·rw [if_pos h]
 ·rw [if_neg h, if_neg (by decide)]
  by_cases g : c = 2
  ·rw [if_pos g]
  ·rw [if_neg g]
section
variable (t : ByteArray) (l : List ByteArray) (an am : ByteArray) (aq az : Int) (cn cm : ByteArray) (cq cz : Int) (x : ByteArray)
theorem com_j2_two (a : ByteArray) : Ev (fun k => commit_Parse.j2 k a 2 t l an am aq az cn cm cq cz x) (noCom 2) :=
 Ev.step (f := ?_) (fun k => by rw [commit_Parse.j2, if_neg (by decide)]) (Ev.now _)
theorem com_j1_two (a : ByteArray) (ha : a.size ≤ 4294967000) : Ev (fun k => commit_Parse.j1 k a 2 t l an am aq az cn cm cq cz x) (noCom 2) := by
 refine Ev.step (f := ?_) (fun k => by rw [commit_Parse.j1]) ?_
 have h1 := lineF_len a.data.toList AUT
 rw [size_of] at h1
 refine Ev.bind (who_ev a 2 ⟨#[97, 117, 116, 104, 111, 114, 32]⟩ ha) ?_
 change Ev (fun k => (commit_reader_who.f k (mk (lineF a.data.toList AUT).2.1) (errW2 (if (lineF a.data.toList AUT).2.2 = true then 2 else 2) (parseWhoB (mk (lineF a.data.toList AUT).1)).2.2.2.2) ⟨#[99, 111, 109, 109, 105, 116, 116, 101, 114, 32]⟩).bind _) _
 rw [ite_self, errW2_two]
 generalize (lineF a.data.toList AUT).2.1 = u at *
 have h2 := lineF_len u COM
 refine Ev.bind (who_ev (mk u) 2 ⟨#[99, 111, 109, 109, 105, 116, 116, 101, 114, 32]⟩ (by rw [mk_size]; omega)) ?_
 rw [mk_data]
 change Ev (fun k => (commit_reader_line.f (mk (lineF u COM).2.1) (errW2 (if (lineF u COM).2.2 = true then 2 else 2) (parseWhoB (mk (lineF u COM).1)).2.2.2.2) ⟨#[]⟩).bind _) _
 rw [ite_self, errW2_two]
 generalize (lineF u COM).2.1 = v at *
 rw [line_eq _ _ _ (by rw [mk_size]; omega)]
 simp only [Option.bind_some]
 rw [mk_data]
 refine ev_ite (fun g => ?_) (fun g => ?_)
 ·rw [ite_self]; exact com_j2_two ..
 ·rw [fail_two]
  simp only [Option.bind_some]
  exact com_j2_two ..
end
theorem com_j2 (s : ByteArray) (hs : s.size ≤ 4294967000) (e : Int) (x : ByteArray) (he : e = if kGood s then (if (kWA s).2.2.2.2 = 1 ∨ (kWC s).2.2.2.2 = 1 then 1 else 0) else 2) (hp : (kp s).1.length ≤ 140737488351232) :
  Ev (fun k => commit_Parse.j2 k (mk (kE s).2.1) e (mk (k1 s).1) (kp s).1 (kWA s).1 (kWA s).2.1 (kWA s).2.2.1 (kWA s).2.2.2.1 (kWC s).1 (kWC s).2.1 (kWC s).2.2.1 (kWC s).2.2.2.1 x) (parseB s) := by
 obtain ⟨l1, l2, l3, l4, l5, l6, l7, l8, l9⟩ := k_len s
 obtain ⟨w1, w2, w3, w4⟩ := k_who_len s
 unfold parseB
 by_cases hg : kGood s
 ·rw [if_pos hg] at he ⊢
  by_cases h1 : (kWA s).2.2.2.2 = 1 ∨ (kWC s).2.2.2.2 = 1
  ·rw [if_pos h1] at he ⊢
   subst he
   exact Ev.step (f := ?_) (fun k => by rw [commit_Parse.j2, if_neg (by decide)]) (Ev.now _)
  ·rw [if_neg h1] at he ⊢
   subst he
   refine Ev.step (f := ?_) (fun k => by rw [commit_Parse.j2, if_pos rfl]) ?_
   refine Ev.bind (Check_ev _ _ _ _ _ _ _ _ _ _ _ hp (by omega) (by omega) (by omega) (by omega) (by rw [mk_size]; omega)) ?_
   refine ev_ite (fun g => ?_) (fun g => ?_)
   ·rw [if_pos (show kCheck s = 0 from g)]; exact Ev.now _
   ·rw [if_neg (show ¬ kCheck s = 0 from g)]; exact Ev.now _
 ·rw [if_neg hg] at he ⊢
  subst he
  exact com_j2_two ..
theorem com_err (a b c : Prop) [Decidable a] [Decidable b] [Decidable c] (x y : Int) (hx : x = 0 ∨ x = 1 ∨ x = 2) (hy : y = 0 ∨ y = 1 ∨ y = 2) :
  (if c then errW2 (if b then errW2 (if a then (0 : Int) else 2) x else 2) y else 2) = if a ∧ x ≠ 2 ∧ b ∧ y ≠ 2 ∧ c then (if x = 1 ∨ y = 1 then 1 else 0) else 2 := by
 by_cases ha : a <;> by_cases hb : b <;> by_cases hc : c <;> simp only [ha, hb, hc, if_true, if_false, true_and, false_and, and_true, and_false, errW2_two]
 all_goals (rcases hx with rfl | rfl | rfl <;> rcases hy with rfl | rfl | rfl <;> decide)
theorem com_j1 (s : ByteArray) (hs : s.size ≤ 4294967000) (g1 : (k1 s).2.2 = true) (g2 : idOk (mk (k1 s).1) = true) (g3 : (kp s).2.2 = true) (hp : (kp s).1.length ≤ 140737488351232) (an am : ByteArray) (aq az : Int) (cn cm : ByteArray) (cq cz : Int) (x : ByteArray) :
  Ev (fun k => commit_Parse.j1 k (mk (kp s).2.1) 0 (mk (k1 s).1) (kp s).1 an am aq az cn cm cq cz x) (parseB s) := by
 obtain ⟨l1, l2, l3, l4, l5, l6, l7, l8, l9⟩ := k_len s
 refine Ev.step (f := ?_) (fun k => by rw [commit_Parse.j1]) ?_
 refine Ev.bind (who_ev (mk (kp s).2.1) 0 ⟨#[97, 117, 116, 104, 111, 114, 32]⟩ (by rw [mk_size]; omega)) ?_
 rw [mk_data]
 change Ev (fun k => (commit_reader_who.f k (mk (kA s).2.1) (errW2 (if (kA s).2.2 = true then 0 else 2) (kWA s).2.2.2.2) ⟨#[99, 111, 109, 109, 105, 116, 116, 101, 114, 32]⟩).bind _) _
 refine Ev.bind (who_ev (mk (kA s).2.1) _ ⟨#[99, 111, 109, 109, 105, 116, 116, 101, 114, 32]⟩ (by rw [mk_size]; omega)) ?_
 rw [mk_data]
 change Ev (fun k => (commit_reader_line.f (mk (kC s).2.1) (errW2 (if (kC s).2.2 = true then (errW2 (if (kA s).2.2 = true then 0 else 2) (kWA s).2.2.2.2) else 2) (kWC s).2.2.2.2) ⟨#[]⟩).bind _) _
 rw [line_eq _ _ _ (by rw [mk_size]; omega)]
 simp only [Option.bind_some]
 rw [mk_data]
 change Ev (fun k => if (mk (kE s).1).toList = ([] : List UInt8) then commit_Parse.j2 k (mk (kE s).2.1) (if (kE s).2.2 = true then errW2 (if (kC s).2.2 = true then (errW2 (if (kA s).2.2 = true then 0 else 2) (kWA s).2.2.2.2) else 2) (kWC s).2.2.2.2 else 2) (mk (k1 s).1) (kp s).1 (kWA s).1 (kWA s).2.1 (kWA s).2.2.1 (kWA s).2.2.2.1 (kWC s).1 (kWC s).2.1 (kWC s).2.2.1 (kWC s).2.2.2.1 x else _) _
 rw [com_err ((kA s).2.2 = true) ((kC s).2.2 = true) ((kE s).2.2 = true) (kWA s).2.2.2.2 (kWC s).2.2.2.2 (who_code (mk (kA s).1)) (who_code (mk (kC s).1))]
 refine ev_ite (fun g => ?_) (fun g => ?_)
 ·rw [mk_toList] at g
  refine com_j2 s hs _ x ?_ hp
  by_cases h : (kA s).2.2 = true ∧ (kWA s).2.2.2.2 ≠ 2 ∧ (kC s).2.2 = true ∧ (kWC s).2.2.2.2 ≠ 2 ∧ (kE s).2.2 = true
  ·rw [if_pos h, if_pos (show kGood s from ⟨g1, g2, g3, h.1, h.2.1, h.2.2.1, h.2.2.2.1, h.2.2.2.2, g⟩)]
  ·rw [if_neg h, if_neg (fun q : kGood s => h ⟨q.2.2.2.1, q.2.2.2.2.1, q.2.2.2.2.2.1, q.2.2.2.2.2.2.1, q.2.2.2.2.2.2.2.1⟩)]
 ·rw [fail_two]
  simp only [Option.bind_some]
  refine com_j2 s hs _ x ?_ hp
  rw [if_neg (fun q : kGood s => g (by rw [mk_toList]; exact q.2.2.2.2.2.2.2.2))]
theorem lineF_take {u p : List UInt8} (h : (lineF u p).2.2 = true) : u.take p.length = p := by
 rw [lineF_text h]
 exact take_pre _ _ _ rfl
theorem com_l0 (s : ByteArray) (hs : s.size ≤ 4294967000) (g1 : (k1 s).2.2 = true) (g2 : idOk (mk (k1 s).1) = true) (an am : ByteArray) (aq az : Int) (cn cm : ByteArray) (cq cz : Int) (x : ByteArray) : ∀ (n : Nat) (u : List UInt8) (acc : List ByteArray), u.length ≤ n → acc.length + n ≤ 4294967000 →
  (parF n u).2.2 = (kp s).2.2 → ((parF n u).2.2 = true → (parF n u).2.1 = (kp s).2.1 ∧ acc ++ (parF n u).1 = (kp s).1) → Ev (fun k => commit_Parse.l0 k (mk u) 0 (mk (k1 s).1) acc an am aq az cn cm cq cz x) (parseB s)
 | n, u, acc, hu, ha, q1, q2 => by
  have hp : (kp s).1.length ≤ 140737488351232 := by
   have := parF_num s.size (k1 s).2.1
   change (kp s).1.length ≤ _ at this
   omega
  have two : ¬ kGood s → parseB s = noCom 2 := fun h => by unfold parseB; rw [if_neg h]
  refine Ev.step (f := ?_) (fun k => by rw [commit_Parse.l0, if_pos rfl, HasPrefix_eq, Option.bind_some, mk_data]) ?_
  change Ev (fun k => if decide (u.take PAR.length = PAR) = true then (commit_reader_id.f k (mk u) 0 ⟨#[112, 97, 114, 101, 110, 116, 32]⟩).bind _ else _) _
  by_cases hpre : u.take PAR.length = PAR
  ·rw [decide_eq_true hpre]
   refine ev_yes rfl ?_
   refine Ev.bind (id_ev (mk u) 0 ⟨#[112, 97, 114, 101, 110, 116, 32]⟩ (by rw [mk_size]; omega)) ?_
   rw [mk_data]
   change Ev (fun k => if acc.length < 8796093022208 then commit_Parse.l0 k (mk (lineF u PAR).2.1) (if (lineF u PAR).2.2 = true ∧ idOk (mk (lineF u PAR).1) = true then 0 else 2) (mk (k1 s).1) (acc ++ [mk (lineF u PAR).1]) an am aq az cn cm cq cz x else _) _
   refine ev_yes (by omega) ?_
   have hlen := lineF_len u PAR
   have bad : ∀ (l : List ByteArray), Ev (fun k => commit_Parse.l0 k (mk (lineF u PAR).2.1) 2 (mk (k1 s).1) l an am aq az cn cm cq cz x) (noCom 2) := fun l =>
    Ev.step (f := ?_) (fun k => by rw [commit_Parse.l0, if_neg (by decide)]) (com_j1_two _ _ _ _ _ _ _ _ _ _ _ (mk (lineF u PAR).2.1) (by rw [mk_size]; omega))
   cases n with
   | zero =>
    exfalso
    have : u = [] := List.length_eq_zero_iff.1 (by omega)
    rw [this] at hpre
    exact absurd hpre (by decide)
   | succ n =>
    rw [parF] at q1 q2
    cases ok : (lineF u PAR).2.2 with
    | false =>
     rw [if_neg (fun h : false = true ∧ _ => by cases h.1)]
     rw [ok, if_neg (by decide)] at q1 q2
     refine ev_eq (bad _) (two (fun hg => ?_)).symm
     have := (q2 rfl).1
     have h4 := hg.2.2.2.1
     unfold kA at h4
     rw [← this] at h4
     change (lineF u AUT).2.2 = true at h4
     rw [no_line hpre ok AUT] at h4
     cases h4
    | true =>
     rw [ok, if_pos rfl] at q1 q2
     by_cases hid : idOk (mk (lineF u PAR).1) = true
     ·rw [if_pos ⟨rfl, hid⟩]
      rw [if_pos hid] at q1 q2
      have := lineF_less ok
      refine com_l0 s hs g1 g2 an am aq az cn cm cq cz x n _ _ (by omega) (by rw [List.length_append]; simp only [List.length_cons, List.length_nil]; omega) q1 (fun z => ?_)
      obtain ⟨y1, y2⟩ := q2 z
      refine ⟨y1, ?_⟩
      rw [← y2, List.append_assoc]; rfl
     ·rw [if_neg (fun h => hid h.2)]
      rw [if_neg hid] at q1
      refine ev_eq (bad _) (two (fun hg => ?_)).symm
      have h3 := hg.2.2.1
      rw [← q1] at h3
      cases h3
  ·rw [decide_eq_false hpre]
   refine ev_no (by decide) ?_
   have no : (lineF u PAR).2.2 = false := by
    cases ok : (lineF u PAR).2.2 with
    | false => rfl
    | true => exact absurd (lineF_take ok) hpre
   have e : parF n u = ([], u, true) := by
    cases n with
    | zero => rfl
    | succ n => rw [parF, no, if_neg (by decide)]
   rw [e] at q1 q2
   obtain ⟨y1, y2⟩ := q2 rfl
   change u = _ at y1
   rw [List.append_nil] at y2
   rw [y1, y2]
   exact com_j1 s hs g1 g2 q1.symm hp an am aq az cn cm cq cz x
theorem Parse_ev (s : ByteArray) (hs : s.size ≤ 4294967000) : Ev (fun k => commit_Parse.f k s) (parseB s) := by
 obtain ⟨l1, l2, l3, l4, l5, l6, l7, l8, l9⟩ := k_len s
 refine Ev.bind (id_ev s 0 ⟨#[116, 114, 101, 101, 32]⟩ (by omega)) ?_
 change Ev (fun k => commit_Parse.l0 k (mk (k1 s).2.1) (if (k1 s).2.2 = true ∧ idOk (mk (k1 s).1) = true then 0 else 2) (mk (k1 s).1) [] ⟨#[]⟩ ⟨#[]⟩ 0 0 ⟨#[]⟩ ⟨#[]⟩ 0 0 ⟨#[]⟩) _
 by_cases h : (k1 s).2.2 = true ∧ idOk (mk (k1 s).1) = true
 ·rw [if_pos h]
  exact com_l0 s hs h.1 h.2 _ _ _ _ _ _ _ _ _ s.size (k1 s).2.1 [] l2 (by simpa using hs) rfl (fun _ => ⟨rfl, rfl⟩)
 ·rw [if_neg h]
  have : parseB s = noCom 2 := by unfold parseB; rw [if_neg (fun g : kGood s => h ⟨g.1, g.2.1⟩)]
  rw [this]
  exact Ev.step (f := ?_) (fun k => by rw [commit_Parse.l0, if_neg (by decide)]) (com_j1_two _ _ _ _ _ _ _ _ _ _ _ (mk (k1 s).2.1) (by rw [mk_size]; omega))
section
variable (s : ByteArray) (hs : s.size ≤ 4294967000) (an am : ByteArray) (aq az : Int) (cn cm : ByteArray) (cq cz : Int) (x : ByteArray)
include hs
end
theorem parsL_app (p : ByteArray) (r : List ByteArray) (e : List UInt8) : parsL (p :: r) ++ e = PAR ++ (p.data.toList ++ 10 :: (parsL r ++ e)) := by
 rw [parsL]; simp only [List.append_assoc, List.cons_append]
theorem endL_no (wa wc x : List UInt8) : (lineF (endL wa wc x) PAR).2.2 = false := by
 cases ok : (lineF (endL wa wc x) PAR).2.2 with
 | false => rfl
 | true =>
  have h := lineF_take ok
  have h2 : (endL wa wc x).take PAR.length = AUT := take_pre AUT _ 7 rfl
  rw [h2] at h
  exact absurd h (by decide)
theorem parF_back : ∀ (n : Nat) (l : List ByteArray) (e : List UInt8), l.length ≤ n → (∀ p ∈ l, idOk p = true) → (lineF e PAR).2.2 = false → parF n (parsL l ++ e) = (l, e, true)
 | 0, [], e, hl, hi, he => rfl
 | 0, p :: r, e, hl, hi, he => absurd hl (by simp)
 | n + 1, [], e, hl, hi, he => by
  show parF (n + 1) e = _
  rw [parF, he, if_neg (by decide)]
 | n + 1, p :: r, e, hl, hi, he => by
  have hp := hi p (List.mem_cons_self ..)
  rw [parsL_app, parF, lineF_of PAR p.data.toList _ (by decide) (idOk_no10 hp)]
  show (if true = true then (if idOk (mk p.data.toList) = true then (mk p.data.toList :: (parF n (parsL r ++ e)).1, (parF n (parsL r ++ e)).2) else _) else _) = _
  rw [if_pos rfl, mk_of, if_pos hp, parF_back n r e (by simpa using hl) (fun q hq => hi q (List.mem_cons_of_mem _ hq)) he]
section
variable (t : ByteArray) (l : List ByteArray) (an am : ByteArray) (aq az : Int) (cn cm : ByteArray) (cq cz : Int) (x : ByteArray)
theorem comB_size (h : checkB t l an am aq az cn cm cq cz x = 0) : (comB t l an am aq az cn cm cq cz x).size ≤ 6000 ∧ l.length ≤ (comB t l an am aq az cn cm cq cz x).size := by
 obtain ⟨⟨h1, h2, h3, h4, h5⟩, h6, h7⟩ := com_zero t l an am aq az cn cm cq cz x h
 have z1 := id_size h1
 have z3 := whoL_len h3
 have z4 := whoL_len h4
 have pl : ∀ r : List ByteArray, (∀ p ∈ r, idOk p = true) → (parsL r).length = 48 * r.length := by
  intro r
  induction r with
  | nil => intro _; rfl
  | cons p r ih =>
   intro hr
   have hp := id_size (hr p (List.mem_cons_self ..))
   rw [parsL]
   simp only [List.length_append, List.length_cons, size_of, PAR, List.length_nil]
   rw [ih (fun q hq => hr q (List.mem_cons_of_mem _ hq))]
   omega
 have z2 := pl l h2
 unfold comB comL endL
 rw [mk_size]
 simp only [List.length_append, List.length_cons, size_of, List.length_nil]
 omega
theorem com_back (h : checkB t l an am aq az cn cm cq cz x = 0) : parseB (comB t l an am aq az cn cm cq cz x) = (t, l, an, am, aq, az, cn, cm, cq, cz, x, 0) := by
 obtain ⟨⟨h1, h2, h3, h4, h5⟩, h6, h7⟩ := com_zero t l an am aq az cn cm cq cz x h
 have hsz := (comB_size t l an am aq az cn cm cq cz x h).2
 have e0 : (comB t l an am aq az cn cm cq cz x).data.toList = TRE ++ (t.data.toList ++ 10 :: (parsL l ++ endL (whoL an.data.toList am.data.toList aq az) (whoL cn.data.toList cm.data.toList cq cz) x.data.toList)) := mk_data _
 generalize comB t l an am aq az cn cm cq cz x = s at *
 have e1 : k1 s = (t.data.toList, parsL l ++ endL (whoL an.data.toList am.data.toList aq az) (whoL cn.data.toList cm.data.toList cq cz) x.data.toList, true) := by
  unfold k1
  rw [e0]
  exact lineF_of TRE _ _ (by decide) (idOk_no10 h1)
 have e2 : kp s = (l, endL (whoL an.data.toList am.data.toList aq az) (whoL cn.data.toList cm.data.toList cq cz) x.data.toList, true) := by
  unfold kp
  rw [e1]
  exact parF_back _ _ _ hsz h2 (endL_no _ _ _)
 have e3 : kA s = (whoL an.data.toList am.data.toList aq az, COM ++ (whoL cn.data.toList cm.data.toList cq cz ++ 10 :: (10 :: x.data.toList)), true) := by
  unfold kA
  rw [e2]
  exact lineF_of AUT _ _ (by decide) (who_no10 h3)
 have e4 : kC s = (whoL cn.data.toList cm.data.toList cq cz, 10 :: x.data.toList, true) := by
  unfold kC
  rw [e3]
  exact lineF_of COM _ _ (by decide) (who_no10 h4)
 have e5 : kE s = ([], x.data.toList, true) := by unfold kE; rw [e4]; exact lineF_cons _
 have eA : kWA s = (an, am, aq, az, 0) := by unfold kWA; rw [e3]; exact who_back an am aq az h3
 have eC : kWC s = (cn, cm, cq, cz, 0) := by unfold kWC; rw [e4]; exact who_back cn cm cq cz h4
 have eK : kCheck s = 0 := by
  unfold kCheck
  rw [e1, e2, e5, eA, eC]
  show checkB (mk t.data.toList) l an am aq az cn cm cq cz (mk x.data.toList) = 0
  rw [mk_of, mk_of]; exact h
 have hg : kGood s := by
  unfold kGood
  rw [e1, e2, e3, e4, e5, eA, eC]
  refine ⟨rfl, ?_, rfl, rfl, show (0 : Int) ≠ 2 by decide, rfl, show (0 : Int) ≠ 2 by decide, rfl, rfl⟩
  show idOk (mk t.data.toList) = true
  rw [mk_of]; exact h1
 unfold parseB
 rw [if_pos hg, eA, eC]
 show (if (0 : Int) = 1 ∨ (0 : Int) = 1 then _ else if kCheck s = 0 then _ else _) = _
 rw [if_neg (by decide), if_pos eK, e1, e2, e5]
 show (mk t.data.toList, l, an, am, aq, az, cn, cm, cq, cz, mk x.data.toList, (0 : Int)) = _
 rw [mk_of, mk_of]
end
theorem same_l0 (a b : List ByteArray) (hl : a.length = b.length) (hb : a.length ≤ 140737488351232) : ∀ (d i : Nat), i + d = a.length → Ev (fun k => graftageref06_Same.l0 k a b i) (decide (a.drop i = b.drop i))
 | 0, i, h => by
  rw [List.drop_of_length_le (by omega), List.drop_of_length_le (by omega)]
  exact Ev.step (f := ?_) (fun k => by rw [graftageref06_Same.l0, if_neg (by omega)]) (Ev.now _)
 | d + 1, i, h => by
  have hi : i < a.length := by omega
  have hj : i < b.length := by omega
  refine Ev.step (f := ?_) (fun k => by rw [graftageref06_Same.l0, if_pos (by omega), if_pos (by omega), if_pos (by omega), rd_ext a i hi, rd_ext b i hj, w_succ i (by omega)]) ?_
  rw [List.drop_eq_getElem_cons hi, List.drop_eq_getElem_cons hj]
  refine ev_ite (fun g => ev_eq (same_l0 a b hl hb d (i + 1) (by omega)) ?_) (fun g => ev_eq (Ev.now _) ?_)
  ·have e : a[i] = b[i] := ba_ext (by rw [← ByteArray.toList_eq, ← ByteArray.toList_eq]; exact g)
   rw [e]
   exact decide_eq_decide.2 ⟨fun z => by rw [z], fun z => (List.cons.inj z).2⟩
  ·exact (decide_eq_false (fun z => g (by rw [(List.cons.inj z).1]))).symm
theorem same_ev (a b : List ByteArray) (hb : a.length ≤ 140737488351232) : Ev (fun k => graftageref06_Same.f k a b) (decide (a = b)) := by
 refine ev_ite (fun g => ?_) (fun g => ev_eq (Ev.now _) ?_)
 ·exact same_l0 a b (by omega) hb a.length 0 (by omega)
 ·exact (decide_eq_false (fun z => g (by rw [z]))).symm
theorem Same_ev (c d : ByteArray × List ByteArray × ByteArray × ByteArray × Int × Int × ByteArray × ByteArray × Int × Int × ByteArray) (hc : c.2.1.length ≤ 140737488351232) (r : Bool) (hr : r = true ↔ c = d) :
  Ev (fun k => graftageref16_Same.f k c.1 c.2.1 c.2.2.1 c.2.2.2.1 c.2.2.2.2.1 c.2.2.2.2.2.1 c.2.2.2.2.2.2.1 c.2.2.2.2.2.2.2.1 c.2.2.2.2.2.2.2.2.1 c.2.2.2.2.2.2.2.2.2.1 c.2.2.2.2.2.2.2.2.2.2 d.1 d.2.1 d.2.2.1 d.2.2.2.1 d.2.2.2.2.1 d.2.2.2.2.2.1 d.2.2.2.2.2.2.1 d.2.2.2.2.2.2.2.1 d.2.2.2.2.2.2.2.2.1 d.2.2.2.2.2.2.2.2.2.1 d.2.2.2.2.2.2.2.2.2.2) r := by
 obtain ⟨t, l, an, am, aq, az, cn, cm, cq, cz, x⟩ := c
 obtain ⟨t', l', an', am', aq', az', cn', cm', cq', cz', x'⟩ := d
 simp only [Prod.mk.injEq] at hr
 dsimp only
 have tl : ∀ a b : ByteArray, a.toList = b.toList ↔ a = b := fun a b => ⟨fun e => ba_ext (by rw [← ByteArray.toList_eq, ← ByteArray.toList_eq]; exact e), fun e => by rw [e]⟩
 have no : ∀ {P : Prop}, ¬ P → (r = true → P) → Ev (fun _ => some false) r := fun h1 h2 => ev_eq (Ev.now _) (Bool.eq_false_iff.2 (fun e => h1 (h2 e))).symm
 refine ev_ite (fun g1 => ?_) (fun g1 => no g1 (fun e => by rw [(hr.1 e).1]))
 refine ev_ite (fun g2 => ?_) (fun g2 => no g2 (fun e => by obtain ⟨-, -, e5, e6, e7, e8, -⟩ := hr.1 e; rw [e5, e6, e7, e8]; simp))
 refine ev_ite (fun g3 => ?_) (fun g3 => no g3 (fun e => by obtain ⟨-, -, -, -, -, -, e5, e6, e7, e8, -⟩ := hr.1 e; rw [e5, e6, e7, e8]; simp))
 refine ev_ite (fun g4 => ?_) (fun g4 => no g4 (fun e => by rw [(hr.1 e).2.2.2.2.2.2.2.2.2.2]))
 refine Ev.bind (same_ev l l' hc) (ev_eq (Ev.now _) ?_)
 simp only [Bool.and_eq_true, beq_iff_eq] at g2 g3
 rw [Bool.eq_iff_iff, decide_eq_true_eq, hr]
 exact ⟨fun e => ⟨(tl _ _).1 g1, e, (tl _ _).1 g2.1, (tl _ _).1 g2.2.1, g2.2.2.1, g2.2.2.2, (tl _ _).1 g3.1, (tl _ _).1 g3.2.1, g3.2.2.1, g3.2.2.2, (tl _ _).1 g4⟩, fun e => e.2.1⟩
attribute [local go_sem] max2_int min2_int max_two min_two max_three min_three max_four min_four
def graftageref15_one.T10 : Bool × List (List Nat × List Nat) := (true, [([], []), ([], []), ([], []), ([], []), ([1, 2, 3], [1, 2, 3]), ([], []), ([], []), ([6], [6]), ([], []), ([8], [8]), ([5, 7, 9], [5, 7, 9]), ([10], [10]), ([0, 4, 11], [0, 4, 11]), ([], []), ([13], [13]), ([12, 11, 0, 1, 2, 3, 4, 5, 6, 7, 8, 9, 10, 11, 12], [12]), ([14, 15, 0, 1, 2, 3, 4, 5, 6, 7, 8, 9, 10, 11, 12, 13, 14, 15], [14]), ([16, 0, 1, 2, 3, 4, 5, 6, 7, 8, 9, 10, 11, 12, 13, 14, 15, 16], [])])
def graftageref15_one.B10 : List Nat := [0, 0, 0, 0, 14, 0, 0, 64, 0, 256, 992, 2016, 4095, 0, 8192, 8191, 65535, 131071]
theorem graftageref15_one.tab10 : rtab .any (opsOf Tryz.f152 10) = graftageref15_one.T10 := by kernel_rfl
theorem graftageref15_one.bits10 : waitsOk graftageref15_one.T10.2 graftageref15_one.B10 = true := by kernel_rfl
end Go.Proofs.YtbhfbbfjdklfgaaGreatDoor.Q
namespace Go.Proofs.YtbhfbbfjdklfgaaGreatDoor.Q.Tr
open Go.RowKit Go.Proofs.YtbhfbbfjdklfgaaGreatDoor.Q Go.Proofs.YtbhfbbfjdklfgaaGreatDoorW.PrintWords Go.Proofs.YtbhfbbfjdklfgaaGreatDoorW.PrintLast Go.Proofs.YtbhfbbfjdklfgaaGreatDoorW.PrintMore
theorem ev_ite {α : Type} {c : Prop} [Decidable c] {f g : Nat → Option α} {r : α} (h1 : c → Ev f r) (h2 : ¬ c → Ev g r) : Ev (fun k => if c then f k else g k) r := by
  by_cases h : c
  · simp only [if_pos h]; exact h1 h
  · simp only [if_neg h]; exact h2 h
theorem rd108_get (l : List S108) (i : Nat) (h : i < l.length) : rd_T108 l i = l[i] := by
  simp [rd_T108, List.getD, List.getElem?_eq_getElem h]
theorem index_byte (c : UInt8) : ∀ l : List UInt8, Lib.index l [c] = Lib.indexByte l c
  | [] => rfl
  | b :: l => by
    have ih := index_byte c l
    by_cases h : b = c
    · subst h
      rw [index_cons_hit (by simp [List.isPrefixOf])]
      simp [Lib.indexByte]
    · rw [index_cons_ne b c l h, ih]
      simp [Lib.indexByte, h]
theorem path_size0 {s : ByteArray} (h : isPath s = true) : s.size ≤ 255 := by
  unfold isPath at h
  simp only [Bool.and_eq_true, decide_eq_true_eq] at h
  exact h.1.2
def no47 (s : ByteArray) : Bool := decide (Lib.indexByte s.data.toList 47 < 0)
def mayB (e : S108) : Bool := decide (1 ≤ e.f0) && (decide (e.f0 ≤ 4) && (isPath e.f1 && (no47 e.f1 && idOk e.f2)))
theorem may_ev (e : S108) : Ev (fun k => tree_may.f k e.f0 e.f1 e.f2) (mayB e) := by
  unfold mayB
  refine ev_ite (fun h1 => ev_ite (fun h2 => ?_) (fun h2 => ?_)) (fun h1 => ?_)
  · rw [decide_eq_true (show 1 ≤ e.f0 from h1), decide_eq_true h2, Bool.true_and, Bool.true_and]
    refine Ev.bind (path_Is_ev e.f1) (ev_ite (fun h3 => ?_) (fun h3 => ?_))
    · rw [h3, Bool.true_and]
      have hc : strings_Contains2.f e.f1 ⟨#[47]⟩ = some (!no47 e.f1) := by
        unfold strings_Contains2.f Lib.contains
        rw [if_pos (by have := path_size0 h3; omega)]
        unfold no47
        show some (decide (0 ≤ Lib.index e.f1.data.toList [47])) = _
        rw [index_byte]
        congr 1
        rw [← decide_not]
        apply decide_eq_decide.2
        omega
      rw [hc]
      simp only [Option.bind_some]
      by_cases h4 : no47 e.f1 = true
      · simp only [h4, Bool.not_true, Bool.false_eq_true, if_false, Bool.true_and]
        exact Ev.bind (ident_Is_ev e.f2) (Ev.now _)
      · rw [Bool.not_eq_true] at h4
        simp only [h4, Bool.not_false, if_true, Bool.false_and]
        exact Ev.now _
    · rw [Bool.not_eq_true] at h3
      rw [h3, Bool.false_and]; exact Ev.now _
  · rw [decide_eq_false (show ¬ e.f0 ≤ 4 from h2), Bool.false_and, Bool.and_false]; exact Ev.now _
  · rw [decide_eq_false (show ¬ 1 ≤ e.f0 from h1), Bool.false_and]; exact Ev.now _
def keyB (m : Int) (s : ByteArray) : ByteArray := if m = 4 then s ++ ⟨#[47]⟩ else s
def lessB (a b : S108) : Bool := Op.bytesLess (keyB a.f0 a.f1).toList (keyB b.f0 b.f1).toList
theorem key_eq (m : Int) (s i : ByteArray) (hs : s.size ≤ 140737488351232) : tree_key.f m s i = some (keyB m s) := by
  unfold tree_key.f keyB
  by_cases h : m = 4
  · rw [if_pos h, if_pos h, if_pos (by omega)]
  · rw [if_neg h, if_neg h]
theorem Less_eq (a b : S108) (ha : a.f1.size ≤ 140737488351232) (hb : b.f1.size ≤ 140737488351232) : tree_Less.f a.f0 a.f1 a.f2 b.f0 b.f1 b.f2 = some (lessB a b) := by
  unfold tree_Less.f lessB
  rw [key_eq _ _ _ ha]
  simp only [Option.bind_some]
  rw [key_eq _ _ _ hb]
  rfl
def z108' : S108 := ⟨0, ⟨#[]⟩, ⟨#[]⟩⟩
def at108 (l : List S108) (i : Nat) : S108 := rd_T108 l i
def cnt (l : List S108) (x : List UInt8) : Nat → Int
  | 0 => 0
  | n + 1 => cnt l x n + (if (at108 l n).f1.data.toList = x then 1 else 0)
theorem cnt_ge (l : List S108) (x : List UInt8) : ∀ n, 0 ≤ cnt l x n ∧ cnt l x n ≤ n
  | 0 => by simp [cnt]
  | n + 1 => by
    have := cnt_ge l x n
    unfold cnt
    split <;> omega
def dupF (l : List S108) (x : List UInt8) : Nat → Bool
  | 0 => false
  | n + 1 => dupF l x n || decide ((at108 l n).f1.data.toList = x)
theorem cnt_dup (l : List S108) (x : List UInt8) : ∀ n, decide (0 < cnt l x n) = dupF l x n
  | 0 => by simp [cnt, dupF]
  | n + 1 => by
    have ih := cnt_dup l x n
    have := cnt_ge l x n
    rw [cnt, dupF, ← ih]
    by_cases h : (at108 l n).f1.data.toList = x
    · rw [if_pos h, decide_eq_true h, Bool.or_true, decide_eq_true (by omega)]
    · rw [if_neg h, decide_eq_false h, Bool.or_false, Int.add_zero]
def cF (l : List S108) : Nat → Nat → Int
  | 0, _ => 0
  | d + 1, i => if mayB (at108 l i) = false then 1 else if (decide (0 < i) && !lessB (at108 l (i - 1)) (at108 l i)) = true then 150 else if dupF l (at108 l i).f1.data.toList i = true then 6 else cF l d (i + 1)
def checkB (l : List S108) : Int := if l.length > 1024 then 4 else cF l l.length 0
structure MetI (l : List S108) (N : Nat) (m : MSI) : Prop where
  hn : m.n = N
  hf : ∀ x, (m.f x).getD 0 = cnt l x N
theorem MetI.put {l : List S108} {n : Nat} {m : MSI} (h : MetI l n m) (hn : n ≤ 1024) : MetI l (n + 1) (MSI.put m (at108 l n).f1 (wrap64 (MSI.get m (at108 l n).f1 + 1))) := by
  refine ⟨by simp [MSI.put, h.hn], fun x => ?_⟩
  have hc := cnt_ge l x n
  have hg : MSI.get m (at108 l n).f1 = cnt l (at108 l n).f1.data.toList n := h.hf _
  have hc2 := cnt_ge l (at108 l n).f1.data.toList n
  rw [hg, wrap_id (by omega) (by omega)]
  simp only [MSI.put]
  by_cases e : x = (at108 l n).f1.data.toList
  · rw [if_pos e, cnt, if_pos e.symm, e]; rfl
  · rw [if_neg e, cnt, if_neg (fun h => e h.symm), Int.add_zero]; exact h.hf x
theorem at_size (l : List S108) (hs : ∀ x ∈ l, x.f1.size ≤ 4294967280) (hn : l.length ≤ 1024) (i : Nat) (h : i < l.length) : (at108 l i).f1.size ≤ 4294967280 := by
  unfold at108; rw [rd108_get l i h]; exact hs _ (List.getElem_mem h)
section
variable (l : List S108) (hs : ∀ x ∈ l, x.f1.size ≤ 4294967280) (hn : l.length ≤ 1024)
include hs hn
theorem Check_l0 : ∀ (d i : Nat) (m : MSI), i + d = l.length → MetI l i m → Ev (fun k => tree_Check.l0 k l l l.length i m) (cF l d i) := by
  intro d
  induction d with
  | zero =>
    intro i m hi hm
    exact Ev.step (f := fun _ => some 0) (fun k => by rw [tree_Check.l0, if_neg (by omega)]) (Ev.now _)
  | succ d ih =>
    intro i m hi hm
    have hsz := at_size l hs hn i (by omega)
    have e0 : rd_T108 l (i : Int) = at108 l i := rfl
    refine Ev.step (f := fun k => (tree_may.f k (at108 l i).f0 (at108 l i).f1 (at108 l i).f2).bind fun t104 => (if t104 = true then (if (i : Int) > 0 then (if 0 ≤ (wrap64 ((i : Int) - 1)) then (if (wrap64 ((i : Int) - 1)) < (l.length : Int) then ((tree_Less.f ((rd_T108 l (wrap64 ((i : Int) - 1))).f0) ((rd_T108 l (wrap64 ((i : Int) - 1))).f1) ((rd_T108 l (wrap64 ((i : Int) - 1))).f2) (at108 l i).f0 (at108 l i).f1 (at108 l i).f2).bind fun t106 => (tree_Check.j1 k l l l.length i (!t106) (MSI.put m (at108 l i).f1 (wrap64 (MSI.get m (at108 l i).f1 + 1))) (at108 l i).f0 (at108 l i).f1 (at108 l i).f2)) else none) else none) else (tree_Check.j1 k l l l.length i false (MSI.put m (at108 l i).f1 (wrap64 (MSI.get m (at108 l i).f1 + 1))) (at108 l i).f0 (at108 l i).f1 (at108 l i).f2)) else (some 1))) (fun k => ?_) ?_
    · rw [tree_Check.l0, if_pos (by omega), if_pos (by omega), if_pos (by omega), e0, if_pos (by omega), if_pos (by rw [hm.hn]; omega)]
    · refine Ev.bind (may_ev (at108 l i)) ?_
      rw [cF]
      by_cases hmay : mayB (at108 l i) = true
      · simp only [hmay, if_true, Bool.true_eq_false, if_false]
        have hput := hm.put (by omega)
        have hJ : ∀ b : Bool, Ev (fun k => tree_Check.j1 k l l l.length i b (MSI.put m (at108 l i).f1 (wrap64 (MSI.get m (at108 l i).f1 + 1))) (at108 l i).f0 (at108 l i).f1 (at108 l i).f2) (if b = true then 150 else if dupF l (at108 l i).f1.data.toList i = true then 6 else cF l d (i + 1)) := by
          intro b
          refine Ev.step (f := fun k => if b = true then some 150 else (if MSI.get (MSI.put m (at108 l i).f1 (wrap64 (MSI.get m (at108 l i).f1 + 1))) (at108 l i).f1 > 1 then some 6 else tree_Check.l0 k l l l.length ((i : Int) + 1) (MSI.put m (at108 l i).f1 (wrap64 (MSI.get m (at108 l i).f1 + 1))))) (fun k => ?_) ?_
          · rw [tree_Check.j1, if_pos (show (at108 l i).f1.size ≤ 9223372036854775807 by omega), wrap_id (x := (i : Int) + 1) (by omega) (by omega)]
          · have hg : MSI.get (MSI.put m (at108 l i).f1 (wrap64 (MSI.get m (at108 l i).f1 + 1))) (at108 l i).f1 = cnt l (at108 l i).f1.data.toList (i + 1) := hput.hf _
            rw [hg, cnt, if_pos rfl, ← cnt_dup]
            refine ev_ite (fun hb => ?_) (fun hb => ?_)
            · rw [if_pos hb]; exact Ev.now _
            · rw [if_neg hb]
              refine ev_ite (fun hc => ?_) (fun hc => ?_)
              · rw [if_pos (decide_eq_true (by omega))]; exact Ev.now _
              · rw [if_neg (by rw [decide_eq_true_eq]; omega)]
                exact_mod_cast ih (i + 1) _ (by omega) hput
        refine ev_ite (fun h0 => ?_) (fun h0 => ?_)
        · have e1 : wrap64 ((i : Int) - 1) = ((i - 1 : Nat) : Int) := by rw [wrap_id (by omega) (by omega)]; omega
          have hsz1 := at_size l hs hn (i - 1) (by omega)
          rw [e1]
          refine Ev.congr (f := fun k => tree_Check.j1 k l l l.length i (!lessB (at108 l (i - 1)) (at108 l i)) (MSI.put m (at108 l i).f1 (wrap64 (MSI.get m (at108 l i).f1 + 1))) (at108 l i).f0 (at108 l i).f1 (at108 l i).f2) (fun k => ?_) ?_
          · rw [if_pos (by omega), if_pos (by omega)]
            have := Less_eq (at108 l (i - 1)) (at108 l i) (by omega) (by omega)
            unfold at108 at this ⊢
            rw [this]; rfl
          · have := hJ (!lessB (at108 l (i - 1)) (at108 l i))
            rw [decide_eq_true (show 0 < i by omega), Bool.true_and]
            exact this
        · have := hJ false
          rw [decide_eq_false (show ¬ 0 < i by omega), Bool.false_and]
          exact this
      · rw [Bool.not_eq_true] at hmay
        simp only [hmay, Bool.false_eq_true, if_false, if_true]
        exact Ev.now _
end
theorem metI0 (l : List S108) : MetI l 0 MSI.nil := ⟨rfl, fun x => rfl⟩
theorem Check_ev (l : List S108) (hs : ∀ x ∈ l, x.f1.size ≤ 4294967280) : Ev (fun k => tree_Check.f k l) (checkB l) := by
  unfold checkB
  refine ev_ite (fun h => ?_) (fun h => ?_)
  · rw [if_pos (by omega)]; exact Ev.now _
  · rw [if_neg (by omega)]
    exact_mod_cast Check_l0 l hs (by omega) l.length 0 MSI.nil (by omega) (metI0 l)
section
variable (l : List S108) (hs : ∀ x ∈ l, x.f1.size ≤ 4294967280) (hn : l.length ≤ 1024)
include hs hn
end
def dgB (m : Int) : ByteArray := if m = 1 then ⟨#[49, 48, 48, 54, 52, 52, 32]⟩ else if m = 2 then ⟨#[49, 48, 48, 55, 53, 53, 32]⟩ else if m = 3 then ⟨#[49, 50, 48, 48, 48, 48, 32]⟩ else if m = 4 then ⟨#[52, 48, 48, 48, 48, 32]⟩ else ⟨#[]⟩
theorem digits_eq (m : Int) : tree_digits.f m = some (dgB m) := by
  unfold tree_digits.f dgB
  by_cases h1 : m = 1
  · rw [if_pos h1, if_pos h1]
  rw [if_neg h1, if_neg h1]
  by_cases h2 : m = 2
  · rw [if_pos h2, if_pos h2]
  rw [if_neg h2, if_neg h2]
  by_cases h3 : m = 3
  · rw [if_pos h3, if_pos h3]
  rw [if_neg h3, if_neg h3]
  by_cases h4 : m = 4
  · rw [if_pos h4, if_pos h4]
  rw [if_neg h4, if_neg h4]
def pre (a b : ByteArray) : Bool := decide (b.size ≤ a.size) && ((a.extract 0 b.size).toList == b.toList)
theorem HasPrefix_eq (a b : ByteArray) : strings_HasPrefix.f a b = some (pre a b) := by
  unfold strings_HasPrefix.f stringslite_HasPrefix.f pre
  by_cases h : b.size ≤ a.size
  · rw [if_pos (by omega), if_pos (by omega), if_pos (by omega), decide_eq_true h, Bool.true_and]; rfl
  · rw [if_neg (by omega), decide_eq_false h, Bool.false_and]; rfl
theorem pre_size {a b : ByteArray} (h : pre a b = true) : b.size ≤ a.size := by
  unfold pre at h
  rw [Bool.and_eq_true, decide_eq_true_eq] at h
  exact h.1
theorem CutPrefix_eq (a b : ByteArray) : strings_CutPrefix.f a b = some (if pre a b = true then (a.extract b.size a.size, true) else (a, false)) := by
  unfold strings_CutPrefix.f stringslite_CutPrefix.f
  have := HasPrefix_eq a b
  unfold strings_HasPrefix.f at this
  have h2 : stringslite_HasPrefix.f a b = some (pre a b) := by simpa using this
  rw [h2]
  simp only [Option.bind_some]
  by_cases h : pre a b = true
  · have := pre_size h
    rw [if_pos h, if_pos h, if_pos (by omega), if_pos (by omega)]; rfl
  · rw [if_neg h, if_neg h]; rfl
def modeB (s : ByteArray) : Int × Int :=
  if pre s (dgB 1) = true then (1, 0) else if pre s (dgB 2) = true then (2, 0) else if pre s (dgB 3) = true then (3, 0) else if pre s (dgB 4) = true then (4, 0)
  else if (pre (dgB 1) s || pre (dgB 2) s || pre (dgB 3) s || pre (dgB 4) s) = true then (0, 3) else (0, 2)
def modeR (s : ByteArray) : Int × ByteArray × Int := if (modeB s).2 = 0 then ((modeB s).1, s.extract (dgB (modeB s).1).size s.size, 0) else (0, ⟨#[]⟩, (modeB s).2)
theorem mode_ev (s : ByteArray) : Ev (fun k => tree_mode.f k s) (modeR s) := by
  refine Ev.of (fun k => tree_mode.mono s k) (k := 6) ?_
  have w1 : wrap64 (1 + 1) = 2 := wrap_id (by omega) (by omega)
  have w2 : wrap64 (2 + 1) = 3 := wrap_id (by omega) (by omega)
  have w3 : wrap64 (3 + 1) = 4 := wrap_id (by omega) (by omega)
  have w4 : wrap64 (4 + 1) = 5 := wrap_id (by omega) (by omega)
  have step : ∀ (k : Nat) (b : Bool) (m : Int), m ≤ 4 → tree_mode.l0 (k + 1) s b m = if pre s (dgB m) = true then some (m, s.extract (dgB m).size s.size, 0) else tree_mode.l0 k s (b || pre (dgB m) s) (wrap64 (m + 1)) := by
    intro k b m hm
    rw [tree_mode.l0, if_pos hm, digits_eq]
    simp only [Option.bind_some, CutPrefix_eq]
    by_cases h : pre s (dgB m) = true
    · simp only [if_pos h, if_true]
    · simp only [if_neg h, Bool.false_eq_true, if_false, HasPrefix_eq, Option.bind_some]
      cases b with
      | true => rw [if_pos rfl, Bool.true_or]
      | false => rw [if_neg (by decide), Bool.false_or]
  unfold tree_mode.f
  rw [step 5 _ 1 (by omega), w1, step 4 _ 2 (by omega), w2, step 3 _ 3 (by omega), w3, step 2 _ 4 (by omega), w4, tree_mode.l0, if_neg (show ¬ (5 : Int) ≤ 4 by omega)]
  unfold modeR modeB
  simp only [Bool.false_or]
  by_cases h1 : pre s (dgB 1) = true
  · simp only [if_pos h1, if_true]
  by_cases h2 : pre s (dgB 2) = true
  · simp only [if_neg h1, if_pos h2, if_true]
  by_cases h3 : pre s (dgB 3) = true
  · simp only [if_neg h1, if_neg h2, if_pos h3, if_true]
  by_cases h4 : pre s (dgB 4) = true
  · simp only [if_neg h1, if_neg h2, if_neg h3, if_pos h4, if_true]
  simp only [if_neg h1, if_neg h2, if_neg h3, if_neg h4]
  by_cases h5 : (pre (dgB 1) s || pre (dgB 2) s || pre (dgB 3) s || pre (dgB 4) s) = true
  · simp only [if_pos h5]; rfl
  · simp only [if_neg h5]; rfl
theorem modeB_ok {s : ByteArray} (h : (modeB s).2 = 0) : 1 ≤ (modeB s).1 ∧ (modeB s).1 ≤ 4 ∧ pre s (dgB (modeB s).1) = true := by
  unfold modeB at h ⊢
  by_cases h1 : pre s (dgB 1) = true
  · simp [h1]
  by_cases h2 : pre s (dgB 2) = true
  · simp [h1, h2]
  by_cases h3 : pre s (dgB 3) = true
  · simp [h1, h2, h3]
  by_cases h4 : pre s (dgB 4) = true
  · simp [h1, h2, h3, h4]
  simp only [if_neg h1, if_neg h2, if_neg h3, if_neg h4] at h
  split at h <;> simp at h
theorem dgB_ge {m : Int} (h1 : 1 ≤ m) (h4 : m ≤ 4) : 6 ≤ (dgB m).size := by
  have : m = 1 ∨ m = 2 ∨ m = 3 ∨ m = 4 := by omega
  rcases this with rfl | rfl | rfl | rfl <;> decide
theorem ext_ext (s : ByteArray) (a b i j : Nat) (hj : j ≤ b - a) : (s.extract a b).extract i j = s.extract (a + i) (a + j) := by
  apply ba_ext
  rw [Lib.extract_data, Lib.extract_data, Lib.extract_data, List.drop_take, List.take_take, List.drop_drop]
  congr 1
  omega
theorem ext_at (s : ByteArray) (a b i j c d : Nat) (hj : j ≤ b - a) (hc : a + i = c) (hd : a + j = d) : (s.extract a b).extract i j = s.extract c d := by
  subst hc hd
  exact ext_ext s a b i j hj
theorem extract_size (s : ByteArray) (a b : Nat) (h : b ≤ s.size) : (s.extract a b).size = b - a := by
  rw [Lib.size_eq, Lib.extract_data, List.length_take, List.length_drop, ← Lib.size_eq]; omega
theorem extract_all (s : ByteArray) (a : Nat) : (s.extract a s.size).data.toList = s.data.toList.drop a := by
  rw [Lib.extract_data, List.take_of_length_le (by rw [List.length_drop, ← Lib.size_eq]; exact Nat.le_refl _)]
def cutAt (s : ByteArray) : Int := Lib.indexByte (s.data.toList.drop (dgB (modeB s).1).size) 0
def stepB (s : ByteArray) : Int × S108 × ByteArray :=
  if (modeB s).2 = 0 then
    (if cutAt s = -1 ∨ s.size < (dgB (modeB s).1).size + (cutAt s).toNat + 21 then (3, z108', ⟨#[]⟩)
     else (0, ⟨(modeB s).1, s.extract (dgB (modeB s).1).size ((dgB (modeB s).1).size + (cutAt s).toNat), hexB (s.extract ((dgB (modeB s).1).size + (cutAt s).toNat + 1) ((dgB (modeB s).1).size + (cutAt s).toNat + 21))⟩, s.extract ((dgB (modeB s).1).size + (cutAt s).toNat + 21) s.size))
  else ((modeB s).2, z108', ⟨#[]⟩)
theorem indexByte_lt : ∀ (l : List UInt8) (c : UInt8), Lib.indexByte l c < l.length ∨ l = []
  | [], _ => .inr rfl
  | b :: r, c => by
    left
    rw [Lib.indexByte]
    rcases indexByte_lt r c with h | h
    · split
      · simp
      · split
        · simp; omega
        · simp; omega
    · subst h
      split
      · simp
      · simp [Lib.indexByte]
theorem cutAt_lt (s : ByteArray) (h : (modeB s).2 = 0) : -1 ≤ cutAt s ∧ cutAt s + (dgB (modeB s).1).size < s.size + 1 := by
  have h1 := pre_size (modeB_ok h).2.2
  have hge := Lib.indexByte_ge (s.data.toList.drop (dgB (modeB s).1).size) 0
  refine ⟨hge, ?_⟩
  unfold cutAt
  rcases indexByte_lt (s.data.toList.drop (dgB (modeB s).1).size) 0 with h2 | h2
  · rw [List.length_drop, ← Lib.size_eq] at h2; omega
  · rw [h2]; simp [Lib.indexByte]; omega
theorem Cut_eq (s : ByteArray) (hs : s.size ≤ 4294967000) : strings_Cut.f s ⟨#[0]⟩ = some (if Lib.indexByte s.data.toList 0 = -1 then (s, ⟨#[]⟩, false) else (s.extract 0 (Lib.indexByte s.data.toList 0).toNat, s.extract ((Lib.indexByte s.data.toList 0).toNat + 1) s.size, true)) := by
  rw [Q.Cut_eq s ⟨#[0]⟩ (by omega)]
  congr 1
  show (mk (Lib.cut s.data.toList [0]).1, mk (Lib.cut s.data.toList [0]).2.1, (Lib.cut s.data.toList [0]).2.2) = _
  have hge := Lib.indexByte_ge s.data.toList 0
  by_cases h : Lib.indexByte s.data.toList 0 = -1
  · rw [cut_no (by rw [index_byte]; omega), if_pos h, mk_of]; rfl
  · have hl := size_of s
    rw [cut_of (by rw [index_byte]; omega), if_neg h, index_byte, ext_mk, ext_mk, List.drop_zero, Nat.sub_zero]
    have e : ((s.data.toList.drop ((Lib.indexByte s.data.toList 0).toNat + 1)).take (s.size - ((Lib.indexByte s.data.toList 0).toNat + 1))) = s.data.toList.drop ((Lib.indexByte s.data.toList 0).toNat + 1) := List.take_of_length_le (by rw [List.length_drop]; omega)
    rw [e]; rfl
def endB (acc : List S108) : List S108 × Int := if checkB acc = 0 then (acc, 0) else ([], checkB acc)
def parseF : Nat → ByteArray → List S108 → List S108 × Int
  | 0, _, acc => endB acc
  | d + 1, s, acc => if s.toList = [] then endB acc else if (stepB s).1 = 0 then parseF d (stepB s).2.2 (acc ++ [(stepB s).2.1]) else ([], (stepB s).1)
theorem step_ok {s : ByteArray} (h : (stepB s).1 = 0) : (modeB s).2 = 0 ∧ ¬ (cutAt s = -1 ∨ s.size < (dgB (modeB s).1).size + (cutAt s).toNat + 21) := by
  unfold stepB at h
  by_cases h0 : (modeB s).2 = 0
  · refine ⟨h0, fun hc => ?_⟩
    simp only [if_pos h0, if_pos hc] at h
    simp at h
  · simp only [if_neg h0] at h
    exact absurd h h0
theorem step_rest {s : ByteArray} (h : (stepB s).1 = 0) : (stepB s).2.2.size + 27 ≤ s.size ∧ (stepB s).2.1.f1.size ≤ s.size := by
  obtain ⟨h0, hc⟩ := step_ok h
  obtain ⟨m1, m4, mp⟩ := modeB_ok h0
  have hd := dgB_ge m1 m4
  have hq := cutAt_lt s h0
  unfold stepB
  simp only [if_pos h0, if_neg hc]
  rw [extract_size _ _ _ (Nat.le_refl _), extract_size _ _ _ (by omega)]
  omega
theorem size_nil {s : ByteArray} (h : s.size = 0) : s.toList = [] := by
  rw [Lib.toList_data]; rw [Lib.size_eq] at h; exact List.eq_nil_of_length_eq_zero h
theorem end_ev (acc : List S108) (ha : ∀ x ∈ acc, x.f1.size ≤ 100000) : Ev (fun k => (tree_Check.f k acc).bind fun t113 => (if t113 = 0 then (some (acc, (0 : Int))) else (some (([] : List (S108)), t113)))) (endB acc) := by
  refine Ev.bind (Check_ev acc (fun x hx => by have := ha x hx; omega)) ?_
  unfold endB
  refine ev_ite (fun h => ?_) (fun h => ?_)
  · rw [if_pos h]; exact Ev.now _
  · rw [if_neg h]; exact Ev.now _
theorem Parse_l0 : ∀ (d : Nat) (s : ByteArray) (acc : List S108), s.size ≤ d → d + acc.length ≤ 100000 → s.size ≤ 100000 → (∀ x ∈ acc, x.f1.size ≤ 100000) → Ev (fun k => tree_Parse.l0 k s acc) (parseF d s acc) := by
  intro d
  induction d with
  | zero =>
    intro s acc hd hl hs ha
    refine Ev.step (f := fun k => (tree_Check.f k acc).bind fun t113 => (if t113 = 0 then (some (acc, 0)) else (some (([] : List (S108)), t113)))) (fun k => by rw [tree_Parse.l0, if_pos (size_nil (by omega))]) (end_ev acc ha)
  | succ d ih =>
    intro s acc hd hl hs ha
    rw [parseF]
    by_cases hn : s.toList = []
    · rw [if_pos hn]
      refine Ev.step (f := fun k => (tree_Check.f k acc).bind fun t113 => (if t113 = 0 then (some (acc, 0)) else (some (([] : List (S108)), t113)))) (fun k => by rw [tree_Parse.l0, if_pos hn]) (end_ev acc ha)
    · rw [if_neg hn]
      refine Ev.step (f := fun k => (tree_mode.f k s).bind fun bt114 => (if bt114.2.2 = 0 then ((strings_Cut.f bt114.2.1 (⟨#[0]⟩ : ByteArray)).bind fun bt117 => (if bt117.2.2 = true then (if (bt117.2.1.size : Int) < 20 then (some (([] : List (S108)), 3)) else (if 0 ≤ 20 then (if 20 ≤ (bt117.2.1.size : Int) then ((ident_Hex.f k (bt117.2.1.extract 0 20)).bind fun t120 => (if acc.length < 3518437208883 then (tree_Parse.l0 k (bt117.2.1.extract 20 bt117.2.1.size) (acc ++ [(⟨bt114.1, bt117.1, t120⟩ : S108)])) else (none))) else (none)) else (none))) else (some (([] : List (S108)), 3)))) else (some (([] : List (S108)), bt114.2.2)))) (fun k => by rw [tree_Parse.l0, if_neg hn]) ?_
      refine Ev.bind (mode_ev s) ?_
      unfold modeR
      by_cases h0 : (modeB s).2 = 0
      · obtain ⟨m1, m4, mp⟩ := modeB_ok h0
        have hp := pre_size mp
        obtain ⟨hc0, hc1⟩ := cutAt_lt s h0
        have hrs : (s.extract (dgB (modeB s).1).size s.size).size = s.size - (dgB (modeB s).1).size := extract_size _ _ _ (Nat.le_refl _)
        simp only [if_pos h0, if_true]
        rw [Cut_eq _ (by omega), extract_all]
        have hcut : Lib.indexByte (s.data.toList.drop (dgB (modeB s).1).size) 0 = cutAt s := rfl
        rw [hcut]
        simp only [Option.bind_some]
        by_cases hc : cutAt s = -1
        · simp only [if_pos hc, Bool.false_eq_true, if_false]
          have : (stepB s).1 = 3 := by unfold stepB; simp only [if_pos h0, hc, true_or, if_true]
          rw [if_neg (by omega), this]
          exact Ev.now _
        · simp only [if_neg hc, if_true]
          have hes : ((s.extract (dgB (modeB s).1).size s.size).extract ((cutAt s).toNat + 1) (s.extract (dgB (modeB s).1).size s.size).size) = s.extract ((dgB (modeB s).1).size + (cutAt s).toNat + 1) s.size := by
            rw [hrs, ext_ext _ _ _ _ _ (Nat.le_refl _)]
            congr 1; omega
          rw [hes, extract_size _ _ _ (Nat.le_refl _)]
          by_cases hl2 : s.size < (dgB (modeB s).1).size + (cutAt s).toNat + 21
          · have : (stepB s).1 = 3 := by unfold stepB; simp only [if_pos h0, hc, false_or, if_pos hl2]
            rw [if_neg (show ¬ (stepB s).1 = 0 by omega), this]
            refine Ev.congr (f := fun _ => some (([] : List S108), 3)) (fun k => by rw [if_pos (by omega)]) (Ev.now _)
          · have hst : stepB s = (0, ⟨(modeB s).1, s.extract (dgB (modeB s).1).size ((dgB (modeB s).1).size + (cutAt s).toNat), hexB (s.extract ((dgB (modeB s).1).size + (cutAt s).toNat + 1) ((dgB (modeB s).1).size + (cutAt s).toNat + 21))⟩, s.extract ((dgB (modeB s).1).size + (cutAt s).toNat + 21) s.size) := by
              unfold stepB; simp only [if_pos h0, hc, false_or, if_neg hl2]
            have hr := step_rest (s := s) (by rw [hst])
            have e20 : (s.extract ((dgB (modeB s).1).size + (cutAt s).toNat + 1) s.size).extract 0 20 = s.extract ((dgB (modeB s).1).size + (cutAt s).toNat + 1) ((dgB (modeB s).1).size + (cutAt s).toNat + 21) := ext_at _ _ _ _ _ _ _ (by omega) (by omega) (by omega)
            have eR : (s.extract ((dgB (modeB s).1).size + (cutAt s).toNat + 1) s.size).extract 20 (s.size - ((dgB (modeB s).1).size + (cutAt s).toNat + 1)) = s.extract ((dgB (modeB s).1).size + (cutAt s).toNat + 21) s.size := ext_at _ _ _ _ _ _ _ (Nat.le_refl _) (by omega) (by omega)
            have eN : (s.extract (dgB (modeB s).1).size s.size).extract 0 (cutAt s).toNat = s.extract (dgB (modeB s).1).size ((dgB (modeB s).1).size + (cutAt s).toNat) := ext_at _ _ _ _ _ _ _ (by omega) (by omega) (by omega)
            refine Ev.congr (f := fun k => (ident_Hex.f k (s.extract ((dgB (modeB s).1).size + (cutAt s).toNat + 1) ((dgB (modeB s).1).size + (cutAt s).toNat + 21))).bind fun t120 => (tree_Parse.l0 k (s.extract ((dgB (modeB s).1).size + (cutAt s).toNat + 21) s.size) (acc ++ [(⟨(modeB s).1, s.extract (dgB (modeB s).1).size ((dgB (modeB s).1).size + (cutAt s).toNat), t120⟩ : S108)]))) (fun k => ?_) ?_
            · rw [if_neg (by omega), if_pos (by omega), if_pos (by omega), e20, eR, eN]
              congr 1
              funext t
              rw [if_pos (by omega)]
            · refine Ev.bind (ident_Hex_ev _ (by rw [extract_size _ _ _ (by omega)]; omega)) ?_
              rw [hst] at hr ⊢
              simp only at hr
              simp only [if_true]
              refine ih _ _ (by omega) (by rw [List.length_append, List.length_singleton]; omega) (by omega) (fun x hx => ?_)
              rcases List.mem_append.1 hx with hx | hx
              · exact ha x hx
              · rw [List.mem_singleton.1 hx]; exact Nat.le_trans hr.2 hs
      · have hst : (stepB s).1 = (modeB s).2 := by unfold stepB; simp only [if_neg h0]
        simp only [if_neg h0]
        rw [if_neg (by rw [hst]; exact h0), hst]
        exact Ev.now _
theorem Parse_ev (s : ByteArray) (hs : s.size ≤ 100000) : Ev (fun k => tree_Parse.f k s) (parseF s.size s []) :=
  Parse_l0 s.size s [] (Nat.le_refl _) (by simpa using hs) hs (by simp)
theorem endB_len (acc : List S108) : (endB acc).1.length ≤ acc.length := by
  unfold endB; split <;> simp
theorem parseF_len : ∀ (d : Nat) (s : ByteArray) (acc : List S108), (parseF d s acc).1.length ≤ acc.length + d
  | 0, s, acc => by rw [parseF]; have := endB_len acc; omega
  | d + 1, s, acc => by
    rw [parseF]
    split
    · have := endB_len acc; omega
    · split
      · have := parseF_len d (stepB s).2.2 (acc ++ [(stepB s).2.1])
        rw [List.length_append, List.length_singleton] at this
        omega
      · simp
end Go.Proofs.YtbhfbbfjdklfgaaGreatDoor.Q.Tr
namespace Go.Proofs.YtbhfbbfjdklfgaaGreatDoor.Q
open Go.Proofs.Tryz Go.RowKit Go.Proofs.YtbhfbbfjdklfgaaGreatDoorW.PrintWords Go.Proofs.YtbhfbbfjdklfgaaGreatDoorW.PrintLast Go.Proofs.YtbhfbbfjdklfgaaGreatDoorW.PrintMore
attribute [local go_sem] max2_int min2_int max_two min_two max_three min_three max_four min_four
end Go.Proofs.YtbhfbbfjdklfgaaGreatDoor.Q
namespace Go.Proofs.YtbhfbbfjdklfgaaGreatDoor.Q
open Go.Proofs.Tryz Go.RowKit Go.Proofs.YtbhfbbfjdklfgaaGreatDoorW.PrintWords Go.Proofs.YtbhfbbfjdklfgaaGreatDoorW.PrintLast Go.Proofs.YtbhfbbfjdklfgaaGreatDoorW.PrintMore
attribute [local go_sem] max2_int min2_int max_two min_two max_three min_three max_four min_four
def graftageref14_Bytes.T4 : Bool × List (List Nat × List Nat) := (true, [([], []), ([0], [0]), ([1], [1]), ([2], [2]), ([], []), ([4], [4]), ([5], [5]), ([6, 2], [6]), ([3, 7], [3, 7]), ([8], [8]), ([], []), ([10], [10]), ([9, 11], [9, 11]), ([12, 7, 0, 1, 2, 3, 4, 5, 6, 7, 8, 9, 10, 11, 12], [12]), ([13, 0, 1, 2, 3, 4, 5, 6, 7, 8, 9, 10, 11, 12, 13], [])])
def graftageref14_Bytes.B4 : List Nat := [0, 1, 3, 7, 0, 16, 48, 119, 255, 511, 0, 1024, 4095, 8191, 16383]
theorem graftageref14_Bytes.tab4 : rtab .any (opsOf Tryz.f98 4) = graftageref14_Bytes.T4 := by kernel_rfl
theorem graftageref14_Bytes.bits4 : waitsOk graftageref14_Bytes.T4.2 graftageref14_Bytes.B4 = true := by kernel_rfl
theorem ev_opt {α : Type} {o : Option α} {r : α} (h : o = some r) : Ev (fun _ => o) r := by subst h; exact Ev.now _
def bytesE (a : Int) : Int := if (wordB a).toList = ([] : List UInt8) then 140 else 0
theorem Bytes_eq (a : Int) (s : ByteArray) (hs : s.size ≤ 8000) : ∃ b, object_Bytes.f a s = some (b, bytesE a) := by
 unfold object_Bytes.f bytesE
 rw [Word_eq, Option.bind_some]
 by_cases h : (wordB a).toList = ([] : List UInt8)
 ·exact ⟨_, by rw [if_pos h, if_pos h]⟩
 ·have hw := word_size a
  have hi := itoa_len (s.size : Int) (by omega) (by omega)
  refine ⟨((((wordB a) ++ (⟨#[32]⟩ : ByteArray)) ++ mk (Lib.itoa (s.size : Int))) ++ (⟨#[0]⟩ : ByteArray)) ++ s, ?_⟩
  rw [if_neg h, if_neg h, if_neg (by omega), if_pos (by omega), Itoa_eq _ (by omega) (by omega), Option.bind_some]
  have s1 : (⟨#[32]⟩ : ByteArray).size = 1 := rfl
  have s2 : (⟨#[0]⟩ : ByteArray).size = 1 := rfl
  have s3 : (mk (Lib.itoa (s.size : Int))).size ≤ 20 := by rw [mk_size]; exact hi
  simp only [ByteArray.size_append, s1, s2]
  rw [if_pos (by omega), if_pos (by omega), if_pos (by omega)]
def treeB (s : ByteArray) : List S108 × Int := Tr.parseF s.size s []
def wholeB (a : Int) (s : ByteArray) : Int := if bytesE a = 0 then (if a = 2 then (treeB s).2 else if a = 3 then (parseB s).2.2.2.2.2.2.2.2.2.2.2 else if a = 4 then (parseTagB s).2.2.2.2.2.2.2.2 else 0) else bytesE a
theorem Whole_ev (a : Int) (s : ByteArray) (hs : s.size ≤ 8000) : Ev (fun k => commit_Whole.f k a s) (wholeB a s) := by
 obtain ⟨b, hb⟩ := Bytes_eq a s hs
 refine Ev.bind (ev_opt hb) ?_
 unfold wholeB
 by_cases h : bytesE a = 0
 ·rw [h, if_pos rfl]
  refine ev_yes rfl (ev_ite (fun h2 => ?_) (fun h2 => ev_ite (fun h3 => ?_) (fun h3 => ev_ite (fun h4 => ?_) (fun h4 => ?_))))
  ·rw [if_pos h2]; exact Ev.bind (Tr.Parse_ev s (by omega)) (Ev.now _)
  ·rw [if_neg h2, if_pos h3]; exact Ev.bind (Parse_ev s (by omega)) (Ev.now _)
  ·rw [if_neg h2, if_neg h3, if_pos h4]; exact Ev.bind (ParseTag_ev s (by omega)) (Ev.now _)
  ·rw [if_neg h2, if_neg h3, if_neg h4]; exact Ev.now _
 ·rw [if_neg h]; exact ev_no h (Ev.now _)
def hasB (l : List ByteArray) (x : ByteArray) : Bool := decide (x.data.toList ∈ l.map fun p => p.data.toList)
def uniqB : List ByteArray → List ByteArray → List ByteArray
 | out, [] => out
 | out, x :: r => if hasB out x = true then uniqB out r else uniqB (out ++ [x]) r
theorem uniqB_len : ∀ (r out : List ByteArray), (uniqB out r).length ≤ out.length + r.length
 | [], out => Nat.le_refl _
 | x :: r, out => by
  rw [uniqB]
  split
  ·have := uniqB_len r out; rw [List.length_cons]; omega
  ·have := uniqB_len r (out ++ [x]); rw [List.length_append] at this; simp only [List.length_cons, List.length_nil] at this ⊢; omega
theorem has_drop (l : List ByteArray) (x : ByteArray) (i : Nat) (h : i < l.length) : hasB (l.drop i) x = (decide (x.data.toList = l[i].data.toList) || hasB (l.drop (i + 1)) x) := by
 unfold hasB
 rw [List.drop_eq_getElem_cons h, List.map_cons]
 by_cases g : x.data.toList = l[i].data.toList
 ·rw [decide_eq_true g, Bool.true_or]; exact decide_eq_true (List.mem_cons.2 (Or.inl g))
 ·rw [decide_eq_false g, Bool.false_or]
  exact decide_eq_decide.2 ⟨fun q => (List.mem_cons.1 q).resolve_left g, fun q => List.mem_cons.2 (Or.inr q)⟩
theorem has_nil (x : ByteArray) : hasB [] x = false := rfl
theorem idx_l0 (l : List ByteArray) (x : ByteArray) (hl : l.length ≤ 140737488351232) : ∀ (d i : Nat), i + d = l.length → ∃ r : Int, Ev (fun k => slices_Index_string_string.l0 k l x (l.length : Int) i) r ∧ decide (r ≥ 0) = hasB (l.drop i) x
 | 0, i, h => ⟨-1, Ev.step (f := ?_) (fun k => by rw [slices_Index_string_string.l0, if_neg (by omega)]) (Ev.now _), by rw [List.drop_of_length_le (by omega), has_nil]; rfl⟩
 | d + 1, i, h => by
  have hi : i < l.length := by omega
  rw [has_drop l x i hi]
  by_cases g : x.data.toList = l[i].data.toList
  ·exact ⟨(i : Int), Ev.step (f := ?_) (fun k => by rw [slices_Index_string_string.l0, if_pos (by omega), if_pos (by omega), if_pos (by omega), rd_ext l i hi, if_pos (by rw [ByteArray.toList_eq, ByteArray.toList_eq]; exact g)]) (Ev.now _), by rw [decide_eq_true g, Bool.true_or]; exact decide_eq_true (by omega)⟩
  ·obtain ⟨r, h1, h2⟩ := idx_l0 l x hl d (i + 1) (by omega)
   exact ⟨r, Ev.step (f := ?_) (fun k => by rw [slices_Index_string_string.l0, if_pos (by omega), if_pos (by omega), if_pos (by omega), rd_ext l i hi, if_neg (by rw [ByteArray.toList_eq, ByteArray.toList_eq]; exact g), w_succ i (by omega)]) h1, by rw [decide_eq_false g, Bool.false_or]; exact h2⟩
theorem contains_ev (l : List ByteArray) (x : ByteArray) (hl : l.length ≤ 140737488351232) : Ev (fun k => slices_Contains_string_string.f k l x) (hasB l x) := by
 obtain ⟨r, h1, h2⟩ := idx_l0 l x hl l.length 0 (by omega)
 exact Ev.bind h1 (ev_eq (Ev.now _) h2)
theorem uniq_l1 (l : List ByteArray) (hl : l.length ≤ 1000000) : ∀ (u : List ByteArray) (i : Nat) (out : List ByteArray), l.drop i = u → out.length ≤ i → Ev (fun k => commit_Links.l1 k out l (l.length : Int) i) (uniqB out u, 0)
 | [], i, out, hu, ho => by
  have hi : l.length ≤ i := by have := congrArg List.length hu; rw [List.length_drop] at this; simp at this; omega
  exact Ev.step (f := ?_) (fun k => by rw [commit_Links.l1, if_neg (by omega)]) (Ev.now _)
 | x :: r, i, out, hu, ho => by
  have hi : i < l.length := by have := congrArg List.length hu; rw [List.length_drop, List.length_cons] at this; omega
  rw [List.drop_eq_getElem_cons hi] at hu
  obtain ⟨e1, e2⟩ := List.cons.inj hu
  refine Ev.step (f := ?_) (fun k => by rw [commit_Links.l1, if_pos (by omega), if_pos (by omega), if_pos (by omega), rd_ext l i hi, w_succ i (by omega)]) ?_
  rw [e1, uniqB]
  refine Ev.bind (contains_ev out x (by omega)) (ev_ite (fun g => ?_) (fun g => ?_))
  ·rw [if_pos g]; exact uniq_l1 l hl r (i + 1) out e2 (by omega)
  ·rw [if_neg g]
   exact ev_yes (by omega) (uniq_l1 l hl r (i + 1) (out ++ [x]) e2 (by rw [List.length_append]; simp only [List.length_cons, List.length_nil]; omega))
theorem uniq_ev (l : List ByteArray) (hl : l.length ≤ 1000000) : Ev (fun k => commit_Links.j1 k l) (uniqB [] l, 0) :=
 Ev.step (f := ?_) (fun k => by rw [commit_Links.j1]) (uniq_l1 l hl l 0 [] List.drop_zero (Nat.zero_le _))
theorem ids_l0 (l : List S108) (hl : l.length ≤ 100000) : ∀ (u : List S108) (i : Nat) (acc : List ByteArray), l.drop i = u → acc.length ≤ i → i ≤ l.length → Ev (fun k => commit_Links.l0 k acc l (l.length : Int) i) (uniqB [] (acc ++ u.map fun e => e.f2), 0)
 | [], i, acc, hu, ha, hb => by
  have hi : l.length ≤ i := by have := congrArg List.length hu; rw [List.length_drop] at this; simp at this; omega
  rw [List.map_nil, List.append_nil]
  exact Ev.step (f := ?_) (fun k => by rw [commit_Links.l0, if_neg (by omega)]) (uniq_ev acc (by omega))
 | x :: r, i, acc, hu, ha, hb => by
  have hi : i < l.length := by have := congrArg List.length hu; rw [List.length_drop, List.length_cons] at this; omega
  rw [List.drop_eq_getElem_cons hi] at hu
  obtain ⟨e1, e2⟩ := List.cons.inj hu
  refine Ev.step (f := ?_) (fun k => by rw [commit_Links.l0, if_pos (by omega), if_pos (by omega), if_pos (by omega), Tr.rd108_get l i hi, w_succ i (by omega)]) ?_
  rw [e1]
  refine ev_yes (by omega) (ev_eq (ids_l0 l hl r (i + 1) (acc ++ [x.f2]) e2 (by rw [List.length_append]; simp only [List.length_cons, List.length_nil]; omega) (by omega)) ?_)
  rw [List.append_assoc]; rfl
def linksB (a : Int) (s : ByteArray) : List ByteArray × Int := if wholeB a s = 0 then (uniqB [] (if a = 2 then (treeB s).1.map (fun e => e.f2) else if a = 3 then (parseB s).1 :: (parseB s).2.1 else if a = 4 then [(parseTagB s).1] else []), 0) else ([], wholeB a s)
theorem parse_num (s : ByteArray) : (parseB s).2.1.length ≤ s.size := by
 have h := parF_num s.size (k1 s).2.1
 change (kp s).1.length ≤ _ at h
 unfold parseB
 split
 ·split
  ·exact Nat.zero_le _
  ·split
   ·exact h
   ·exact Nat.zero_le _
 ·exact Nat.zero_le _
theorem tree_num (s : ByteArray) : (treeB s).1.length ≤ s.size := by
 have := Tr.parseF_len s.size s []
 unfold treeB
 simpa using this
theorem Links_ev (a : Int) (s : ByteArray) (hs : s.size ≤ 8000) : Ev (fun k => commit_Links.f k a s) (linksB a s) := by
 have hp := parse_num s
 have ht := tree_num s
 refine Ev.bind (Whole_ev a s hs) ?_
 unfold linksB
 refine ev_ite (fun h => ?_) (fun h => ?_)
 ·rw [if_pos h]
  refine ev_ite (fun h2 => ?_) (fun h2 => ev_ite (fun h3 => ?_) (fun h3 => ev_ite (fun h4 => ?_) (fun h4 => ?_)))
  ·rw [if_pos h2]; exact Ev.bind (Tr.Parse_ev s (by omega)) (ids_l0 (treeB s).1 (by omega) _ 0 [] List.drop_zero (Nat.zero_le _) (Nat.zero_le _))
  ·rw [if_neg h2, if_pos h3]
   refine Ev.bind (Parse_ev s (by omega)) ?_
   simp only [Option.bind_some]
   exact ev_yes (by simp only [List.length_cons, List.length_nil]; omega) (uniq_ev _ (by simp only [List.length_append, List.length_cons, List.length_nil]; omega))
  ·rw [if_neg h2, if_neg h3, if_pos h4]; exact Ev.bind (ParseTag_ev s (by omega)) (uniq_ev _ (by simp))
  ·rw [if_neg h2, if_neg h3, if_neg h4]; exact uniq_ev _ (by simp)
 ·rw [if_neg h]; exact Ev.now _
theorem links_num (a : Int) (s : ByteArray) (hs : s.size ≤ 8000) : (linksB a s).1.length ≤ 140737488351232 := by
 have hp := parse_num s
 have ht := tree_num s
 unfold linksB
 split
 ·refine Nat.le_trans (uniqB_len _ _) ?_
  rw [List.length_nil, Nat.zero_add]
  split
  ·rw [List.length_map]; omega
  ·split
   ·rw [List.length_cons]; omega
   ·split <;> simp
 ·exact Nat.zero_le _
end Go.Proofs.YtbhfbbfjdklfgaaGreatDoor.Q
namespace Go.Proofs.YtbhfbbfjdklfgaaGreatDoor.Pure
open Go.RowKit Go.Proofs.YtbhfbbfjdklfgaaGreatDoor.Q Go.Proofs.YtbhfbbfjdklfgaaGreatDoorW.PrintWords Go.Proofs.YtbhfbbfjdklfgaaGreatDoorW.PrintLast Go.Proofs.YtbhfbbfjdklfgaaGreatDoorW.PrintMore
theorem bytesE_ok (a : Int) (h : 1 ≤ a ∧ a ≤ 4) : bytesE a = 0 := by
 unfold bytesE
 exact if_neg (fun e => (word_none a).1 e h)
def wantF (t : ByteArray) : List ByteArray → List ByteArray → List ByteArray
 | acc, [] => acc
 | acc, p :: r => if p.toList = t.toList then wantF t acc r else wantF t (acc ++ [p]) r
theorem uniq_want (t : ByteArray) : ∀ (l : List ByteArray) (seen : List (List UInt8)) (out : List ByteArray), dupL seen l = false → hasB out t = true → (∀ q ∈ out, q.data.toList = t.data.toList ∨ q.data.toList ∈ seen) → uniqB out l = wantF t out l
 | [], seen, out, _, _, _ => rfl
 | p :: r, seen, out, hd, ht, hs => by
  rw [dupL, Bool.or_eq_false_iff, decide_eq_false_iff_not] at hd
  rw [uniqB, wantF, ByteArray.toList_eq, ByteArray.toList_eq]
  by_cases e : p.data.toList = t.data.toList
  ·have hp : hasB out p = true := by unfold hasB at ht ⊢; rw [e]; exact ht
   rw [if_pos hp, if_pos e]
   refine uniq_want t r (seen ++ [p.data.toList]) out hd.2 ht (fun q hq => ?_)
   exact (hs q hq).imp id (fun z => List.mem_append.2 (Or.inl z))
  ·have hp : hasB out p = false := by
    unfold hasB
    refine decide_eq_false (fun z => ?_)
    obtain ⟨q, hq, eq⟩ := List.mem_map.1 z
    rcases hs q hq with w | w
    ·exact e (eq.symm.trans w)
    ·exact hd.1 (eq ▸ w)
   rw [hp, if_neg (by decide), if_neg e]
   refine uniq_want t r (seen ++ [p.data.toList]) (out ++ [p]) hd.2 ?_ (fun q hq => ?_)
   ·unfold hasB at ht ⊢
    rw [decide_eq_true_eq] at ht ⊢
    rw [List.map_append]
    exact List.mem_append.2 (Or.inl ht)
   ·rcases List.mem_append.1 hq with w | w
    ·exact (hs q w).imp id (fun z => List.mem_append.2 (Or.inl z))
    ·have : q = p := by simpa using w
     exact Or.inr (List.mem_append.2 (Or.inr (by rw [this]; exact List.mem_singleton.2 rfl)))
section
variable (o : ByteArray) (a : Int) (g n m : ByteArray) (tt z : Int) (y : ByteArray)
theorem tagB_size (h : checkTagB o a g n m tt z y = 0) : (tagB o a g n m tt z y).size ≤ 8000 := by
 obtain ⟨z1, z2, z3, z4, z5⟩ := tag_sizes h
 unfold whoB at z4
 rw [mk_size] at z4
 unfold tagB tagL
 rw [mk_size]
 simp only [List.length_append, List.length_cons, size_of, List.length_nil]
 omega
theorem tag_links (h : checkTagB o a g n m tt z y = 0) : linksB 4 (tagB o a g n m tt z y) = ([o], 0) := by
 have hw : wholeB 4 (tagB o a g n m tt z y) = 0 := by
  unfold wholeB
  rw [if_pos (bytesE_ok 4 (by decide)), if_neg (by decide), if_neg (by decide), if_pos rfl, tag_back o a g n m tt z y h]
 unfold linksB
 rw [if_pos hw, if_neg (by decide), if_neg (by decide), if_pos rfl, tag_back o a g n m tt z y h]
 rfl
theorem names_j3 (hg : g.size ≤ 140737488351232) (hn : n.size ≤ 140737488351232) (hm : m.size ≤ 140737488351232) (hy : y.size < 4294967281) : Ev (fun k => graftagelaw16_CommitNames.j3 k false o a g n m tt z y) true := by
 refine Ev.step (f := ?_) (fun k => by rw [graftagelaw16_CommitNames.j3, if_neg (by decide)]) ?_
 refine Ev.bind (TagBody_ev o a g n m tt z y hg hn hm hy) ?_
 by_cases h : checkTagB o a g n m tt z y = 0
 ·have e : tagBodyB o a g n m tt z y = (tagB o a g n m tt z y, 0) := by unfold tagBodyB; rw [if_pos h]
  rw [e]
  refine ev_yes rfl ?_
  refine Ev.bind (Links_ev 4 _ (tagB_size o a g n m tt z y h)) (Ev.bind lives16 (ev_yes rfl ?_))
  rw [tag_links o a g n m tt z y h]
  refine ev_yes rfl (ev_yes rfl (ev_yes (show (0 : Int) < 1 by decide) (ev_eq (Ev.now _) ?_)))
  have hr : rdOf ByteArray.empty [o] 0 = o := rd_ext [o] 0 (by simp)
  show ((rdOf ByteArray.empty [o] 0).toList == o.toList) = true
  rw [hr]
  simp
 ·have e : (tagBodyB o a g n m tt z y).2 = checkTagB o a g n m tt z y := by unfold tagBodyB; rw [if_neg h]
  rw [e]
  exact ev_no h liveOr16
variable (t : ByteArray) (l : List ByteArray) (an am : ByteArray) (aq az : Int) (cn cm : ByteArray) (cq cz : Int) (x : ByteArray)
variable (t' : ByteArray) (l' : List ByteArray) (an' am' : ByteArray) (aq' az' : Int) (cn' cm' : ByteArray) (cq' cz' : Int) (x' : ByteArray)
theorem com_dup (h : checkB t l an am aq az cn cm cq cz x = 0) : dupL [] l = false := by
 unfold checkB at h
 split at h
 ·split at h
  ·cases h
  ·split at h
   ·cases h
   ·rename_i q; simpa using q
 ·cases h
theorem com_links (h : checkB t l an am aq az cn cm cq cz x = 0) : linksB 3 (comB t l an am aq az cn cm cq cz x) = (wantF t [t] l, 0) := by
 have hw : wholeB 3 (comB t l an am aq az cn cm cq cz x) = 0 := by
  unfold wholeB
  rw [if_pos (bytesE_ok 3 (by decide)), if_neg (by decide), if_pos rfl, com_back t l an am aq az cn cm cq cz x h]
 have ht : hasB [t] t = true := by unfold hasB; exact decide_eq_true (List.mem_singleton.2 rfl)
 unfold linksB
 rw [if_pos hw, if_neg (by decide), if_pos rfl, com_back t l an am aq az cn cm cq cz x h]
 show (uniqB [] (t :: l), (0 : Int)) = _
 rw [uniqB, has_nil, if_neg (by decide), List.nil_append, uniq_want t l [] [t] (com_dup t l an am aq az cn cm cq cz x h) ht (fun q hq => Or.inl (by rw [List.mem_singleton.1 hq]))]
theorem body_two (b e : ByteArray × Int) (hb : b = bodyB t l an am aq az cn cm cq cz x) (he : e = bodyB t' l' an' am' aq' az' cn' cm' cq' cz' x') (h1 : b.2 = 0) (h2 : e.2 = 0) :
  (b.1.toList == e.1.toList) = true ↔ (t, l, an, am, aq, az, cn, cm, cq, cz, x) = (t', l', an', am', aq', az', cn', cm', cq', cz', x') := by
 have c1 : checkB t l an am aq az cn cm cq cz x = 0 := by
  rw [hb] at h1; unfold bodyB at h1
  split at h1
  ·assumption
  ·exact h1
 have c2 : checkB t' l' an' am' aq' az' cn' cm' cq' cz' x' = 0 := by
  rw [he] at h2; unfold bodyB at h2
  split at h2
  ·assumption
  ·exact h2
 have e1 : b = (comB t l an am aq az cn cm cq cz x, 0) := by rw [hb]; unfold bodyB; rw [if_pos c1]
 have e2 : e = (comB t' l' an' am' aq' az' cn' cm' cq' cz' x', 0) := by rw [he]; unfold bodyB; rw [if_pos c2]
 rw [e1, e2, beq_iff_eq]
 constructor
 ·intro q
  have q' : comB t l an am aq az cn cm cq cz x = comB t' l' an' am' aq' az' cn' cm' cq' cz' x' := ba_ext (by rw [← ByteArray.toList_eq, ← ByteArray.toList_eq]; exact q)
  have k1 := com_back t l an am aq az cn cm cq cz x c1
  rw [q', com_back t' l' an' am' aq' az' cn' cm' cq' cz' x' c2] at k1
  simp only [Prod.mk.injEq] at k1 ⊢
  obtain ⟨a1, a2, a3, a4, a5, a6, a7, a8, a9, a10, a11, -⟩ := k1
  exact ⟨a1.symm, a2.symm, a3.symm, a4.symm, a5.symm, a6.symm, a7.symm, a8.symm, a9.symm, a10.symm, a11.symm⟩
 ·intro q
  simp only [Prod.mk.injEq] at q
  obtain ⟨a1, a2, a3, a4, a5, a6, a7, a8, a9, a10, a11⟩ := q
  subst a1 a2 a3 a4 a5 a6 a7 a8 a9 a10 a11
  rfl
theorem names_j2 (hg : g.size ≤ 140737488351232) (hn : n.size ≤ 140737488351232) (hm : m.size ≤ 140737488351232) (hy : y.size < 4294967281) (hl : l.length ≤ 140737488351232) (b e : ByteArray × Int) (hb : b = bodyB t l an am aq az cn cm cq cz x) (he : e = bodyB t' l' an' am' aq' az' cn' cm' cq' cz' x') :
  Ev (fun k => graftagelaw16_CommitNames.j2 k b.1 b.2 e.1 e.2 t l an am aq az cn cm cq cz x t' l' an' am' aq' az' cn' cm' cq' cz' x' o a g n m tt z y) true := by
 have h3 := names_j3 o a g n m tt z y hg hn hm hy
 refine Ev.step (f := ?_) (fun k => by rw [graftagelaw16_CommitNames.j2]) (ev_ite (fun h1 => ev_ite (fun h2 => ?_) (fun _ => h3)) (fun _ => h3))
 refine Ev.bind (Same_ev (t, l, an, am, aq, az, cn, cm, cq, cz, x) (t', l', an', am', aq', az', cn', cm', cq', cz', x') hl (b.1.toList == e.1.toList) (body_two t l an am aq az cn cm cq cz x t' l' an' am' aq' az' cn' cm' cq' cz' x' b e hb he h1 h2)) ?_
 rw [show ((b.1.toList == e.1.toList) != (b.1.toList == e.1.toList)) = false by simp]
 exact h3
theorem names_l0 (hl : l.length ≤ 1000000) (b b' : ByteArray) (c' : Int) (W : List ByteArray) (hW : W.length ≤ 140737488351232) (hj : Ev (fun k => graftagelaw16_CommitNames.j2 k b 0 b' c' t l an am aq az cn cm cq cz x t' l' an' am' aq' az' cn' cm' cq' cz' x' o a g n m tt z y) true) :
  ∀ (u : List ByteArray) (i : Nat) (acc : List ByteArray), l.drop i = u → acc.length ≤ i + 1 → wantF t acc u = W →
  Ev (fun k => graftagelaw16_CommitNames.l0 k b 0 b' c' W 0 acc i t l an am aq az cn cm cq cz x t' l' an' am' aq' az' cn' cm' cq' cz' x' o a g n m tt z y) true
 | [], i, acc, hu, ha, hw => by
  have hi : l.length ≤ i := by have := congrArg List.length hu; rw [List.length_drop] at this; simp at this; omega
  rw [wantF] at hw
  subst hw
  have hs := same_ev acc acc hW
  rw [decide_eq_true rfl] at hs
  exact Ev.step (f := ?_) (fun k => by rw [graftagelaw16_CommitNames.l0, if_neg (by omega), if_pos rfl]) (Ev.bind hs (ev_yes rfl hj))
 | p :: r, i, acc, hu, ha, hw => by
  have hi : i < l.length := by have := congrArg List.length hu; rw [List.length_drop, List.length_cons] at this; omega
  rw [List.drop_eq_getElem_cons hi] at hu
  obtain ⟨e1, e2⟩ := List.cons.inj hu
  refine Ev.step (f := ?_) (fun k => by rw [graftagelaw16_CommitNames.l0, if_pos (by omega), if_pos (by omega), rd_ext l i hi, w_succ i (by omega)]) ?_
  rw [e1]
  rw [wantF] at hw
  refine ev_ite (fun q => ?_) (fun q => ?_)
  ·rw [if_pos q] at hw
   exact names_l0 hl b b' c' W hW hj r (i + 1) acc e2 (by omega) hw
  ·rw [if_neg q] at hw
   exact ev_yes (by omega) (names_l0 hl b b' c' W hW hj r (i + 1) (acc ++ [p]) e2 (by rw [List.length_append]; simp only [List.length_cons, List.length_nil]; omega) hw)
theorem names_ev (hl : l.length ≤ 140737488351232) (hl' : l'.length ≤ 140737488351232) (hn : an.size ≤ 140737488351232) (hm : am.size ≤ 140737488351232) (hcn : cn.size ≤ 140737488351232) (hcm : cm.size ≤ 140737488351232)
  (hn' : an'.size ≤ 140737488351232) (hm' : am'.size ≤ 140737488351232) (hcn' : cn'.size ≤ 140737488351232) (hcm' : cm'.size ≤ 140737488351232) (hg : g.size ≤ 140737488351232) (hgn : n.size ≤ 140737488351232) (hgm : m.size ≤ 140737488351232) :
  Ev (fun k => graftagelaw16_CommitNames.f k t l an am aq az cn cm cq cz x t' l' an' am' aq' az' cn' cm' cq' cz' x' o a g n m tt z y) true := by
 have big : Ev (fun k => graftagelaw16_CommitNames.j0 k true t l an am aq az cn cm cq cz x t' l' an' am' aq' az' cn' cm' cq' cz' x' o a g n m tt z y) true :=
  Ev.step (f := ?_) (fun k => by rw [graftagelaw16_CommitNames.j0, if_pos rfl]) liveOr16
 refine ev_ite (fun _ => big) (fun g1 => ev_ite (fun _ => big) (fun g2 => ev_ite (fun _ => big) (fun g3 => ev_ite (fun _ => big) (fun g4 => ?_))))
 by_cases g5 : (y.size : Int) > 5000
 ·rw [decide_eq_true g5]; exact big
 rw [decide_eq_false g5]
 have hx : x.size < 4294967281 := by omega
 have hx' : x'.size < 4294967281 := by omega
 have hy : y.size < 4294967281 := by omega
 refine Ev.step (f := ?_) (fun k => by rw [graftagelaw16_CommitNames.j0, if_neg (by decide)]) ?_
 refine Ev.bind (Body_ev t l an am aq az cn cm cq cz x hl hn hm hcn hcm hx) (Ev.bind (Body_ev t' l' an' am' aq' az' cn' cm' cq' cz' x' hl' hn' hm' hcn' hcm' hx') ?_)
 have hj := names_j2 o a g n m tt z y t l an am aq az cn cm cq cz x t' l' an' am' aq' az' cn' cm' cq' cz' x' hg hgn hgm hy hl _ _ rfl rfl
 refine ev_ite (fun h => ?_) (fun h => hj)
 have hc : checkB t l an am aq az cn cm cq cz x = 0 := by
  unfold bodyB at h
  split at h
  ·assumption
  ·exact h
 have e : bodyB t l an am aq az cn cm cq cz x = (comB t l an am aq az cn cm cq cz x, 0) := by unfold bodyB; rw [if_pos hc]
 rw [e] at hj ⊢
 have hsz := (comB_size t l an am aq az cn cm cq cz x hc).1
 refine Ev.bind (Links_ev 3 _ (by show (comB t l an am aq az cn cm cq cz x).size ≤ 8000; omega)) ?_
 have hnum := links_num 3 (comB t l an am aq az cn cm cq cz x) (by omega)
 rw [com_links t l an am aq az cn cm cq cz x hc] at hnum
 show Ev (fun k => graftagelaw16_CommitNames.l0 k (comB t l an am aq az cn cm cq cz x) 0 _ _ (linksB 3 (comB t l an am aq az cn cm cq cz x)).1 (linksB 3 (comB t l an am aq az cn cm cq cz x)).2 [t] 0 t l an am aq az cn cm cq cz x t' l' an' am' aq' az' cn' cm' cq' cz' x' o a g n m tt z y) true
 rw [com_links t l an am aq az cn cm cq cz x hc]
 exact names_l0 o a g n m tt z y t l an am aq az cn cm cq cz x t' l' an' am' aq' az' cn' cm' cq' cz' x' (by omega) _ _ _ _ hnum hj l 0 [t] List.drop_zero (by simp) rfl
end
theorem CommitNames : ∀ (y0 : S26), ∀ (y1 : S26), ∀ (y2 : S37), (y0.f0.size ≤ 140737488351232 ∧ (y0.f1.length * 16 ≤ 140737488351232 ∧ ∀ y_y0f1 ∈ y0.f1, y_y0f1.size ≤ 140737488351232) ∧ (y0.f2.f0.size ≤ 140737488351232 ∧ y0.f2.f1.size ≤ 140737488351232 ∧ (Lit.int .i64 y0.f2.f2).wf = true ∧ (Lit.int .i64 y0.f2.f3).wf = true) ∧ (y0.f3.f0.size ≤ 140737488351232 ∧ y0.f3.f1.size ≤ 140737488351232 ∧ (Lit.int .i64 y0.f3.f2).wf = true ∧ (Lit.int .i64 y0.f3.f3).wf = true) ∧ y0.f4.size ≤ 140737488351232) → (y1.f0.size ≤ 140737488351232 ∧ (y1.f1.length * 16 ≤ 140737488351232 ∧ ∀ y_y1f1 ∈ y1.f1, y_y1f1.size ≤ 140737488351232) ∧ (y1.f2.f0.size ≤ 140737488351232 ∧ y1.f2.f1.size ≤ 140737488351232 ∧ (Lit.int .i64 y1.f2.f2).wf = true ∧ (Lit.int .i64 y1.f2.f3).wf = true) ∧ (y1.f3.f0.size ≤ 140737488351232 ∧ y1.f3.f1.size ≤ 140737488351232 ∧ (Lit.int .i64 y1.f3.f2).wf = true ∧ (Lit.int .i64 y1.f3.f3).wf = true) ∧ y1.f4.size ≤ 140737488351232) → (y2.f0.size ≤ 140737488351232 ∧ (Lit.int .i64 y2.f1).wf = true ∧ y2.f2.size ≤ 140737488351232 ∧ (y2.f3.f0.size ≤ 140737488351232 ∧ y2.f3.f1.size ≤ 140737488351232 ∧ (Lit.int .i64 y2.f3.f2).wf = true ∧ (Lit.int .i64 y2.f3.f3).wf = true) ∧ y2.f4.size ≤ 140737488351232) → ∃ k, graftagelaw16_CommitNames.f k y0.f0 y0.f1 y0.f2.f0 y0.f2.f1 y0.f2.f2 y0.f2.f3 y0.f3.f0 y0.f3.f1 y0.f3.f2 y0.f3.f3 y0.f4 y1.f0 y1.f1 y1.f2.f0 y1.f2.f1 y1.f2.f2 y1.f2.f3 y1.f3.f0 y1.f3.f1 y1.f3.f2 y1.f3.f3 y1.f4 y2.f0 y2.f1 y2.f2 y2.f3.f0 y2.f3.f1 y2.f3.f2 y2.f3.f3 y2.f4 = some true := by
 intro y0 y1 y2 h0 h1 h2
 obtain ⟨_, ⟨p1, _⟩, ⟨p2, p3, _, _⟩, ⟨p4, p5, _, _⟩, _⟩ := h0
 obtain ⟨_, ⟨q1, _⟩, ⟨q2, q3, _, _⟩, ⟨q4, q5, _, _⟩, _⟩ := h1
 obtain ⟨_, _, r2, ⟨r3, r4, _, _⟩, _⟩ := h2
 obtain ⟨k, hk⟩ := names_ev y2.f0 y2.f1 y2.f2 y2.f3.f0 y2.f3.f1 y2.f3.f2 y2.f3.f3 y2.f4 y0.f0 y0.f1 y0.f2.f0 y0.f2.f1 y0.f2.f2 y0.f2.f3 y0.f3.f0 y0.f3.f1 y0.f3.f2 y0.f3.f3 y0.f4 y1.f0 y1.f1 y1.f2.f0 y1.f2.f1 y1.f2.f2 y1.f2.f3 y1.f3.f0 y1.f3.f1 y1.f3.f2 y1.f3.f3 y1.f4 (by omega) (by omega) p2 p3 p4 p5 q2 q3 q4 q5 r2 r3 r4
 exact ⟨k, hk k (Nat.le_refl _)⟩
end Go.Proofs.YtbhfbbfjdklfgaaGreatDoor.Pure
namespace Go.Proofs.YtbhfbbfjdklfgaaGreatDoor.Ro
open Go.RowKit Go.Deep Go.Proofs.YtbhfbbfjdklfgaaGreatDoorW.PrintWords
def Opens (P : Program) (t : TypeId) {α : Type} (d : Kd α) (S : α → Prop) : Prop :=
  ∀ {H : Type} (enc : TypeId × Value → H) (w : World) (fuel : Nat) (cs : List Value) (x : DataW H × List MemPlace),
    DataW.trod enc P w 0 (fun _ => true) true fuel t cs = some x → (∀ n ∈ DataW.weights P t x.1, n ≤ reachBytes) → ∃ y : α, d.K w y cs ∧ S y
section
variable {P : Program} {t e : TypeId}
theorem Opens.int {k : IntKind} (ht : P.underlying t = some (.int k)) : Opens P t (Kd.int k) (fun y => (Lit.int k y).wf = true) := by
  intro H enc w fuel cs x h _
  obtain ⟨n, rfl, rfl, hw⟩ := DataW.trod_int ht h
  exact ⟨n, rfl, hw⟩
theorem Opens.bool (ht : P.underlying t = some .bool) : Opens P t Kd.bool (fun _ => True) := by
  intro H enc w fuel cs x h _
  obtain ⟨b, rfl, rfl⟩ := DataW.trod_bool ht h
  exact ⟨b, rfl, trivial⟩
theorem Opens.string (ht : P.underlying t = some .string) : Opens P t Kd.string (fun y => y.size ≤ 140737488351232) := by
  intro H enc w fuel cs x h hn
  obtain ⟨s, rfl, rfl, _⟩ := DataW.trod_string ht h
  refine ⟨s, rfl, ?_⟩
  have := hn s.data.toList.length (by simp [DataW.weights])
  simpa [reachBytes] using this
theorem choose_list {α : Type} {n : Nat} {p : Nat → α → Prop} (h : ∀ i, i < n → ∃ y, p i y) : ∃ l : List α, l.length = n ∧ ∀ i y, l[i]? = some y → p i y := by
  induction n with
  | zero => exact ⟨[], rfl, fun i y hy => by simp at hy⟩
  | succ n ih =>
    obtain ⟨l, hl, hp⟩ := ih (fun i hi => h i (by omega))
    obtain ⟨y, hy⟩ := h n (by omega)
    refine ⟨l ++ [y], by simp [hl], fun i z hz => ?_⟩
    rcases Nat.lt_or_ge i l.length with hi | hi
    · rw [List.getElem?_append_left hi] at hz
      exact hp i z hz
    · rw [List.getElem?_append_right hi] at hz
      have : i - l.length = 0 := by
        have := (List.getElem?_eq_some_iff.1 hz).1
        simpa using this
      rw [this] at hz
      have h1 : i = n := by omega
      subst h1
      have : y = z := by simpa using hz
      subst this
      exact hy
theorem weightsAll_mem {H : Type} {e : TypeId} : ∀ {l : List (DataW H)} {d : DataW H}, d ∈ l → ∀ n ∈ d.weights P e, n ∈ DataW.weightsAll P e l
  | a :: l, d, hd, n, hn => by
    simp only [DataW.weightsAll, List.mem_append]
    rcases List.mem_cons.1 hd with rfl | hd
    · exact .inl hn
    · exact .inr (weightsAll_mem hd n hn)
theorem Opens.slice {α : Type} {d : Kd α} {S : α → Prop} {b : Nat} (ht : P.underlying t = some (.slice e)) (hc : P.cellsOf e = d.sz) (hb : P.bytesOf e = b) (h : Opens P e d S) :
    Opens P t (Kd.slice e d) (fun l => l.length * b ≤ 140737488351232 ∧ ∀ y ∈ l, S y) := by
  intro H enc w fuel cs x hx hn
  rcases open_slice ht hx with ⟨rfl, rfl⟩ | ⟨a, len, cap, m, n, D, Pl, rfl, _, hl, hm, hmm, rfl, hall⟩
  · exact ⟨[], ⟨none, 0, rfl, Nat.le_refl _, rfl, by simp, fun h => absurd h (by simp)⟩, by simp, by simp⟩
  · simp only [if_true] at hmm
    obtain rfl : m = cap := hmm
    have hel : ∀ i, i < len → ∃ y : α, (∃ cs', w.cells? 0 (a.add (i * P.cellsOf e)) (P.cellsOf e) = some cs' ∧ d.K w y cs') ∧ S y := by
      intro i hi
      obtain ⟨cs', h1, h2⟩ := hall i (by omega)
      obtain ⟨y, hy, hs⟩ := h enc w n cs' _ h2 (fun k hk => hn k (by
        simp only [DataW.weights, ht, List.mem_cons, List.mem_append]
        exact .inr (.inl (weightsAll_mem (List.mem_map.2 ⟨i, List.mem_range.2 hi, rfl⟩) k hk))))
      exact ⟨y, ⟨cs', h1, hy⟩, hs⟩
    obtain ⟨l, hll, hp⟩ := choose_list hel
    subst hll
    have hw : (l.length + (m - l.length)) * b ≤ reachBytes := by
      have := hn _ (by simp only [DataW.weights, ht, List.mem_cons]; exact .inl rfl)
      simpa [hb] using this
    refine ⟨l, ⟨some a, m, rfl, hl, rfl, by unfold maxLen at hm; omega, fun _ => ⟨a, rfl, fun j p hj => ?_⟩⟩, ?_, fun y hy => ?_⟩
    · obtain ⟨⟨cs', h1, hk⟩, _⟩ := hp j p hj
      obtain ⟨_, hlen, hcell⟩ := World.cells?_some h1
      refine ⟨cs', by rw [hlen, hc], hk, fun i u hu => ?_⟩
      have hi : i < P.cellsOf e := by
        have := (List.getElem?_eq_some_iff.1 hu).1
        omega
      have := hcell i hi
      rw [Go.Deep.add_add, hu, hc] at this
      exact this
    · have : l.length * b ≤ (l.length + (m - l.length)) * b := Nat.mul_le_mul_right _ (by omega)
      simp only [reachBytes] at hw
      omega
    · obtain ⟨j, hj⟩ := List.mem_iff_getElem?.1 hy
      exact (hp j y hj).2
def OpensF (P : Program) (fs : List Field) (o : Nat) {α : Type} (d : Kd α) (S : α → Prop) : Prop :=
  ∀ {H : Type} (enc : TypeId × Value → H) (w : World) (n : Nat) (cs : List Value) (ys : List (DataW H × List MemPlace)),
    (∀ (i : Nat) (f : Field), fs[i]? = some f → DataW.trod enc P w 0 (fun _ => true) true n f.type ((cs.drop f.offset).take (P.cellsOf f.type)) = ys[i]?) → ys.length = fs.length →
    (∀ k ∈ DataW.weightsEach P (fs.map (·.type)) (ys.map (·.1)), k ≤ reachBytes) → cs.length = o + d.sz → ∃ y : α, d.K w y (cs.drop o) ∧ S y
theorem OpensF.one {α : Type} {f : Field} {o : Nat} {d : Kd α} {S : α → Prop} (ho : f.offset = o) (hc : P.cellsOf f.type = d.sz) (h : Opens P f.type d S) : OpensF P [f] o d S := by
  intro H enc w n cs ys hf hl hw hlen
  match ys, hl with
  | [y], _ =>
    have h1 := hf 0 f rfl
    rw [ho, hc, List.take_of_length_le (by rw [List.length_drop]; omega)] at h1
    exact h enc w n _ y h1 (fun k hk => hw k (by simp [DataW.weightsEach, hk]))
theorem OpensF.cons {α β : Type} {f : Field} {fs : List Field} {o o' : Nat} {d : Kd α} {d' : Kd β} {S : α → Prop} {S' : β → Prop} (ho : f.offset = o) (hc : P.cellsOf f.type = d.sz) (ho' : o + d.sz = o')
    (h : Opens P f.type d S) (h' : OpensF P fs o' d' S') : OpensF P (f :: fs) o (Kd.pair d d') (fun z => S z.1 ∧ S' z.2) := by
  intro H enc w n cs ys hf hl hw hlen
  match ys, hl with
  | y :: ys, hl =>
    have h1 := hf 0 f rfl
    rw [ho, hc] at h1
    have hlen' : cs.length = o + (d.sz + d'.sz) := hlen
    obtain ⟨a, ha, hs⟩ := h enc w n _ y h1 (fun k hk => hw k (by simp only [List.map_cons, DataW.weightsEach, List.mem_append]; exact .inl hk))
    obtain ⟨b, hb, hs'⟩ := h' enc w n cs ys (fun i g hg => hf (i + 1) g (by simpa using hg)) (by simpa using hl) (fun k hk => hw k (by simp only [List.map_cons, DataW.weightsEach, List.mem_append]; exact .inr hk)) (by omega)
    refine ⟨(a, b), ⟨_, _, ?_, ha, hb⟩, hs, hs'⟩
    rw [← ho', ← List.drop_drop, List.take_append_drop]
theorem Opens.struct {α β : Type} {fs : Array Field} {d : Kd α} {S : α → Prop} {f : β → α} {g : α → β} (ht : P.underlying t = some (.struct fs)) (hc : P.cellsOf t = d.sz) (hfg : ∀ a, f (g a) = a) (h : OpensF P fs.toList 0 d S) :
    Opens P t (Kd.iso d f) (fun y => S (f y)) := by
  intro H enc w fuel cs x hx hn
  obtain ⟨xs, n, _, rfl, hl, hlen, hf⟩ := DataW.trod_struct ht hx
  obtain ⟨a, ha, hs⟩ := h enc w n cs xs (fun i q hq => hf i q (by simpa using hq)) (by simpa using hlen) (fun k hk => hn k (by simpa [DataW.weights, ht] using hk)) (by rw [hl, hc]; omega)
  refine ⟨g a, ?_, by show S (f (g a)); rw [hfg]; exact hs⟩
  show d.K w (f (g a)) cs
  rw [hfg]
  simpa using ha
theorem Opens.imp {α : Type} {d : Kd α} {S S' : α → Prop} (h : Opens P t d S) (hS : ∀ y, S y → S' y) : Opens P t d S' := by
  intro H enc w fuel cs x hx hn
  obtain ⟨y, hy, hs⟩ := h enc w fuel cs x hx hn
  exact ⟨y, hy, hS y hs⟩
theorem Opens.arg {H : Type} {enc : TypeId × Value → H} {α : Type} {d : Kd α} {S : α → Prop} {w : World} {ts : List TypeId} {ds : List (DataW H)} {j : Nat} {v : Value} {dd : DataW H} {ps : List MemPlace} (h : Opens P t d S)
    (hz : (DataW.weightsEach P ts ds).all (· ≤ reachBytes) = true) (ht : ts[j]? = some t) (hd : ds[j]? = some dd) (hv : DataW.Trod enc P w 0 (fun _ => true) true t v dd ps) : ∃ y : α, d.K w y v.cells.toList ∧ S y := by
  obtain ⟨fuel, hf⟩ := hv
  exact h enc w fuel _ (dd, ps) hf (fun n hn => by simpa using List.all_eq_true.1 hz n (DataW.weights_mem_each ht hd n hn))
theorem arg_lt {H : Type} {enc : TypeId × Value → H} {w : World} {v : Value} {dd : DataW H} {ps : List MemPlace} (hv : DataW.Trod enc P w 0 (fun _ => true) true t v dd ps) : ∀ x ∈ ps, x.block < w.heap.size := by
  obtain ⟨m, hm⟩ := hv
  exact DataW.trod_lt m _ _ _ hm
end
end Go.Proofs.YtbhfbbfjdklfgaaGreatDoor.Ro
namespace Go.Proofs.YtbhfbbfjdklfgaaGreatDoor.commitNames
open Go.ChangeShapes Go.WideShapes Go.ChangeAt Go.RowKit Go.Proofs.YtbhfbbfjdklfgaaGreatDoor.Ro Go.Proofs.YtbhfbbfjdklfgaaGreatDoor.Q Go.Proofs.YtbhfbbfjdklfgaaGreatDoorW.PrintWords
open Go.ChangeMaps (open_string shut_string)
theorem own : ownKnob Tryz.prog.godebug = none := by kernel_rfl
theorem laidOut : laidOutB Tryz.prog = true := by kernel_rfl
theorem opens26 : Opens Tryz.prog 26 k26 (fun y => (y.f0.size ≤ 140737488351232 ∧ (y.f1.length * 16 ≤ 140737488351232 ∧ ∀ y_yf1 ∈ y.f1, y_yf1.size ≤ 140737488351232) ∧ (y.f2.f0.size ≤ 140737488351232 ∧ y.f2.f1.size ≤ 140737488351232 ∧ (Lit.int .i64 y.f2.f2).wf = true ∧ (Lit.int .i64 y.f2.f3).wf = true) ∧ (y.f3.f0.size ≤ 140737488351232 ∧ y.f3.f1.size ≤ 140737488351232 ∧ (Lit.int .i64 y.f3.f2).wf = true ∧ (Lit.int .i64 y.f3.f3).wf = true) ∧ y.f4.size ≤ 140737488351232)) := (Opens.struct (f := (fun x : S26 => (x.f0, x.f1, x.f2, x.f3, x.f4))) (g := (fun a => (⟨a.1, a.2.1, a.2.2.1, a.2.2.2.1, a.2.2.2.2⟩ : S26))) Tryz.underlying26 (by kernel_rfl) (fun _ => rfl) (OpensF.cons rfl (by kernel_rfl) rfl (Opens.string Tryz.underlying9) (OpensF.cons rfl (by kernel_rfl) rfl (Opens.slice Tryz.underlying22 (by kernel_rfl) (by kernel_rfl) (Opens.string Tryz.underlying9)) (OpensF.cons rfl (by kernel_rfl) rfl (Opens.struct (f := (fun x : S24 => (x.f0, x.f1, x.f2, x.f3))) (g := (fun a => (⟨a.1, a.2.1, a.2.2.1, a.2.2.2⟩ : S24))) Tryz.underlying24 (by kernel_rfl) (fun _ => rfl) (OpensF.cons rfl (by kernel_rfl) rfl (Opens.string Tryz.underlying9) (OpensF.cons rfl (by kernel_rfl) rfl (Opens.string Tryz.underlying9) (OpensF.cons rfl (by kernel_rfl) rfl (Opens.int Tryz.underlying3) (OpensF.one rfl (by kernel_rfl) (Opens.int Tryz.underlying3)))))) (OpensF.cons rfl (by kernel_rfl) rfl (Opens.struct (f := (fun x : S24 => (x.f0, x.f1, x.f2, x.f3))) (g := (fun a => (⟨a.1, a.2.1, a.2.2.1, a.2.2.2⟩ : S24))) Tryz.underlying24 (by kernel_rfl) (fun _ => rfl) (OpensF.cons rfl (by kernel_rfl) rfl (Opens.string Tryz.underlying9) (OpensF.cons rfl (by kernel_rfl) rfl (Opens.string Tryz.underlying9) (OpensF.cons rfl (by kernel_rfl) rfl (Opens.int Tryz.underlying3) (OpensF.one rfl (by kernel_rfl) (Opens.int Tryz.underlying3)))))) (OpensF.one rfl (by kernel_rfl) (Opens.string Tryz.underlying9)))))))
theorem opens37 : Opens Tryz.prog 37 k37 (fun y => (y.f0.size ≤ 140737488351232 ∧ (Lit.int .i64 y.f1).wf = true ∧ y.f2.size ≤ 140737488351232 ∧ (y.f3.f0.size ≤ 140737488351232 ∧ y.f3.f1.size ≤ 140737488351232 ∧ (Lit.int .i64 y.f3.f2).wf = true ∧ (Lit.int .i64 y.f3.f3).wf = true) ∧ y.f4.size ≤ 140737488351232)) := (Opens.struct (f := (fun x : S37 => (x.f0, x.f1, x.f2, x.f3, x.f4))) (g := (fun a => (⟨a.1, a.2.1, a.2.2.1, a.2.2.2.1, a.2.2.2.2⟩ : S37))) Tryz.underlying37 (by kernel_rfl) (fun _ => rfl) (OpensF.cons rfl (by kernel_rfl) rfl (Opens.string Tryz.underlying9) (OpensF.cons rfl (by kernel_rfl) rfl (Opens.int Tryz.underlying3) (OpensF.cons rfl (by kernel_rfl) rfl (Opens.string Tryz.underlying9) (OpensF.cons rfl (by kernel_rfl) rfl (Opens.struct (f := (fun x : S24 => (x.f0, x.f1, x.f2, x.f3))) (g := (fun a => (⟨a.1, a.2.1, a.2.2.1, a.2.2.2⟩ : S24))) Tryz.underlying24 (by kernel_rfl) (fun _ => rfl) (OpensF.cons rfl (by kernel_rfl) rfl (Opens.string Tryz.underlying9) (OpensF.cons rfl (by kernel_rfl) rfl (Opens.string Tryz.underlying9) (OpensF.cons rfl (by kernel_rfl) rfl (Opens.int Tryz.underlying3) (OpensF.one rfl (by kernel_rfl) (Opens.int Tryz.underlying3)))))) (OpensF.one rfl (by kernel_rfl) (Opens.string Tryz.underlying9)))))))
theorem lifted (os : Os) (started : os.Started) (H : Type) (enc : TypeId × Value → H) :
    ReturnsInHanded {} Tryz.checked os 8 .any (fun w args => (Rows.commitNamesSpec.pre enc Tryz.prog Tryz.f8 [] false w args ∧ laidMetH Tryz.prog Rows.commitNamesRow.laid w) ∧ sizedMet enc Tryz.prog Tryz.f8 (OpenSpec.ofChange Rows.commitNamesSpec) false w args) (Rows.commitNamesSpec.post enc Tryz.prog Tryz.f8 false true false false) := by
  refine returnsInHanded_and_shaped (C := Tryz.checked) (X := fun w _ => laidMetH Tryz.prog Rows.commitNamesRow.laid w) (fun _ _ _ hh h => h.of_heap hh) own started (by kernel_rfl) Tryz.func8
    (ChangeSpec.witness_shaped (enc := enc) (C := Tryz.checked) (os := os) (X := fun w _ => laidMetH Tryz.prog Rows.commitNamesRow.laid w) false (World.laidAll Tryz.prog os Rows.commitNamesRow.laid) #[.agg #[.string ByteArray.empty, .slice none 0 0, .string ByteArray.empty, .string ByteArray.empty, .int .i64 0, .int .i64 0, .string ByteArray.empty, .string ByteArray.empty, .int .i64 0, .int .i64 0, .string ByteArray.empty], .agg #[.string ByteArray.empty, .slice none 0 0, .string ByteArray.empty, .string ByteArray.empty, .int .i64 0, .int .i64 0, .string ByteArray.empty, .string ByteArray.empty, .int .i64 0, .int .i64 0, .string ByteArray.empty], .agg #[.string ByteArray.empty, .int .i64 0, .string ByteArray.empty, .string ByteArray.empty, .string ByteArray.empty, .int .i64 0, .int .i64 0, .string ByteArray.empty]] 8 (World.laidAll_os _ _ _)
      (World.shaped_of_ZipB (by kernel_rfl) (by kernel_rfl)) (by kernel_rfl) (by kernel_rfl) (by kernel_rfl)
      (by rw [MakeChecks.laidMetH_plain _ _ _ (by kernel_rfl)]; exact laidMet_laidAll _ (by kernel_rfl) (by kernel_rfl))) ?_
  intro W base args ds gs before hval0 hW hcnd hsz0 hlm0 hsh0
  have hsz : (DataW.weightsEach Tryz.prog (Tryz.f8.params.toList ++ Rows.commitNamesSpec.plain.varTypes Tryz.prog) (ds ++ gs)).all (· ≤ reachBytes) = true := hsz0
  have hval : ∀ (j : Nat) t v, Tryz.f8.params[j]? = some t → args[j]? = some v → Value.okWide Tryz.prog W .any base t v := hval0
  have hW' := hW
  obtain ⟨p, q, hA0, hV, rfl, hfz, hnd⟩ := hW
  have hA : DataW.TrodAll enc Tryz.prog W 0 (fun _ => true) true Tryz.f8.params.toList args.toList ds p := hA0
  rw [Tryz.params8] at hA hval hsz
  obtain ⟨v0, vs0, d0, ds0, p0, q0, hargs, rfl, rfl, h0, r0⟩ := trodAll_cons hA
  obtain ⟨v1, vs1, d1, ds1, p1, q1, rfl, rfl, rfl, h1, r1⟩ := trodAll_cons r0
  obtain ⟨v2, vs2, d2, ds2, p2, q2, rfl, rfl, rfl, h2, r2⟩ := trodAll_cons r1
  obtain ⟨rfl, rfl, rfl⟩ := trodAll_nil r2
  obtain rfl : args = #[v0, v1, v2] := by cases args; simp_all
  obtain ⟨rfl, rfl⟩ := trodVars_none hV
  have lt0 := arg_lt h0
  obtain ⟨y0, hk0, w0⟩ := opens26.arg hsz (j := 0) rfl rfl h0
  obtain ⟨cs0, rfl, _⟩ := okWide_struct Tryz.underlying26 (hval 0 26 v0 rfl rfl)
  have hk0' := k26_open hk0
  obtain ⟨A0_1, c0_1, e0, hl0_1, hr0_1⟩ := hk0'
  obtain rfl : cs0 = #[.string y0.f0, .slice A0_1 y0.f1.length c0_1, .string y0.f2.f0, .string y0.f2.f1, .int .i64 y0.f2.f2, .int .i64 y0.f2.f3, .string y0.f3.f0, .string y0.f3.f1, .int .i64 y0.f3.f2, .int .i64 y0.f3.f3, .string y0.f4] := by cases cs0; simpa [Value.cells] using e0
  have lt1 := arg_lt h1
  obtain ⟨y1, hk1, w1⟩ := opens26.arg hsz (j := 1) rfl rfl h1
  obtain ⟨cs1, rfl, _⟩ := okWide_struct Tryz.underlying26 (hval 1 26 v1 rfl rfl)
  have hk1' := k26_open hk1
  obtain ⟨A1_1, c1_1, e1, hl1_1, hr1_1⟩ := hk1'
  obtain rfl : cs1 = #[.string y1.f0, .slice A1_1 y1.f1.length c1_1, .string y1.f2.f0, .string y1.f2.f1, .int .i64 y1.f2.f2, .int .i64 y1.f2.f3, .string y1.f3.f0, .string y1.f3.f1, .int .i64 y1.f3.f2, .int .i64 y1.f3.f3, .string y1.f4] := by cases cs1; simpa [Value.cells] using e1
  have lt2 := arg_lt h2
  obtain ⟨y2, hk2, w2⟩ := opens37.arg hsz (j := 2) rfl rfl h2
  obtain ⟨cs2, rfl, _⟩ := okWide_struct Tryz.underlying37 (hval 2 37 v2 rfl rfl)
  have hk2' := k37_open hk2
  have e2 := hk2'
  obtain rfl : cs2 = #[.string y2.f0, .int .i64 y2.f1, .string y2.f2, .string y2.f3.f0, .string y2.f3.f1, .int .i64 y2.f3.f2, .int .i64 y2.f3.f3, .string y2.f4] := by cases cs2; simpa [Value.cells] using e2
  obtain ⟨k, hp⟩ := Pure.CommitNames _ _ _ w0 w1 w2
  clear hA0 hval0 hsz0 hsz
  refine (Q.graftagelaw16_CommitNames.calls k y0.f0 _ _ y0.f1 y0.f2.f0 y0.f2.f1 y0.f2.f2 y0.f2.f3 y0.f3.f0 y0.f3.f1 y0.f3.f2 y0.f3.f3 y0.f4 y1.f0 _ _ y1.f1 y1.f2.f0 y1.f2.f1 y1.f2.f2 y1.f2.f3 y1.f3.f0 y1.f3.f1 y1.f3.f2 y1.f3.f3 y1.f4 y2.f0 y2.f1 y2.f2 y2.f3.f0 y2.f3.f1 y2.f3.f2 y2.f3.f3 y2.f4 true W hr0_1 hl0_1 hr1_1 hl1_1 (GV.shaped hsh0 (l := Rows.commitNamesRow.laid) (by have h_ := hlm0; rw [MakeChecks.laidMetH_plain _ _ _ (by kernel_rfl)] at h_; exact h_) (.tail _ (.tail _ (.head _)))) hp).mono ?_
  rintro e W' ⟨rfl, bel0⟩
  have bel : Below W.heap.size W W' := bel0
  exact ⟨_, rfl, _, _, _, [], _, [], hW', trodAll_mk1 (shut_bool Tryz.underlying4 _), (trodAll_cons_mk (Below.trod laidOut (by kernel_rfl) (of_decide_eq_true (by kernel_rfl)) h0 bel lt0) (trodAll_cons_mk (Below.trod laidOut (by kernel_rfl) (of_decide_eq_true (by kernel_rfl)) h1 bel lt1) (trodAll_cons_mk (Below.trod laidOut (by kernel_rfl) (of_decide_eq_true (by kernel_rfl)) h2 bel lt2) trodAll_mk0))), rfl, bel.frame _, fun h => by cases h⟩
theorem over : Rows.commitNamesRow.holds Tryz.pinned (OpenSpec.ofChange Rows.commitNamesSpec) :=
  OpenClaim.holds_of_wide 8 Tryz.f8 rfl rfl rfl rfl rfl rfl rfl ⟨rfl, rfl, rfl, rfl, rfl⟩ rfl rfl rfl rfl rfl (by kernel_rfl) Tryz.func8 joined
    (of_decide_eq_true (by kernel_rfl)) (by unfold Func.isWrapper; first | (rw [if_pos (by decide +kernel)]; kernel_rfl) | (rw [if_neg (by decide +kernel)]; exact ⟨rfl, rfl⟩))
    (fun os started H enc _ => lifted os started H enc)
theorem proved : Rows.CommitNamesSaid := over
theorem card_holds : Rows.CommitNamesCardSaid :=
  Claim7.holds_tied_plain_at .later [] [.data, .data, .data, .data, .sentinel, .sentinel, .pinned] true (true, "122aec7e533ec1bbbaac3b90e11b4338a89c93a5f0ce7185d6d93993e47251e7") true over (fun _ h => by cases h) jw (fun _ h => by cases h) commitNames_row_tie rfl ⟨rfl, rfl⟩ jm rfl
    (fun f fn hf hfn => by
      obtain rfl : f = 8 := Option.some.inj ((show Tryz.prog.funcNamed "graftage/graftagelaw16.CommitNames" = some 8 by kernel_rfl).symm.trans hf) |>.symm
      obtain rfl : fn = Tryz.f8 := (Option.some.inj (Tryz.func8.symm.trans hfn)).symm
      exact ⟨jl, fun j t ht => by
        rw [Tryz.params8] at ht
        have hm : t ∈ [26, 26, 37] := by simpa using Array.mem_of_getElem? ht
        have hall : ([26, 26, 37].all fun u => !Tryz.prog.wantsStandIn u) = true := by kernel_rfl
        exact (show Tryz.prog.wantsStandIn t = false by simpa using List.all_eq_true.1 hall t hm)⟩)
    jg
#print axioms card_holds
end Go.Proofs.YtbhfbbfjdklfgaaGreatDoor.commitNames
namespace Go.Proofs.YtbhfbbfjdklfgaaGreatDoor
theorem commitNames_holds : Rows.CommitNamesCardSaid := commitNames.card_holds
end Go.Proofs.YtbhfbbfjdklfgaaGreatDoor

