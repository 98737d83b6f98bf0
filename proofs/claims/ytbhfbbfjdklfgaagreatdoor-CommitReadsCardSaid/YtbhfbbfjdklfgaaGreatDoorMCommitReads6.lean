/- The law CommitReads holds: for every input it returns true, and each argument reads afterwards as it read before. -/
import Derived.Test.YtbhfbbfjdklfgaaGreatDoorMCommitReads5
import Derived.Deep.Slices
import Derived.ChangeArms
import Derived.Test.YtbhfbbfjdklfgaaGreatDoorCards
set_option linter.unusedVariables false
set_option linter.unusedSimpArgs false
set_option maxHeartbeats 8000000
set_option maxRecDepth 100000
namespace Go.Proofs.YtbhfbbfjdklfgaaGreatDoor.Q
open Go.Proofs.Tryz Go.RowKit Go.Proofs.YtbhfbbfjdklfgaaGreatDoorW.PrintWords Go.Proofs.YtbhfbbfjdklfgaaGreatDoorW.PrintLast Go.Proofs.YtbhfbbfjdklfgaaGreatDoorW.PrintMore
theorem refKind_l0 (s : ByteArray) : ∀ (d i : Nat), i + d = 4 → Ev (fun k => qbt_.l0 k s ((i : Int) + 1)) (kindF s d i)
 | 0, i, h => Ev.step (f := ?_) (fun k => by rw [qbt_.l0, if_neg (by omega)]) (Ev.now _)
 | d + 1, i, h => by
  have hw : qct_.f ((i : Int) + 1) = some (kindW i) := by
   rw [refWord_eq]
   have : i = 0 ∨ i = 1 ∨ i = 2 ∨ i = 3 := by omega
   rcases this with rfl | rfl | rfl | rfl <;> rfl
  refine Ev.step (f := ?_) (fun k => by rw [qbt_.l0, if_pos (by omega), hw, Option.bind_some]) ?_
  rw [kindF]
  refine qr_ (fun g => ?_) (fun g => ?_)
  ·rw [if_pos g]; exact Ev.now _
  ·rw [if_neg g]
   have e : wrap64 ((i : Int) + 1 + 1) = ((i + 1 : Nat) : Int) + 1 := by rw [qbw_ (by omega) (by omega)]; omega
   rw [e]
   exact refKind_l0 s d (i + 1) (by omega)
theorem refKind_ev (s : ByteArray) : Ev (fun k => qbt_.f k s) (kindF s 4 0) := refKind_l0 s 4 0 rfl
def howF (s : ByteArray) (b : Bool) : Int := if b = true ∧ (qbb_ s).2.2.2.2 ≠ 2 then (if (qbb_ s).2.2.2.2 = 0 then 2 else 1) else 0
theorem refwho_ev (s : ByteArray) (b : Bool) (hs : s.size ≤ 4294967000) : Ev (fun k => qbp_.f k s b) ((qbb_ s).1, (qbb_ s).2.1, (qbb_ s).2.2.1, (qbb_ s).2.2.2.1, howF s b) := by
 refine Ev.bind (refParseWho_ev s hs) ?_
 unfold howF
 generalize qbb_ s = W
 refine qr_ (fun g => ?_) (fun g => ?_)
 ·refine Ev.step (f := ?_) (fun k => by rw [qbp_.j0]) ?_
  by_cases h : W.2.2.2.2 = 2
  ·exact qav_ (beq_iff_eq.2 h) (ev_eq (Ev.now _) (by rw [if_neg (fun e => e.2 h)]))
  ·refine ev_no (fun e => h (beq_iff_eq.1 e)) (qr_ (fun g2 => ev_eq (Ev.now _) ?_) (fun g2 => ev_eq (Ev.now _) ?_))
   ·rw [if_pos ⟨g, h⟩, if_pos g2]
   ·rw [if_pos ⟨g, h⟩, if_neg g2]
 ·rw [if_neg (fun e => g e.1)]
  exact Ev.step (f := ?_) (fun k => by rw [qbp_.j0, if_pos rfl]) (Ev.now _)
theorem qfk_ (s w : ByteArray) (x : Int) (u : List UInt8) (hx : x = ((s.size - u.length : Nat) : Int)) (hu : s.data.toList.drop (s.size - u.length) = u) (hs : s.size ≤ 4294967000) (hw : w.size ≤ 1000) :
  Ev (fun k => qau_.f k s x w) (mk (lineF u (w.data.toList ++ [32])).1, ((s.size - (lineF u (w.data.toList ++ [32])).2.1.length : Nat) : Int), (lineF u (w.data.toList ++ [32])).2.2) ∧ s.data.toList.drop (s.size - (lineF u (w.data.toList ++ [32])).2.1.length) = (lineF u (w.data.toList ++ [32])).2.1 := by
 have h1 := refLine_ev s w x (s.size - u.length) hx (Nat.sub_le _ _) hs hw
 have h2 := rest_at (s := s) (i := s.size - u.length) (p := w.data.toList ++ [32]) (Nat.sub_le _ _)
 unfold lineR at h1
 rw [hu] at h1 h2
 exact ⟨h1, h2⟩
theorem qex_ (u : List UInt8) : (lineF u []).2.2 = true ∧ (lineF u []).1 = [] → u = 10 :: (lineF u []).2.1 := by
 rintro ⟨h1, h2⟩
 unfold lineF at h1 h2 ⊢
 split at h1
 ·rename_i g
  rw [if_pos g] at h2 ⊢
  have e := qdy_ (l := u) (s := [10]) (a := (Lib.cut u [10]).1) (b := (Lib.cut u [10]).2.1) (by decide) (by rw [← g.1])
  have h3 : (Lib.cut u [10]).1 = [] := by simpa using h2
  have e1 := e.1
  rw [h3] at e1
  simpa using e1
 ·cases h1
theorem lineF_cons (r : List UInt8) : lineF (10 :: r) [] = ([], r, true) := by
 unfold lineF
 have : Lib.cut (10 :: r) [10] = ([], r, true) := cut_one 10 [] r (by simp)
 rw [this]; simp
theorem empty_no (z t : Int) (m : ByteArray) : qdh_ ⟨#[]⟩ m t z = false := by
 unfold qdh_ qem_ edge
 rw [decide_eq_true (show (⟨#[]⟩ : ByteArray).size < 1 by decide)]
 simp
theorem tag_end (s : ByteArray) (hs : s.size ≤ 4294967000) (y : ByteArray) (x : Int) (hx : x = ((s.size - (tL4 s).2.1.length : Nat) : Int)) (bad : Bool) (hu : s.data.toList.drop (s.size - (tL4 s).2.1.length) = (tL4 s).2.1) (hb : bad = !decide (tGood s)) :
  Ev (fun k => qx_.j0 k s x bad (mk (tL1 s).1) (tKind s) (mk (tL3 s).1) (tWho s).1 (tWho s).2.1 (tWho s).2.2.1 (tWho s).2.2.2.1 y) (qdj_ s) := by
 obtain ⟨l1, l2, l3, l4, l5, l6, l7, l8, l9, l10⟩ := t_len s
 have hw := who_len (mk (tL4 s).1)
 rw [qbk_] at hw
 change (tWho s).1.size ≤ _ ∧ (tWho s).2.1.size ≤ _ at hw
 refine Ev.step (f := ?_) (fun k => by rw [qx_.j0]) ?_
 by_cases hg : tGood s
 ·rw [decide_eq_true hg] at hb
  subst hb
  refine ev_no (by decide) ?_
  have h10 := qex_ (tL4 s).2.1 ⟨hg.2.2.2.2.2.2.2.1, hg.2.2.2.2.2.2.2.2⟩
  change (tL4 s).2.1 = 10 :: (tL5 s).2.1 at h10
  have hlen := congrArg List.length h10
  rw [List.length_cons] at hlen
  have e1 : wrap64 (x + 1) = ((s.size - (tL5 s).2.1.length : Nat) : Int) := by rw [hx, qbw_ (by omega) (by omega)]; omega
  have e2 : s.extract (s.size - (tL5 s).2.1.length) s.size = mk (tL5 s).2.1 := by
   have q : s.data.toList.drop (s.size - (tL5 s).2.1.length) = (tL5 s).2.1 := by
    rw [show s.size - (tL5 s).2.1.length = s.size - (tL4 s).2.1.length + 1 by omega, ← List.drop_drop, hu, h10]; rfl
   rw [ext_mk, q, List.take_of_length_le (by omega)]
  rw [e1]
  refine qav_ (by omega) (qav_ (by omega) ?_)
  simp only [Int.toNat_natCast, e2]
  refine Ev.bind (refCheckTag_ev _ _ _ _ _ _ _ _ (by rw [qbk_]; omega) (by omega) (by omega) (by rw [qbk_]; omega)) ?_
  change Ev (fun k => if tCheck s = 0 then _ else _) _
  unfold qdj_
  rw [if_pos hg]
  rcases qeq_ (mk (tL4 s).1) with h | h | h
  ·have h' : (tWho s).2.2.2.2 = 0 := h
   rw [h', if_neg (show ¬ (0 : Int) = 1 by decide)]
   refine qr_ (fun g => ?_) (fun g => ?_)
   ·rw [if_pos g]; exact Ev.now _
   ·rw [if_neg g]; exact Ev.now _
  ·have h' : (tWho s).2.2.2.2 = 1 := h
   rw [if_pos h']
   have : tCheck s = 1 := by
    have hp : (tWho s).1 = ⟨#[]⟩ := by
     change (qbb_ (mk (tL4 s).1)).1 = _
     change (qbb_ (mk (tL4 s).1)).2.2.2.2 = 1 at h'
     unfold qbb_ finW at h' ⊢
     split at h'
     ·rename_i a
      rw [if_pos a]
      split at h'
      ·cases h'
      ·rename_i b; rw [if_neg b]
     ·cases h'
    unfold tCheck qcz_
    rw [hp]
    refine if_neg (fun e => ?_)
    have := e.2.2.2.1
    rw [empty_no] at this; cases this
   refine ev_no (by omega) ?_
   change Ev (fun _ => some (noTag (tCheck s))) _
   rw [this]; exact Ev.now _
  ·exact absurd h hg.2.2.2.2.2.2.1
 ·rw [decide_eq_false hg] at hb
  subst hb
  refine qav_ rfl ?_
  unfold qdj_
  rw [if_neg hg]
  exact Ev.now _
theorem refParseTag_ev (s : ByteArray) (hs : s.size ≤ 4294967000) : Ev (fun k => qx_.f k s) (qdj_ s) := by
 obtain ⟨l1, l2, l3, l4, l5, l6, l7, l8, l9, l10⟩ := t_len s
 have d0 : s.data.toList.drop (s.size - s.data.toList.length) = s.data.toList := by rw [qbr_, Nat.sub_self, List.drop_zero]
 have q0 : (0 : Int) = ((s.size - s.data.toList.length : Nat) : Int) := by rw [qbr_, Nat.sub_self]; rfl
 obtain ⟨r1, d1⟩ := qfk_ s ⟨#[111, 98, 106, 101, 99, 116]⟩ 0 s.data.toList q0 d0 hs (show 6 ≤ 1000 by omega)
 change Ev _ (mk (tL1 s).1, ((s.size - (tL1 s).2.1.length : Nat) : Int), (tL1 s).2.2) at r1
 change s.data.toList.drop (s.size - (tL1 s).2.1.length) = (tL1 s).2.1 at d1
 obtain ⟨r2, d2⟩ := qfk_ s ⟨#[116, 121, 112, 101]⟩ _ (tL1 s).2.1 rfl d1 hs (show 4 ≤ 1000 by omega)
 change Ev _ (mk (tL2 s).1, ((s.size - (tL2 s).2.1.length : Nat) : Int), (tL2 s).2.2) at r2
 change s.data.toList.drop (s.size - (tL2 s).2.1.length) = (tL2 s).2.1 at d2
 obtain ⟨r3, d3⟩ := qfk_ s ⟨#[116, 97, 103]⟩ _ (tL2 s).2.1 rfl d2 hs (show 3 ≤ 1000 by omega)
 change Ev _ (mk (tL3 s).1, ((s.size - (tL3 s).2.1.length : Nat) : Int), (tL3 s).2.2) at r3
 change s.data.toList.drop (s.size - (tL3 s).2.1.length) = (tL3 s).2.1 at d3
 obtain ⟨r4, d4⟩ := qfk_ s ⟨#[116, 97, 103, 103, 101, 114]⟩ _ (tL3 s).2.1 rfl d3 hs (show 6 ≤ 1000 by omega)
 change Ev _ (mk (tL4 s).1, ((s.size - (tL4 s).2.1.length : Nat) : Int), (tL4 s).2.2) at r4
 change s.data.toList.drop (s.size - (tL4 s).2.1.length) = (tL4 s).2.1 at d4
 refine Ev.bind r1 (Ev.bind r2 (Ev.bind r3 (Ev.bind r4 (Ev.bind (refwho_ev (mk (tL4 s).1) (tL4 s).2.2 (by rw [qbk_]; omega)) (Ev.bind (refKind_ev (mk (tL2 s).1)) ?_)))))
 change Ev (fun k => if (tL1 s).2.2 = true then (if (tL2 s).2.2 = true then (if (tL3 s).2.2 = true then (if howF (mk (tL4 s).1) (tL4 s).2.2 = 0 then _ else (qw_.f k (mk (tL1 s).1)).bind _) else _) else _) else _) _
 have bad : ¬ tGood s → Ev (fun k => qx_.j0 k s ((s.size - (tL4 s).2.1.length : Nat) : Int) true (mk (tL1 s).1) (tKind s) (mk (tL3 s).1) (tWho s).1 (tWho s).2.1 (tWho s).2.2.1 (tWho s).2.2.2.1 ⟨#[]⟩) (qdj_ s) := fun h => tag_end s hs _ _ rfl true d4 (by rw [decide_eq_false h]; rfl)
 refine qr_ (fun g1 => ?_) (fun g1 => bad (fun e => g1 e.1))
 refine qr_ (fun g2 => ?_) (fun g2 => bad (fun e => g2 e.2.2.1))
 refine qr_ (fun g3 => ?_) (fun g3 => bad (fun e => g3 e.2.2.2.2.1))
 refine qr_ (fun g4 => bad (fun e => ?_)) (fun g4 => ?_)
 ·have q : howF (mk (tL4 s).1) (tL4 s).2.2 ≠ 0 := by
   unfold howF
   rw [if_pos ⟨e.2.2.2.2.2.1, e.2.2.2.2.2.2.1⟩]
   split <;> decide
  exact q g4
 have g5 : (tL4 s).2.2 = true ∧ (tWho s).2.2.2.2 ≠ 2 := by
  refine Classical.byContradiction fun h => g4 ?_
  unfold howF
  exact if_neg h
 refine Ev.bind (qeu_ _) (qr_ (fun g6 => ?_) (fun g6 => bad (fun e => g6 e.2.1)))
 refine qr_ (fun g7 => bad (fun e => e.2.2.2.1 g7)) (fun g7 => ?_)
 have hub : (tL4 s).2.1.length ≤ s.size := l8
 refine qr_ (fun g8 => bad (fun e => ?_)) (fun g8 => ?_)
 ·have h10 := congrArg List.length (qex_ (tL4 s).2.1 ⟨e.2.2.2.2.2.2.2.1, e.2.2.2.2.2.2.2.2⟩)
  rw [List.length_cons] at h10
  have g8' : ((s.size - (tL4 s).2.1.length : Nat) : Int) ≥ (s.size : Int) := g8
  omega
 have g8' : ¬ ((s.size - (tL4 s).2.1.length : Nat) : Int) ≥ (s.size : Int) := g8
 clear g8
 refine qav_ (Int.natCast_nonneg _) (qav_ (Int.not_le.1 g8') (tag_end s hs _ _ rfl _ d4 ?_))
 cases hr : (tL4 s).2.1 with
 | nil => rw [hr] at g8'; exact absurd (by simp) g8'
 | cons c r =>
  rw [hr] at d4
  have hb := (qeh_ d4).2.1
  rw [hb]
  by_cases hc : c = 10
  ·subst hc
   have e5 : tL5 s = ([], r, true) := by unfold tL5; rw [hr]; exact lineF_cons r
   rw [decide_eq_true (show tGood s from ⟨g1, g6, g2, g7, g3, g5.1, g5.2, by rw [e5], by rw [e5]⟩)]
   rfl
  ·have : ¬ tGood s := fun e => by
    have h10 := qex_ (tL4 s).2.1 ⟨e.2.2.2.2.2.2.2.1, e.2.2.2.2.2.2.2.2⟩
    rw [hr] at h10
    exact hc (List.cons.inj h10).1
   rw [decide_eq_false this]
   have hn : c.toNat ≠ 10 := fun h => hc (UInt8.toNat_inj.1 h)
   rw [bne_iff_ne.2 (by omega)]
   rfl
attribute [local go_sem] qec_ qef_ qen_ qeo_ qdt_ qdu_ qdz_ qee_
def qda_.T4 : Bool × List (List Nat × List Nat) := (true, [([], []), ([0], [0]), ([1], [1]), ([2], [2]), ([], []), ([4], [4]), ([5], [5]), ([3, 6], [3, 6]), ([7], [7]), ([], []), ([9], [9]), ([8, 10], [8, 10]), ([11], [11]), ([], []), ([13], [13]), ([14, 6], [14]), ([12, 15], [12, 15]), ([16], [16]), ([], []), ([18], [18]), ([17, 19], [17, 19]), ([20, 15, 0, 1, 2, 3, 4, 5, 6, 7, 8, 9, 10, 11, 12, 13, 14, 15, 16, 17, 18, 19, 20], [20]), ([21, 0, 1, 2, 3, 4, 5, 6, 7, 8, 9, 10, 11, 12, 13, 14, 15, 16, 17, 18, 19, 20, 21], [])])
def qda_.B4 : List Nat := [0, 1, 3, 7, 0, 16, 48, 127, 255, 0, 512, 2047, 4095, 0, 8192, 24688, 65535, 131071, 0, 262144, 1048575, 2097151, 4194303]
theorem qda_.tab4 : rtab .any (opsOf Tryz.f26 4) = qda_.T4 := by kernel_rfl
theorem qda_.bits4 : qdi_ qda_.T4.2 qda_.B4 = true := by kernel_rfl
theorem qdq_ {u p : List UInt8} (h : (lineF u p).2.2 = true) : u = p ++ ((lineF u p).1 ++ 10 :: (lineF u p).2.1) := by
 unfold lineF at h ⊢
 split at h
 ·rename_i g
  rw [if_pos g]
  have e := (qdy_ (l := u) (s := [10]) (a := (Lib.cut u [10]).1) (b := (Lib.cut u [10]).2.1) (by decide) (by rw [← g.1])).1
  show u = p ++ ((Lib.cut u [10]).1.drop p.length ++ 10 :: (Lib.cut u [10]).2.1)
  have q := List.take_append_drop p.length (Lib.cut u [10]).1
  rw [g.2] at q
  rw [← List.append_assoc, q]
  simpa using e
 ·cases h
def tagL (o : List UInt8) (a : Int) (g : List UInt8) (w x : List UInt8) : List UInt8 :=
 [111, 98, 106, 101, 99, 116, 32] ++ (o ++ 10 :: ([116, 121, 112, 101, 32] ++ ((wordB a).data.toList ++ 10 :: ([116, 97, 103, 32] ++ (g ++ 10 :: ([116, 97, 103, 103, 101, 114, 32] ++ (w ++ 10 :: (10 :: x))))))))
def tagB (o : ByteArray) (a : Int) (g n m : ByteArray) (t z : Int) (x : ByteArray) : ByteArray := mk (tagL o.data.toList a g.data.toList (whoL n.data.toList m.data.toList t z) x.data.toList)
def tagBodyB (o : ByteArray) (a : Int) (g n m : ByteArray) (t z : Int) (x : ByteArray) : ByteArray × Int := if qcz_ o a g n m t z x = 0 then (tagB o a g n m t z x, 0) else (⟨#[]⟩, qcz_ o a g n m t z x)
theorem qgs_ {o : ByteArray} {a : Int} {g n m : ByteArray} {t z : Int} {x : ByteArray} (h : qcz_ o a g n m t z x = 0) : tagOk o a g n m t z x ∧ x.size ≤ 4096 := by
 unfold qcz_ at h
 split at h
 ·rename_i k
  refine ⟨k, ?_⟩
  split at h
  ·cases h
  ·omega
 ·cases h
theorem named_len {s : ByteArray} (h : qem_ s = true) : s.size ≤ 64 := by
 unfold qem_ edge at h
 simp only [Bool.and_eq_true, Bool.not_eq_true', Bool.or_eq_false_iff, decide_eq_false_iff_not] at h
 omega
theorem qed_ {n m : ByteArray} {t z : Int} (hp : qdh_ n m t z = true) : n.size ≤ 64 ∧ m.size ≤ 64 ∧ 0 ≤ t ∧ t ≤ 1099511627776 ∧ -840 ≤ z ∧ z ≤ 840 := by
 unfold qdh_ at hp
 simp only [Bool.and_eq_true, decide_eq_true_eq] at hp
 exact ⟨named_len hp.1, named_len hp.2.1, hp.2.2.1, hp.2.2.2.1, hp.2.2.2.2.1, hp.2.2.2.2.2⟩
theorem whoL_len {n m : ByteArray} {t z : Int} (hp : qdh_ n m t z = true) : (whoL n.data.toList m.data.toList t z).length ≤ 200 := by
 obtain ⟨l1, l2, h0, h1, _, _⟩ := qed_ hp
 unfold whoL
 rw [tailL_eq]
 simp only [List.length_append, List.length_cons, qbr_, zoneL_eq, List.length_nil]
 have := itoa_len t (by omega) (by omega)
 omega
theorem word_size (a : Int) : (wordB a).size ≤ 6 := by
 unfold wordB
 repeat' split
 all_goals decide
theorem id_size {o : ByteArray} (h : idOk o = true) : o.size = 40 := by
 unfold idOk at h
 rw [Bool.and_eq_true, decide_eq_true_eq] at h
 exact h.1
theorem tag_text (o w g h x : ByteArray) : (((((((((⟨#[111, 98, 106, 101, 99, 116, 32]⟩ : ByteArray) ++ o) ++ (⟨#[10, 116, 121, 112, 101, 32]⟩ : ByteArray)) ++ w) ++ (⟨#[10, 116, 97, 103, 32]⟩ : ByteArray)) ++ g) ++ (⟨#[10, 116, 97, 103, 103, 101, 114, 32]⟩ : ByteArray)) ++ h) ++ (⟨#[10, 10]⟩ : ByteArray)) ++ x
  = mk ([111, 98, 106, 101, 99, 116, 32] ++ (o.data.toList ++ 10 :: ([116, 121, 112, 101, 32] ++ (w.data.toList ++ 10 :: ([116, 97, 103, 32] ++ (g.data.toList ++ 10 :: ([116, 97, 103, 103, 101, 114, 32] ++ (h.data.toList ++ 10 :: (10 :: x.data.toList))))))))) := by
 refine qei_ ?_
 simp only [qdr_, qbe_]
 simp only [List.append_assoc, List.cons_append, List.nil_append]
theorem tag_sizes {o : ByteArray} {a : Int} {g n m : ByteArray} {t z : Int} {x : ByteArray} (h : qcz_ o a g n m t z x = 0) : o.size = 40 ∧ (wordB a).size ≤ 6 ∧ g.size ≤ 64 ∧ (whoB n m t z).size ≤ 200 ∧ x.size ≤ 4096 := by
 obtain ⟨⟨h1, h2, h3, h4, h5⟩, h6⟩ := qgs_ h
 refine ⟨id_size h1, word_size a, ?_, ?_, h6⟩
 ·unfold qff_ at h3
  simp only [Bool.and_eq_true, decide_eq_true_eq] at h3
  exact h3.2.2
 ·unfold whoB
  rw [qbk_]
  exact whoL_len h4
theorem TagBody_ev (o : ByteArray) (a : Int) (g n m : ByteArray) (t z : Int) (x : ByteArray) (hg : g.size ≤ 140737488351232) (hn : n.size ≤ 140737488351232) (hm : m.size ≤ 140737488351232) (hx : x.size < 4294967281) : Ev (fun k => qbo_.f k o a g n m t z x) (tagBodyB o a g n m t z x) := by
 refine Ev.bind (CheckTag_ev o a g n m t z x hg hn hm hx) ?_
 unfold tagBodyB
 refine qr_ (fun h => ?_) (fun h => ?_)
 ·obtain ⟨z1, z2, z3, z4, z5⟩ := tag_sizes h
  obtain ⟨l1, l2, h0, h1, h2, h3⟩ := qed_ (qgs_ h).1.2.2.2.1
  rw [if_pos h, Word_eq, Who_eq n m t z (by omega) (by omega) (by omega) (by omega) (by omega) (by omega)]
  simp only [Option.bind_some, ByteArray.size_append]
  generalize hw : wordB a = w at *
  generalize hh : whoB n m t z = v at *
  have s1 : (⟨#[111, 98, 106, 101, 99, 116, 32]⟩ : ByteArray).size = 7 := rfl
  have s2 : (⟨#[10, 116, 121, 112, 101, 32]⟩ : ByteArray).size = 6 := rfl
  have s3 : (⟨#[10, 116, 97, 103, 32]⟩ : ByteArray).size = 5 := rfl
  have s4 : (⟨#[10, 116, 97, 103, 103, 101, 114, 32]⟩ : ByteArray).size = 8 := rfl
  have s5 : (⟨#[10, 10]⟩ : ByteArray).size = 2 := rfl
  rw [s1, s2, s3, s4, s5]
  refine qav_ (by omega) (qav_ (by omega) (qav_ (by omega) (qav_ (by omega) (qav_ (by omega) (qav_ (by omega) (qav_ (by omega) (qav_ (by omega) (qav_ (by omega) ?_))))))))
  refine ev_eq (Ev.now _) ?_
  rw [tag_text]
  unfold tagB tagL
  rw [hw, ← hh]
  unfold whoB
  rw [qbe_]
 ·rw [if_neg h]; exact Ev.now _
theorem word_kind (s : ByteArray) (h : kindF s 4 0 ≠ 0) : wordB (kindF s 4 0) = s ∧ 1 ≤ kindF s 4 0 ∧ kindF s 4 0 ≤ 4 := by
 have tl : ∀ a b : ByteArray, a.toList = b.toList → a = b := fun a b e => qei_ (by rw [← ByteArray.toList_eq, ← ByteArray.toList_eq]; exact e)
 simp only [kindF] at h ⊢
 by_cases h1 : (kindW 0).toList = s.toList
 ·rw [if_pos h1]; exact ⟨tl _ _ h1, by omega, by omega⟩
 rw [if_neg h1] at h ⊢
 by_cases h2 : (kindW (0 + 1)).toList = s.toList
 ·rw [if_pos h2]; exact ⟨tl _ _ h2, by omega, by omega⟩
 rw [if_neg h2] at h ⊢
 by_cases h3 : (kindW (0 + 1 + 1)).toList = s.toList
 ·rw [if_pos h3]; exact ⟨tl _ _ h3, by omega, by omega⟩
 rw [if_neg h3] at h ⊢
 by_cases h4 : (kindW (0 + 1 + 1 + 1)).toList = s.toList
 ·rw [if_pos h4]; exact ⟨tl _ _ h4, by omega, by omega⟩
 rw [if_neg h4] at h
 exact absurd rfl h
theorem tag_again (s : ByteArray) (o : ByteArray) (a : Int) (g n m : ByteArray) (t z : Int) (x : ByteArray) (h : qdj_ s = (o, a, g, n, m, t, z, x, 0)) : qcz_ o a g n m t z x = 0 ∧ tagB o a g n m t z x = s := by
 unfold qdj_ at h
 by_cases hg : tGood s
 ·rw [if_pos hg] at h
  by_cases h1 : (tWho s).2.2.2.2 = 1
  ·rw [if_pos h1] at h
   unfold noTag at h
   simp only [Prod.mk.injEq] at h
   exact absurd h.2.2.2.2.2.2.2.2 (by decide)
  rw [if_neg h1] at h
  by_cases h2 : tCheck s = 0
  ·rw [if_pos h2] at h
   simp only [Prod.mk.injEq] at h
   obtain ⟨q1, q2, q3, q4, q5, q6, q7, q8, -⟩ := h
   have hc := h2
   unfold tCheck at hc
   rw [q1, q2, q3, q4, q5, q6, q7, q8] at hc
   refine ⟨hc, ?_⟩
   obtain ⟨g1, g2, g3, g4, g5, g6, g7, g8, g9⟩ := hg
   have w0 : (tWho s).2.2.2.2 = 0 := by
    rcases qeq_ (mk (tL4 s).1) with w | w | w
    ·exact w
    ·exact absurd w h1
    ·exact absurd w g7
   have hw : qbb_ (mk (tL4 s).1) = (n, m, t, z, 0) := by
    change tWho s = _
    rw [← q4, ← q5, ← q6, ← q7, ← w0]
   have ww := (who_again _ n m t z hw).1
   have wl : whoL n.data.toList m.data.toList t z = (tL4 s).1 := by
    have := congrArg (fun b : ByteArray => b.data.toList) ww
    unfold whoB at this
    simpa only [qbe_] using this
   have wk := word_kind (mk (tL2 s).1) g4
   have wkl : (wordB a).data.toList = (tL2 s).1 := by
    rw [← q2]
    change (wordB (kindF (mk (tL2 s).1) 4 0)).data.toList = _
    rw [wk.1, qbe_]
   have t1 : s.data.toList = _ := qdq_ (u := s.data.toList) g1
   have t2 := qdq_ (u := (tL1 s).2.1) g3
   have t3 := qdq_ (u := (tL2 s).2.1) g5
   have t4 := qdq_ (u := (tL3 s).2.1) g6
   have t5 := qex_ (tL4 s).2.1 ⟨g8, g9⟩
   change s.data.toList = [111, 98, 106, 101, 99, 116, 32] ++ ((tL1 s).1 ++ 10 :: (tL1 s).2.1) at t1
   change (tL1 s).2.1 = [116, 121, 112, 101, 32] ++ ((tL2 s).1 ++ 10 :: (tL2 s).2.1) at t2
   change (tL2 s).2.1 = [116, 97, 103, 32] ++ ((tL3 s).1 ++ 10 :: (tL3 s).2.1) at t3
   change (tL3 s).2.1 = [116, 97, 103, 103, 101, 114, 32] ++ ((tL4 s).1 ++ 10 :: (tL4 s).2.1) at t4
   change (tL4 s).2.1 = 10 :: (tL5 s).2.1 at t5
   refine qei_ ?_
   unfold tagB tagL
   rw [qbe_, wkl, wl, ← q1, ← q3, ← q8, qbe_, qbe_, qbe_, ← t5, ← t4, ← t3, ← t2, ← t1]
  ·rw [if_neg h2] at h
   unfold noTag at h
   simp only [Prod.mk.injEq] at h
   exact absurd h.2.2.2.2.2.2.2.2 h2
 ·rw [if_neg hg] at h
  unfold noTag at h
  simp only [Prod.mk.injEq] at h
  exact absurd h.2.2.2.2.2.2.2.2 (by decide)
theorem idxF_ev (l : List ByteArray) (hl : l.length ≤ 140737488351232) (g : ByteArray → Option Bool) (p : ByteArray → Bool) (hg : ∀ z, g z = some (p z)) : ∀ (d i : Nat), i + d = l.length → ∃ r : Int, Ev (fun k => qm_.l0 k l g (l.length : Int) i) r ∧ decide (r ≥ 0) = (l.drop i).any p
 | 0, i, h => ⟨-1, Ev.step (f := ?_) (fun k => by rw [qm_.l0, if_neg (by omega)]) (Ev.now _), by rw [List.drop_of_length_le (by omega)]; rfl⟩
 | d + 1, i, h => by
  have hi : i < l.length := by omega
  rw [List.drop_eq_getElem_cons hi, List.any_cons]
  cases hp : p l[i] with
  | true => exact ⟨(i : Int), Ev.step (f := ?_) (fun k => by rw [qm_.l0, if_pos (by omega), if_pos (by omega), if_pos (by omega), rd_ext l i hi, hg, Option.bind_some]) (qav_ hp (Ev.now _)), by simp⟩
  | false =>
   obtain ⟨r, h1, h2⟩ := idxF_ev l hl g p hg d (i + 1) (by omega)
   exact ⟨r, Ev.step (f := ?_) (fun k => by rw [qm_.l0, if_pos (by omega), if_pos (by omega), if_pos (by omega), rd_ext l i hi, hg, Option.bind_some, qel_ i (by omega)]) (ev_no (show ¬ p l[i] = true by rw [hp]; decide) h1), by simpa using h2⟩
theorem containsF_ev (l : List ByteArray) (hl : l.length ≤ 140737488351232) (g : ByteArray → Option Bool) (p : ByteArray → Bool) (hg : ∀ z, g z = some (p z)) : Ev (fun k => qaf_.f k l g) (l.any p) := by
 obtain ⟨r, h1, h2⟩ := idxF_ev l hl g p hg l.length 0 (by omega)
 refine Ev.bind h1 (ev_eq (Ev.now _) ?_)
 rw [h2, List.drop_zero]
def dupL : List (List UInt8) → List ByteArray → Bool
 | _, [] => false
 | seen, p :: r => decide (p.data.toList ∈ seen) || dupL (seen ++ [p.data.toList]) r
theorem chk_l0 (l : List ByteArray) (hl : l.length ≤ 140737488351232) (hs : ∀ p ∈ l, p.size ≤ 140737488351232) : ∀ (u : List ByteArray) (i : Nat) (seen : List (List UInt8)) (m : MSB), l.drop i = u → i ≤ l.length → m.n ≤ i → (∀ y, m.f y = if y ∈ seen then some true else none) → Ev (fun k => qq_.l0 k l (l.length : Int) i m) (if dupL seen u = true then 6 else 0)
 | [], i, seen, m, h, hi, hm, hf => by
  have : l.length ≤ i := by have := congrArg List.length h; rw [List.length_drop] at this; simp at this; omega
  exact Ev.step (f := ?_) (fun k => by rw [qq_.l0, if_neg (by omega)]) (Ev.now _)
 | p :: r, i, seen, m, h, hi, hm, hf => by
  have hlt : i < l.length := by have := congrArg List.length h; rw [List.length_drop, List.length_cons] at this; omega
  rw [List.drop_eq_getElem_cons hlt] at h
  obtain ⟨h1, h2⟩ := List.cons.inj h
  have hsz := hs l[i] (List.getElem_mem hlt)
  refine Ev.step (f := ?_) (fun k => by rw [qq_.l0, if_pos (by omega), if_pos (by omega), if_pos (by omega), rd_ext l i hlt, if_pos (by omega), qel_ i (by omega)]) ?_
  rw [h1] at hsz ⊢
  have hget : MSB.get m p = decide (p.data.toList ∈ seen) := by
   unfold MSB.get
   rw [hf]
   by_cases q : p.data.toList ∈ seen
   ·rw [if_pos q, decide_eq_true q]; rfl
   ·rw [if_neg q, decide_eq_false q]; rfl
  rw [dupL]
  refine qr_ (fun g => ?_) (fun g => ?_)
  ·rw [hget] at g
   rw [g, Bool.true_or, if_pos rfl]; exact Ev.now _
  ·rw [hget, Bool.not_eq_true] at g
   rw [g, Bool.false_or]
   refine qav_ (by omega) (chk_l0 l hl hs r (i + 1) (seen ++ [p.data.toList]) (MSB.put m p true) h2 (by omega) (show m.n + 1 ≤ i + 1 by omega) (fun y => ?_))
   show (if y = p.data.toList then some true else m.f y) = _
   rw [hf]
   by_cases q : y = p.data.toList
   ·rw [if_pos q, if_pos (by rw [List.mem_append]; exact Or.inr (by simp [q]))]
   ·rw [if_neg q]
    by_cases q2 : y ∈ seen
    ·rw [if_pos q2, if_pos (by rw [List.mem_append]; exact Or.inl q2)]
    ·rw [if_neg q2, if_neg (by rw [List.mem_append]; simp [q, q2])]
section
variable (t : ByteArray) (l : List ByteArray) (an am : ByteArray) (aq az : Int) (cn cm : ByteArray) (cq cz : Int) (x : ByteArray)
theorem dup_l2 (hl : l.length ≤ 140737488351232) (i : Nat) (hi : i < l.length) (R : Int) (hR : Ev (fun k => qe_.l1 k ((i + 1 : Nat) : Int) t l an am aq az cn cm cq cz x) R) : ∀ (e j : Nat), j + e = i →
  Ev (fun k => qe_.l2 k i j t l an am aq az cn cm cq cz x) (if l[i].data.toList ∈ ((l.take i).drop j).map (fun p => p.data.toList) then 6 else R)
 | 0, j, h => by
  have : (l.take i).drop j = [] := List.drop_of_length_le (by rw [List.length_take]; omega)
  rw [this, if_neg (by simp)]
  exact Ev.step (f := ?_) (fun k => by rw [qe_.l2, if_neg (by omega), qel_ i (by omega)]) hR
 | e + 1, j, h => by
  have hj : j < l.length := by omega
  have hd : (l.take i).drop j = l[j] :: (l.take i).drop (j + 1) := by
   rw [List.drop_eq_getElem_cons (by rw [List.length_take]; omega), List.getElem_take]
  rw [hd, List.map_cons]
  refine Ev.step (f := ?_) (fun k => by rw [qe_.l2, if_pos (by omega), if_pos (by omega), if_pos (by omega), if_pos (by omega), if_pos (by omega), rd_ext l i hi, rd_ext l j hj, qel_ j (by omega)]) ?_
  refine qr_ (fun g => ?_) (fun g => ?_)
  ·rw [ByteArray.toList_eq, ByteArray.toList_eq] at g
   rw [if_pos (List.mem_cons.2 (Or.inl g))]; exact Ev.now _
  ·rw [ByteArray.toList_eq, ByteArray.toList_eq] at g
   refine ev_eq (dup_l2 hl i hi R hR e (j + 1) (by omega)) ?_
   by_cases q : l[i].data.toList ∈ ((l.take i).drop (j + 1)).map (fun p => p.data.toList)
   ·rw [if_pos q, if_pos (List.mem_cons.2 (Or.inr q))]
   ·rw [if_neg q, if_neg (fun z => (List.mem_cons.1 z).elim g q)]
theorem dup_l1 (hl : l.length ≤ 140737488351232) : ∀ (d i : Nat), i + d = l.length → Ev (fun k => qe_.l1 k i t l an am aq az cn cm cq cz x) (if dupL ((l.take i).map (fun p => p.data.toList)) (l.drop i) = true then 6 else 0)
 | 0, i, h => by
  rw [List.drop_of_length_le (by omega)]
  exact Ev.step (f := ?_) (fun k => by rw [qe_.l1, if_neg (by omega)]) (Ev.now _)
 | d + 1, i, h => by
  have hi : i < l.length := by omega
  have ih := dup_l1 hl d (i + 1) (by omega)
  refine Ev.step (f := ?_) (fun k => by rw [qe_.l1, if_pos (by omega)]) (ev_eq (dup_l2 t l an am aq az cn cm cq cz x hl i hi _ ih i 0 (by omega)) ?_)
  rw [List.drop_zero, List.drop_eq_getElem_cons hi, dupL, List.take_succ_eq_append_getElem hi, List.map_append]
  by_cases q : l[i].data.toList ∈ (l.take i).map (fun p => p.data.toList)
  ·rw [if_pos q, decide_eq_true q, Bool.true_or, if_pos rfl]
  ·rw [if_neg q, decide_eq_false q, Bool.false_or]; rfl
def comOk : Prop := idOk t = true ∧ (∀ p ∈ l, idOk p = true) ∧ qdh_ an am aq az = true ∧ qdh_ cn cm cq cz = true ∧ zeroB x = false
instance : Decidable (comOk t l an am aq az cn cm cq cz x) := by unfold comOk; infer_instance
def qea_ : Int := if comOk t l an am aq az cn cm cq cz x then (if x.size > 4096 ∨ l.length > 8 then 4 else if dupL [] l = true then 6 else 0) else 1
theorem qfw_ : l.any (fun p => !idOk p) = true ↔ ¬ ∀ p ∈ l, idOk p = true := by
 rw [List.any_eq_true]
 constructor
 ·rintro ⟨p, hp, h⟩ q
  rw [q p hp] at h; cases h
 ·intro h
  refine Classical.byContradiction fun g => h (fun p hp => ?_)
  cases e : idOk p with
  | true => rfl
  | false => exact absurd ⟨p, hp, by rw [e]; rfl⟩ g
theorem Check_ev (hl : l.length ≤ 140737488351232) (hn : an.size ≤ 140737488351232) (hm : am.size ≤ 140737488351232) (hcn : cn.size ≤ 140737488351232) (hcm : cm.size ≤ 140737488351232) (hx : x.size < 4294967281) : Ev (fun k => qq_.f k t l an am aq az cn cm cq cz x) (qea_ t l an am aq az cn cm cq cz x) := by
 have bad : ¬ comOk t l an am aq az cn cm cq cz x → Ev (fun k => qq_.j0 k true t l an am aq az cn cm cq cz x) (qea_ t l an am aq az cn cm cq cz x) := fun h => by
  unfold qea_; rw [if_neg h]
  exact Ev.step (f := ?_) (fun k => by rw [qq_.j0, if_pos rfl]) (Ev.now _)
 refine Ev.bind (Ev.now (!idOk t)) (qr_ (fun g1 => bad (fun e => by rw [e.1] at g1; cases g1)) (fun g1 => ?_))
 refine Ev.bind (containsF_ev l hl _ (fun p => !idOk p) (fun z => rfl)) (qr_ (fun g2 => bad (fun e => (qfw_ l).1 g2 e.2.1)) (fun g2 => ?_))
 refine Ev.bind (qfr_ an am aq az hn hm) (qr_ (fun g3 => ?_) (fun g3 => bad (fun e => g3 e.2.2.1)))
 refine Ev.bind (qfr_ cn cm cq cz hcn hcm) (qr_ (fun g4 => ?_) (fun g4 => bad (fun e => g4 e.2.2.2.1)))
 rw [qgv_ x hx]
 simp only [Option.bind_some]
 cases g5 : zeroB x with
 | true => exact bad (fun e => by have := e.2.2.2.2; rw [g5] at this; cases this)
 | false =>
  have hid : ∀ p ∈ l, idOk p = true := Classical.byContradiction fun h => g2 ((qfw_ l).2 h)
  have ok : comOk t l an am aq az cn cm cq cz x := ⟨by simpa using g1, hid, g3, g4, g5⟩
  unfold qea_
  rw [if_pos ok]
  refine Ev.step (f := ?_) (fun k => by rw [qq_.j0, if_neg (by decide)]) (qr_ (fun h => ?_) (fun h => ?_))
  ·rw [if_pos (Or.inl (by omega))]
   exact Ev.step (f := ?_) (fun k => by rw [qq_.j1, if_pos rfl]) (Ev.now _)
  ·by_cases h2 : (l.length : Int) > 8
   ·rw [if_pos (Or.inr (by omega)), decide_eq_true h2]
    exact Ev.step (f := ?_) (fun k => by rw [qq_.j1, if_pos rfl]) (Ev.now _)
   ·rw [if_neg (fun z => z.elim (fun q => h (by omega)) (fun q => h2 (by omega))), decide_eq_false h2]
    refine Ev.step (f := ?_) (fun k => by rw [qq_.j1, if_neg (by decide)]) ?_
    exact chk_l0 l hl (fun p hp => by have := id_size (hid p hp); omega) l 0 [] MSB.nil (List.drop_zero) (Nat.zero_le _) (Nat.zero_le _) (fun y => by simp [MSB.nil])
theorem qfz_ (hl : l.length ≤ 140737488351232) : ∀ (d i : Nat), i + d = l.length → Ev (fun k => qe_.l0 k true i t l an am aq az cn cm cq cz x) 1
 | 0, i, h => Ev.step (f := ?_) (fun k => by rw [qe_.l0, if_neg (by omega), if_pos rfl]) (Ev.now _)
 | d + 1, i, h => Ev.step (f := ?_) (fun k => by rw [qe_.l0, if_pos (by omega), if_pos rfl, qel_ i (by omega)]) (qfz_ hl d (i + 1) (by omega))
theorem qgu_ (hl : l.length ≤ 140737488351232) (R : Int) (hR : Ev (fun k => if (x.size : Int) > 4096 then qe_.j2 k true t l an am aq az cn cm cq cz x else qe_.j2 k (decide ((l.length : Int) > 8)) t l an am aq az cn cm cq cz x) R) : ∀ (d i : Nat), i + d = l.length →
  Ev (fun k => qe_.l0 k false i t l an am aq az cn cm cq cz x) (if (l.drop i).any (fun p => !idOk p) = true then 1 else R)
 | 0, i, h => by
  rw [List.drop_of_length_le (by omega)]
  exact Ev.step (f := ?_) (fun k => by rw [qe_.l0, if_neg (by omega), if_neg (by decide)]) hR
 | d + 1, i, h => by
  have hi : i < l.length := by omega
  rw [List.drop_eq_getElem_cons hi, List.any_cons]
  refine Ev.step (f := ?_) (fun k => by rw [qe_.l0, if_pos (by omega), if_neg (by decide), if_pos (by omega), rd_ext l i hi, qel_ i (by omega)]) ?_
  refine Ev.bind (qeu_ l[i]) ?_
  cases e : idOk l[i] with
  | true => exact qgu_ hl R hR d (i + 1) (by omega)
  | false => exact qfz_ t l an am aq az cn cm cq cz x hl d (i + 1) (by omega)
theorem refCheck_ev (hl : l.length ≤ 140737488351232) (hn : an.size ≤ 140737488351232) (hm : am.size ≤ 140737488351232) (hcn : cn.size ≤ 140737488351232) (hcm : cm.size ≤ 140737488351232) (hx : x.size < 4294967281) : Ev (fun k => qe_.f k t l an am aq az cn cm cq cz x) (qea_ t l an am aq az cn cm cq cz x) := by
 have bad : ¬ comOk t l an am aq az cn cm cq cz x → Ev (fun k => qe_.j0 k true t l an am aq az cn cm cq cz x) (qea_ t l an am aq az cn cm cq cz x) := fun h => by
  unfold qea_; rw [if_neg h]
  exact Ev.step (f := ?_) (fun k => by rw [qe_.j0]) (qfz_ t l an am aq az cn cm cq cz x hl l.length 0 (by omega))
 refine Ev.bind (qeu_ t) (qr_ (fun g1 => ?_) (fun g1 => bad (fun e => g1 e.1)))
 refine Ev.bind (qgd_ an am aq az hn hm) (qr_ (fun g3 => ?_) (fun g3 => bad (fun e => g3 e.2.2.1)))
 refine Ev.bind (qgd_ cn cm cq cz hcn hcm) (qr_ (fun g4 => ?_) (fun g4 => bad (fun e => g4 e.2.2.2.1)))
 refine Ev.bind (zero_ev x (by omega)) ?_
 cases g5 : zeroB x with
 | true => exact bad (fun e => by have := e.2.2.2.2; rw [g5] at this; cases this)
 | false =>
  have tail : Ev (fun k => if (x.size : Int) > 4096 then qe_.j2 k true t l an am aq az cn cm cq cz x else qe_.j2 k (decide ((l.length : Int) > 8)) t l an am aq az cn cm cq cz x) (if x.size > 4096 ∨ l.length > 8 then 4 else if dupL [] l = true then 6 else 0) := by
   refine qr_ (fun h => ?_) (fun h => ?_)
   ·rw [if_pos (Or.inl (by omega))]
    exact Ev.step (f := ?_) (fun k => by rw [qe_.j2, if_pos rfl]) (Ev.now _)
   ·by_cases h2 : (l.length : Int) > 8
    ·rw [if_pos (Or.inr (by omega)), decide_eq_true h2]
     exact Ev.step (f := ?_) (fun k => by rw [qe_.j2, if_pos rfl]) (Ev.now _)
    ·rw [if_neg (fun z => z.elim (fun q => h (by omega)) (fun q => h2 (by omega))), decide_eq_false h2]
     exact Ev.step (f := ?_) (fun k => by rw [qe_.j2, if_neg (by decide)]) (dup_l1 t l an am aq az cn cm cq cz x hl l.length 0 (by omega))
  refine Ev.step (f := ?_) (fun k => by rw [qe_.j0]) (ev_eq (qgu_ t l an am aq az cn cm cq cz x hl _ tail l.length 0 (by omega)) ?_)
  rw [List.drop_zero]
  unfold qea_
  by_cases h : l.any (fun p => !idOk p) = true
  ·rw [if_pos h, if_neg (fun e : comOk t l an am aq az cn cm cq cz x => (qfw_ l).1 h e.2.1)]
  ·rw [if_neg h, if_pos (show comOk t l an am aq az cn cm cq cz x from ⟨g1, Classical.byContradiction fun q => h ((qfw_ l).2 q), g3, g4, g5⟩)]
end
end Go.Proofs.YtbhfbbfjdklfgaaGreatDoor.Q
namespace Go.Proofs.YtbhfbbfjdklfgaaGreatDoor.Q
open Go.Proofs.Tryz Go.RowKit Go.Proofs.YtbhfbbfjdklfgaaGreatDoorW.PrintWords Go.Proofs.YtbhfbbfjdklfgaaGreatDoorW.PrintLast Go.Proofs.YtbhfbbfjdklfgaaGreatDoorW.PrintMore
def PAR : List UInt8 := [112, 97, 114, 101, 110, 116, 32]
def parsL : List ByteArray → List UInt8
 | [] => []
 | p :: r => PAR ++ (p.data.toList ++ 10 :: parsL r)
def endL (wa wc x : List UInt8) : List UInt8 := [97, 117, 116, 104, 111, 114, 32] ++ (wa ++ 10 :: ([99, 111, 109, 109, 105, 116, 116, 101, 114, 32] ++ (wc ++ 10 :: (10 :: x))))
def comL (t : List UInt8) (l : List ByteArray) (wa wc x : List UInt8) : List UInt8 := [116, 114, 101, 101, 32] ++ (t ++ 10 :: (parsL l ++ endL wa wc x))
theorem end_text (b h v x : ByteArray) : ((((b ++ (⟨#[97, 117, 116, 104, 111, 114, 32]⟩ : ByteArray)) ++ h) ++ (⟨#[10, 99, 111, 109, 109, 105, 116, 116, 101, 114, 32]⟩ : ByteArray)) ++ v) ++ (⟨#[10, 10]⟩ : ByteArray) ++ x = mk (b.data.toList ++ endL h.data.toList v.data.toList x.data.toList) := by
 refine qei_ ?_
 unfold endL
 simp only [qdr_, qbe_, List.append_assoc, List.cons_append, List.nil_append]
theorem par_text (b p : ByteArray) : b ++ (((⟨#[112, 97, 114, 101, 110, 116, 32]⟩ : ByteArray) ++ p) ++ (⟨#[10]⟩ : ByteArray)) = mk (b.data.toList ++ (PAR ++ (p.data.toList ++ [10]))) := by
 refine qei_ ?_
 unfold PAR
 simp only [qdr_, qbe_, List.append_assoc, List.cons_append, List.nil_append]
theorem head_text (t : ByteArray) : ((⟨#[116, 114, 101, 101, 32]⟩ : ByteArray) ++ t) ++ (⟨#[10]⟩ : ByteArray) = mk ([116, 114, 101, 101, 32] ++ (t.data.toList ++ [10])) := by
 refine qei_ ?_
 simp only [qdr_, qbe_, List.append_assoc, List.cons_append, List.nil_append]
theorem par_step (b p : ByteArray) (r : List ByteArray) (e : List UInt8) : (mk (b.data.toList ++ (PAR ++ (p.data.toList ++ [10])))).data.toList ++ (parsL r ++ e) = b.data.toList ++ (parsL (p :: r) ++ e) := by
 rw [qbe_, parsL]
 simp only [List.append_assoc, List.cons_append, List.nil_append]
theorem par_size (b p : ByteArray) : (mk (b.data.toList ++ (PAR ++ (p.data.toList ++ [10])))).size = b.size + p.size + 8 := by
 rw [qbk_]
 simp only [List.length_append, List.length_cons, List.length_nil, qbr_, PAR]
 omega
section
variable (t : ByteArray) (l : List ByteArray) (an am : ByteArray) (aq az : Int) (cn cm : ByteArray) (cq cz : Int) (x : ByteArray)
def comB : ByteArray := mk (comL t.data.toList l (whoL an.data.toList am.data.toList aq az) (whoL cn.data.toList cm.data.toList cq cz) x.data.toList)
def bodyB : ByteArray × Int := if qea_ t l an am aq az cn cm cq cz x = 0 then (comB t l an am aq az cn cm cq cz x, 0) else (⟨#[]⟩, qea_ t l an am aq az cn cm cq cz x)
theorem com_zero (h : qea_ t l an am aq az cn cm cq cz x = 0) : comOk t l an am aq az cn cm cq cz x ∧ x.size ≤ 4096 ∧ l.length ≤ 8 := by
 unfold qea_ at h
 split at h
 ·rename_i k
  refine ⟨k, ?_⟩
  split at h
  ·cases h
  ·rename_i q
   constructor
   ·exact Nat.le_of_not_lt (fun z => q (Or.inl z))
   ·exact Nat.le_of_not_lt (fun z => q (Or.inr z))
 ·cases h
theorem whoB_size {n m : ByteArray} {t z : Int} (hp : qdh_ n m t z = true) : (whoB n m t z).size ≤ 200 := by
 unfold whoB; rw [qbk_]; exact whoL_len hp
theorem author_size : (⟨#[97, 117, 116, 104, 111, 114, 32]⟩ : ByteArray).size = 7 := rfl
theorem committer_size : (⟨#[10, 99, 111, 109, 109, 105, 116, 116, 101, 114, 32]⟩ : ByteArray).size = 11 := rfl
theorem parent_size : (⟨#[112, 97, 114, 101, 110, 116, 32]⟩ : ByteArray).size = 7 := rfl
theorem tree_size : (⟨#[116, 114, 101, 101, 32]⟩ : ByteArray).size = 5 := rfl
theorem nl_size : (⟨#[10]⟩ : ByteArray).size = 1 := rfl
theorem nl2_size : (⟨#[10, 10]⟩ : ByteArray).size = 2 := rfl
theorem whoB_data (n m : ByteArray) (t z : Int) : (whoB n m t z).data.toList = whoL n.data.toList m.data.toList t z := by unfold whoB; exact qbe_ _
theorem Body_l0 (h : qea_ t l an am aq az cn cm cq cz x = 0) : ∀ (u : List ByteArray) (i : Nat) (b : ByteArray), l.drop i = u → b.size + 48 * u.length ≤ 1000 →
  Ev (fun k => qaw_.l0 k b l (l.length : Int) i t l an am aq az cn cm cq cz x) (mk (b.data.toList ++ (parsL u ++ endL (whoL an.data.toList am.data.toList aq az) (whoL cn.data.toList cm.data.toList cq cz) x.data.toList)), 0)
 | [], i, b, hu, hb => by
  obtain ⟨⟨h1, h2, h3, h4, h5⟩, h6, h7⟩ := com_zero t l an am aq az cn cm cq cz x h
  obtain ⟨l1, l2, p0, p1, p2, p3⟩ := qed_ h3
  obtain ⟨m1, m2, q0, q1, q2, q3⟩ := qed_ h4
  have s1 := whoB_size h3
  have s2 := whoB_size h4
  have hi : l.length ≤ i := by have := congrArg List.length hu; rw [List.length_drop] at this; simp at this; omega
  rw [List.length_nil] at hb
  refine Ev.step (f := ?_) (fun k => by rw [qaw_.l0, if_neg (by omega), if_pos (by omega), Who_eq an am aq az (by omega) (by omega) (by omega) (by omega) (by omega) (by omega), Who_eq cn cm cq cz (by omega) (by omega) (by omega) (by omega) (by omega) (by omega), Option.bind_some, Option.bind_some]) ?_
  simp only [ByteArray.size_append, author_size, committer_size, nl2_size]
  rw [← whoB_data an am aq az, ← whoB_data cn cm cq cz]
  generalize whoB an am aq az = wa at *
  generalize whoB cn cm cq cz = wc at *
  refine qav_ (by omega) (qav_ (by omega) (qav_ (by omega) (qav_ (by omega) (qav_ (by omega) ?_))))
  refine ev_eq (Ev.now _) ?_
  rw [end_text]; rfl
 | p :: r, i, b, hu, hb => by
  obtain ⟨⟨h1, h2, h3, h4, h5⟩, h6, h7⟩ := com_zero t l an am aq az cn cm cq cz x h
  have hlt : i < l.length := by have := congrArg List.length hu; rw [List.length_drop, List.length_cons] at this; omega
  rw [List.drop_eq_getElem_cons hlt] at hu
  obtain ⟨e1, e2⟩ := List.cons.inj hu
  have hsz := id_size (h2 l[i] (List.getElem_mem hlt))
  rw [List.length_cons] at hb
  refine Ev.step (f := ?_) (fun k => by rw [qaw_.l0, if_pos (by omega), if_pos (by omega), if_pos (by omega), rd_ext l i hlt, qel_ i (by omega)]) ?_
  rw [e1] at hsz ⊢
  simp only [ByteArray.size_append, parent_size, nl_size]
  refine qav_ (by omega) (qav_ (by omega) (qav_ (by omega) ?_))
  rw [par_text]
  refine ev_eq (Body_l0 h r (i + 1) _ e2 (by rw [par_size]; omega)) ?_
  rw [par_step]
theorem head_eq (t : ByteArray) (e : List UInt8) : (mk ([116, 114, 101, 101, 32] ++ (t.data.toList ++ [10]))).data.toList ++ e = [116, 114, 101, 101, 32] ++ (t.data.toList ++ 10 :: e) := by
 rw [qbe_]
 simp only [List.append_assoc, List.cons_append, List.nil_append]
theorem head_size (t : ByteArray) : (mk ([116, 114, 101, 101, 32] ++ (t.data.toList ++ [10]))).size = t.size + 6 := by
 rw [qbk_]
 simp only [List.length_append, List.length_cons, List.length_nil, qbr_]
 omega
theorem Body_ev (hl : l.length ≤ 140737488351232) (hn : an.size ≤ 140737488351232) (hm : am.size ≤ 140737488351232) (hcn : cn.size ≤ 140737488351232) (hcm : cm.size ≤ 140737488351232) (hx : x.size < 4294967281) : Ev (fun k => qaw_.f k t l an am aq az cn cm cq cz x) (bodyB t l an am aq az cn cm cq cz x) := by
 refine Ev.bind (Check_ev t l an am aq az cn cm cq cz x hl hn hm hcn hcm hx) ?_
 unfold bodyB
 refine qr_ (fun h => ?_) (fun h => ?_)
 ·obtain ⟨⟨h1, h2, h3, h4, h5⟩, h6, h7⟩ := com_zero t l an am aq az cn cm cq cz x h
  have ht := id_size h1
  rw [if_pos h]
  refine qav_ (by omega) (qav_ (by rw [ByteArray.size_append, tree_size]; omega) ?_)
  rw [head_text]
  refine ev_eq (Body_l0 t l an am aq az cn cm cq cz x h l 0 _ List.drop_zero (by rw [head_size]; omega)) ?_
  rw [head_eq]; rfl
 ·rw [if_neg h]; exact Ev.now _
end
end Go.Proofs.YtbhfbbfjdklfgaaGreatDoor.Q
namespace Go.Proofs.YtbhfbbfjdklfgaaGreatDoor.Q
open Go.Proofs.Tryz Go.RowKit Go.Proofs.YtbhfbbfjdklfgaaGreatDoorW.PrintWords Go.Proofs.YtbhfbbfjdklfgaaGreatDoorW.PrintLast Go.Proofs.YtbhfbbfjdklfgaaGreatDoorW.PrintMore
def TRE : List UInt8 := [116, 114, 101, 101, 32]
def AUT : List UInt8 := [97, 117, 116, 104, 111, 114, 32]
def COM : List UInt8 := [99, 111, 109, 109, 105, 116, 116, 101, 114, 32]
theorem HasPrefix_eq (s p : ByteArray) : qcj_.f s p = some (decide (s.data.toList.take p.size = p.data.toList)) := by
 have hx : (s.extract 0 p.size).toList = s.data.toList.take p.size := by rw [ByteArray.toList_eq, qer_]; simp
 unfold qcj_.f qbz_.f
 by_cases h : (s.size : Int) ≥ (p.size : Int)
 ·rw [if_pos h, if_pos (by omega), if_pos (by omega), hx, ByteArray.toList_eq p]
  simp only [Option.bind_some]
  by_cases g : s.data.toList.take p.size = p.data.toList
  ·rw [decide_eq_true g, g]; simp
  ·rw [decide_eq_false g]; simp [g]
 ·rw [if_neg h]
  simp only [Option.bind_some]
  rw [decide_eq_false (fun e => ?_)]
  have := congrArg List.length e
  rw [List.length_take, qbr_, qbr_] at this
  omega
def parF : Nat → List UInt8 → List ByteArray × List UInt8 × Bool
 | 0, u => ([], u, true)
 | n + 1, u => if (lineF u PAR).2.2 = true then (if idOk (mk (lineF u PAR).1) = true then (mk (lineF u PAR).1 :: (parF n (lineF u PAR).2.1).1, (parF n (lineF u PAR).2.1).2) else ([], u, false)) else ([], u, true)
theorem qgr_ {u p : List UInt8} (h : (lineF u p).2.2 = true) : (lineF u p).2.1.length < u.length := by
 have := congrArg List.length (qdq_ h)
 simp only [List.length_append, List.length_cons] at this
 omega
theorem parF_len : ∀ (n : Nat) (u : List UInt8), (parF n u).2.1.length ≤ u.length
 | 0, u => Nat.le_refl _
 | n + 1, u => by
  rw [parF]
  split
  ·rename_i h
   split
   ·exact Nat.le_trans (parF_len n _) (Nat.le_of_lt (qgr_ h))
   ·exact Nat.le_refl _
  ·exact Nat.le_refl _
theorem no_line {u : List UInt8} (h : u.take PAR.length = PAR) (hl : (lineF u PAR).2.2 = false) (p : List UInt8) : (lineF u p).2.2 = false := by
 have hc : (Lib.cut u [10]).2.2 = false := by
  cases e : (Lib.cut u [10]).2.2 with
  | false => rfl
  | true =>
   exfalso
   have t := (qdy_ (l := u) (s := [10]) (a := (Lib.cut u [10]).1) (b := (Lib.cut u [10]).2.1) (by decide) (by rw [← e])).1
   generalize hA : (Lib.cut u [10]).1 = A at *
   generalize hB : (Lib.cut u [10]).2.1 = B at *
   have hA7 : A.take PAR.length = PAR := by
    by_cases q : PAR.length ≤ A.length
    ·rw [t, List.append_assoc, List.take_append_of_le_length q] at h; exact h
    ·exfalso
     have hlt : A.length < PAR.length := Nat.lt_of_not_le q
     have h10 : (u.take PAR.length)[A.length]? = some 10 := by
      rw [List.getElem?_take_of_lt hlt, t, List.append_assoc, List.getElem?_append_right (Nat.le_refl _), Nat.sub_self]; rfl
     rw [h] at h10
     have : ∀ i : Fin 7, PAR[i.val]? ≠ some 10 := by decide
     exact this ⟨A.length, hlt⟩ h10
   unfold lineF at hl
   rw [hA, if_pos ⟨e, hA7⟩] at hl
   cases hl
 unfold lineF
 rw [if_neg]
 rintro ⟨g, -⟩
 rw [hc] at g; cases g
def k1 (s : ByteArray) := lineF s.data.toList TRE
def kp (s : ByteArray) := parF s.size (k1 s).2.1
def kA (s : ByteArray) := lineF (kp s).2.1 AUT
def kC (s : ByteArray) := lineF (kA s).2.1 COM
def kE (s : ByteArray) := lineF (kC s).2.1 []
def kWA (s : ByteArray) := qbb_ (mk (kA s).1)
def kWC (s : ByteArray) := qbb_ (mk (kC s).1)
def kGood (s : ByteArray) : Prop := (k1 s).2.2 = true ∧ idOk (mk (k1 s).1) = true ∧ (kp s).2.2 = true ∧ (kA s).2.2 = true ∧ (kWA s).2.2.2.2 ≠ 2 ∧ (kC s).2.2 = true ∧ (kWC s).2.2.2.2 ≠ 2 ∧ (kE s).2.2 = true ∧ (kE s).1 = []
instance (s : ByteArray) : Decidable (kGood s) := by unfold kGood; infer_instance
abbrev ComR := ByteArray × List ByteArray × ByteArray × ByteArray × Int × Int × ByteArray × ByteArray × Int × Int × ByteArray × Int
def noCom (c : Int) : ComR := (⟨#[]⟩, [], ⟨#[]⟩, ⟨#[]⟩, 0, 0, ⟨#[]⟩, ⟨#[]⟩, 0, 0, ⟨#[]⟩, c)
def kCheck (s : ByteArray) : Int := qea_ (mk (k1 s).1) (kp s).1 (kWA s).1 (kWA s).2.1 (kWA s).2.2.1 (kWA s).2.2.2.1 (kWC s).1 (kWC s).2.1 (kWC s).2.2.1 (kWC s).2.2.2.1 (mk (kE s).2.1)
def qcx_ (s : ByteArray) : ComR :=
 if kGood s then (if (kWA s).2.2.2.2 = 1 ∨ (kWC s).2.2.2.2 = 1 then noCom 1 else if kCheck s = 0 then (mk (k1 s).1, (kp s).1, (kWA s).1, (kWA s).2.1, (kWA s).2.2.1, (kWA s).2.2.2.1, (kWC s).1, (kWC s).2.1, (kWC s).2.2.1, (kWC s).2.2.2.1, mk (kE s).2.1, 0) else noCom (kCheck s)) else noCom 2
theorem parF_num : ∀ (n : Nat) (u : List UInt8), (parF n u).1.length ≤ n
 | 0, u => Nat.le_refl _
 | n + 1, u => by
  rw [parF]
  split
  ·split
   ·exact Nat.succ_le_succ (parF_num n _)
   ·exact Nat.zero_le _
  ·exact Nat.zero_le _
theorem k_len (s : ByteArray) : (k1 s).1.length ≤ s.size ∧ (k1 s).2.1.length ≤ s.size ∧ (kp s).2.1.length ≤ s.size ∧ (kA s).1.length ≤ s.size ∧ (kA s).2.1.length ≤ s.size ∧ (kC s).1.length ≤ s.size ∧ (kC s).2.1.length ≤ s.size ∧ (kE s).1.length ≤ s.size ∧ (kE s).2.1.length ≤ s.size := by
 have h1 := qde_ s.data.toList TRE
 have h2 := parF_len s.size (k1 s).2.1
 have h3 := qde_ (kp s).2.1 AUT
 have h4 := qde_ (kA s).2.1 COM
 have h5 := qde_ (kC s).2.1 []
 rw [qbr_] at h1
 change (k1 s).1.length ≤ _ ∧ (k1 s).2.1.length ≤ _ at h1
 change (kp s).2.1.length ≤ _ at h2
 change (kA s).1.length ≤ _ ∧ (kA s).2.1.length ≤ _ at h3
 change (kC s).1.length ≤ _ ∧ (kC s).2.1.length ≤ _ at h4
 change (kE s).1.length ≤ _ ∧ (kE s).2.1.length ≤ _ at h5
 omega
theorem k_who_len (s : ByteArray) : (kWA s).1.size ≤ s.size ∧ (kWA s).2.1.size ≤ s.size ∧ (kWC s).1.size ≤ s.size ∧ (kWC s).2.1.size ≤ s.size := by
 obtain ⟨l1, l2, l3, l4, l5, l6, l7, l8, l9⟩ := k_len s
 have ha := who_len (mk (kA s).1)
 have hc := who_len (mk (kC s).1)
 rw [qbk_] at ha hc
 change (kWA s).1.size ≤ _ ∧ (kWA s).2.1.size ≤ _ at ha
 change (kWC s).1.size ≤ _ ∧ (kWC s).2.1.size ≤ _ at hc
 omega
theorem errW2_two (c : Int) : errW2 2 c = 2 := by
 unfold errW2
 by_cases h : c = 0
 ·rw [if_pos h]
 ·rw [if_neg h, if_neg (by decide)]
  by_cases g : c = 2
  ·rw [if_pos g]
  ·rw [if_neg g]
section
variable (t : ByteArray) (l : List ByteArray) (an am : ByteArray) (aq az : Int) (cn cm : ByteArray) (cq cz : Int) (x : ByteArray)
theorem qgn_ (a : ByteArray) : Ev (fun k => qh_.j2 k a 2 t l an am aq az cn cm cq cz x) (noCom 2) :=
 Ev.step (f := ?_) (fun k => by rw [qh_.j2, if_neg (by decide)]) (Ev.now _)
theorem com_j1_two (a : ByteArray) (ha : a.size ≤ 4294967000) : Ev (fun k => qh_.j1 k a 2 t l an am aq az cn cm cq cz x) (noCom 2) := by
 refine Ev.step (f := ?_) (fun k => by rw [qh_.j1]) ?_
 have h1 := qde_ a.data.toList AUT
 rw [qbr_] at h1
 refine Ev.bind (who_ev a 2 ⟨#[97, 117, 116, 104, 111, 114, 32]⟩ ha) ?_
 change Ev (fun k => (qay_.f k (mk (lineF a.data.toList AUT).2.1) (errW2 (if (lineF a.data.toList AUT).2.2 = true then 2 else 2) (qbb_ (mk (lineF a.data.toList AUT).1)).2.2.2.2) ⟨#[99, 111, 109, 109, 105, 116, 116, 101, 114, 32]⟩).bind _) _
 rw [ite_self, errW2_two]
 generalize (lineF a.data.toList AUT).2.1 = u at *
 have h2 := qde_ u COM
 refine Ev.bind (who_ev (mk u) 2 ⟨#[99, 111, 109, 109, 105, 116, 116, 101, 114, 32]⟩ (by rw [qbk_]; omega)) ?_
 rw [qbe_]
 change Ev (fun k => (qba_.f (mk (lineF u COM).2.1) (errW2 (if (lineF u COM).2.2 = true then 2 else 2) (qbb_ (mk (lineF u COM).1)).2.2.2.2) ⟨#[]⟩).bind _) _
 rw [ite_self, errW2_two]
 generalize (lineF u COM).2.1 = v at *
 rw [qfn_ _ _ _ (by rw [qbk_]; omega)]
 simp only [Option.bind_some]
 rw [qbe_]
 refine qr_ (fun g => ?_) (fun g => ?_)
 ·rw [ite_self]; exact qgn_ ..
 ·rw [qfo_]
  simp only [Option.bind_some]
  exact qgn_ ..
end
theorem com_j2 (s : ByteArray) (hs : s.size ≤ 4294967000) (e : Int) (x : ByteArray) (he : e = if kGood s then (if (kWA s).2.2.2.2 = 1 ∨ (kWC s).2.2.2.2 = 1 then 1 else 0) else 2) (hp : (kp s).1.length ≤ 140737488351232) :
  Ev (fun k => qh_.j2 k (mk (kE s).2.1) e (mk (k1 s).1) (kp s).1 (kWA s).1 (kWA s).2.1 (kWA s).2.2.1 (kWA s).2.2.2.1 (kWC s).1 (kWC s).2.1 (kWC s).2.2.1 (kWC s).2.2.2.1 x) (qcx_ s) := by
 obtain ⟨l1, l2, l3, l4, l5, l6, l7, l8, l9⟩ := k_len s
 obtain ⟨w1, w2, w3, w4⟩ := k_who_len s
 unfold qcx_
 by_cases hg : kGood s
 ·rw [if_pos hg] at he ⊢
  by_cases h1 : (kWA s).2.2.2.2 = 1 ∨ (kWC s).2.2.2.2 = 1
  ·rw [if_pos h1] at he ⊢
   subst he
   exact Ev.step (f := ?_) (fun k => by rw [qh_.j2, if_neg (by decide)]) (Ev.now _)
  ·rw [if_neg h1] at he ⊢
   subst he
   refine Ev.step (f := ?_) (fun k => by rw [qh_.j2, if_pos rfl]) ?_
   refine Ev.bind (Check_ev _ _ _ _ _ _ _ _ _ _ _ hp (by omega) (by omega) (by omega) (by omega) (by rw [qbk_]; omega)) ?_
   refine qr_ (fun g => ?_) (fun g => ?_)
   ·rw [if_pos (show kCheck s = 0 from g)]; exact Ev.now _
   ·rw [if_neg (show ¬ kCheck s = 0 from g)]; exact Ev.now _
 ·rw [if_neg hg] at he ⊢
  subst he
  exact qgn_ ..
theorem com_err (a b c : Prop) [Decidable a] [Decidable b] [Decidable c] (x y : Int) (hx : x = 0 ∨ x = 1 ∨ x = 2) (hy : y = 0 ∨ y = 1 ∨ y = 2) :
  (if c then errW2 (if b then errW2 (if a then (0 : Int) else 2) x else 2) y else 2) = if a ∧ x ≠ 2 ∧ b ∧ y ≠ 2 ∧ c then (if x = 1 ∨ y = 1 then 1 else 0) else 2 := by
 by_cases ha : a <;> by_cases hb : b <;> by_cases hc : c <;> simp only [ha, hb, hc, if_true, if_false, true_and, false_and, and_true, and_false, errW2_two]
 all_goals (rcases hx with rfl | rfl | rfl <;> rcases hy with rfl | rfl | rfl <;> decide)
theorem com_j1 (s : ByteArray) (hs : s.size ≤ 4294967000) (g1 : (k1 s).2.2 = true) (g2 : idOk (mk (k1 s).1) = true) (g3 : (kp s).2.2 = true) (hp : (kp s).1.length ≤ 140737488351232) (an am : ByteArray) (aq az : Int) (cn cm : ByteArray) (cq cz : Int) (x : ByteArray) :
  Ev (fun k => qh_.j1 k (mk (kp s).2.1) 0 (mk (k1 s).1) (kp s).1 an am aq az cn cm cq cz x) (qcx_ s) := by
 obtain ⟨l1, l2, l3, l4, l5, l6, l7, l8, l9⟩ := k_len s
 refine Ev.step (f := ?_) (fun k => by rw [qh_.j1]) ?_
 refine Ev.bind (who_ev (mk (kp s).2.1) 0 ⟨#[97, 117, 116, 104, 111, 114, 32]⟩ (by rw [qbk_]; omega)) ?_
 rw [qbe_]
 change Ev (fun k => (qay_.f k (mk (kA s).2.1) (errW2 (if (kA s).2.2 = true then 0 else 2) (kWA s).2.2.2.2) ⟨#[99, 111, 109, 109, 105, 116, 116, 101, 114, 32]⟩).bind _) _
 refine Ev.bind (who_ev (mk (kA s).2.1) _ ⟨#[99, 111, 109, 109, 105, 116, 116, 101, 114, 32]⟩ (by rw [qbk_]; omega)) ?_
 rw [qbe_]
 change Ev (fun k => (qba_.f (mk (kC s).2.1) (errW2 (if (kC s).2.2 = true then (errW2 (if (kA s).2.2 = true then 0 else 2) (kWA s).2.2.2.2) else 2) (kWC s).2.2.2.2) ⟨#[]⟩).bind _) _
 rw [qfn_ _ _ _ (by rw [qbk_]; omega)]
 simp only [Option.bind_some]
 rw [qbe_]
 change Ev (fun k => if (mk (kE s).1).toList = ([] : List UInt8) then qh_.j2 k (mk (kE s).2.1) (if (kE s).2.2 = true then errW2 (if (kC s).2.2 = true then (errW2 (if (kA s).2.2 = true then 0 else 2) (kWA s).2.2.2.2) else 2) (kWC s).2.2.2.2 else 2) (mk (k1 s).1) (kp s).1 (kWA s).1 (kWA s).2.1 (kWA s).2.2.1 (kWA s).2.2.2.1 (kWC s).1 (kWC s).2.1 (kWC s).2.2.1 (kWC s).2.2.2.1 x else _) _
 rw [com_err ((kA s).2.2 = true) ((kC s).2.2 = true) ((kE s).2.2 = true) (kWA s).2.2.2.2 (kWC s).2.2.2.2 (qeq_ (mk (kA s).1)) (qeq_ (mk (kC s).1))]
 refine qr_ (fun g => ?_) (fun g => ?_)
 ·rw [qge_] at g
  refine com_j2 s hs _ x ?_ hp
  by_cases h : (kA s).2.2 = true ∧ (kWA s).2.2.2.2 ≠ 2 ∧ (kC s).2.2 = true ∧ (kWC s).2.2.2.2 ≠ 2 ∧ (kE s).2.2 = true
  ·rw [if_pos h, if_pos (show kGood s from ⟨g1, g2, g3, h.1, h.2.1, h.2.2.1, h.2.2.2.1, h.2.2.2.2, g⟩)]
  ·rw [if_neg h, if_neg (fun q : kGood s => h ⟨q.2.2.2.1, q.2.2.2.2.1, q.2.2.2.2.2.1, q.2.2.2.2.2.2.1, q.2.2.2.2.2.2.2.1⟩)]
 ·rw [qfo_]
  simp only [Option.bind_some]
  refine com_j2 s hs _ x ?_ hp
  rw [if_neg (fun q : kGood s => g (by rw [qge_]; exact q.2.2.2.2.2.2.2.2))]
theorem lineF_take {u p : List UInt8} (h : (lineF u p).2.2 = true) : u.take p.length = p := by
 rw [qdq_ h]
 exact qga_ _ _ _ rfl
theorem com_l0 (s : ByteArray) (hs : s.size ≤ 4294967000) (g1 : (k1 s).2.2 = true) (g2 : idOk (mk (k1 s).1) = true) (an am : ByteArray) (aq az : Int) (cn cm : ByteArray) (cq cz : Int) (x : ByteArray) : ∀ (n : Nat) (u : List UInt8) (acc : List ByteArray), u.length ≤ n → acc.length + n ≤ 4294967000 →
  (parF n u).2.2 = (kp s).2.2 → ((parF n u).2.2 = true → (parF n u).2.1 = (kp s).2.1 ∧ acc ++ (parF n u).1 = (kp s).1) → Ev (fun k => qh_.l0 k (mk u) 0 (mk (k1 s).1) acc an am aq az cn cm cq cz x) (qcx_ s)
 | n, u, acc, hu, ha, q1, q2 => by
  have hp : (kp s).1.length ≤ 140737488351232 := by
   have := parF_num s.size (k1 s).2.1
   change (kp s).1.length ≤ _ at this
   omega
  have two : ¬ kGood s → qcx_ s = noCom 2 := fun h => by unfold qcx_; rw [if_neg h]
  refine Ev.step (f := ?_) (fun k => by rw [qh_.l0, if_pos rfl, HasPrefix_eq, Option.bind_some, qbe_]) ?_
  change Ev (fun k => if decide (u.take PAR.length = PAR) = true then (qbf_.f k (mk u) 0 ⟨#[112, 97, 114, 101, 110, 116, 32]⟩).bind _ else _) _
  by_cases hpre : u.take PAR.length = PAR
  ·rw [decide_eq_true hpre]
   refine qav_ rfl ?_
   refine Ev.bind (id_ev (mk u) 0 ⟨#[112, 97, 114, 101, 110, 116, 32]⟩ (by rw [qbk_]; omega)) ?_
   rw [qbe_]
   change Ev (fun k => if acc.length < 8796093022208 then qh_.l0 k (mk (lineF u PAR).2.1) (if (lineF u PAR).2.2 = true ∧ idOk (mk (lineF u PAR).1) = true then 0 else 2) (mk (k1 s).1) (acc ++ [mk (lineF u PAR).1]) an am aq az cn cm cq cz x else _) _
   refine qav_ (by omega) ?_
   have hlen := qde_ u PAR
   have bad : ∀ (l : List ByteArray), Ev (fun k => qh_.l0 k (mk (lineF u PAR).2.1) 2 (mk (k1 s).1) l an am aq az cn cm cq cz x) (noCom 2) := fun l =>
    Ev.step (f := ?_) (fun k => by rw [qh_.l0, if_neg (by decide)]) (com_j1_two _ _ _ _ _ _ _ _ _ _ _ (mk (lineF u PAR).2.1) (by rw [qbk_]; omega))
   cases n with
   | zero =>
    exfalso
    have : u = [] := List.length_eq_zero_iff.1 (by omega)
    rw [this] at hpre
    exact absurd hpre (by decide)
   | succ n =>
    rw [parF] at q1 q2
    cases ok : (lineF u PAR).2.2 with
    | false =>
     rw [if_neg (fun h : false = true ∧ _ => by cases h.1)]
     rw [ok, if_neg (by decide)] at q1 q2
     refine ev_eq (bad _) (two (fun hg => ?_)).symm
     have := (q2 rfl).1
     have h4 := hg.2.2.2.1
     unfold kA at h4
     rw [← this] at h4
     change (lineF u AUT).2.2 = true at h4
     rw [no_line hpre ok AUT] at h4
     cases h4
    | true =>
     rw [ok, if_pos rfl] at q1 q2
     by_cases hid : idOk (mk (lineF u PAR).1) = true
     ·rw [if_pos ⟨rfl, hid⟩]
      rw [if_pos hid] at q1 q2
      have := qgr_ ok
      refine com_l0 s hs g1 g2 an am aq az cn cm cq cz x n _ _ (by omega) (by rw [List.length_append]; simp only [List.length_cons, List.length_nil]; omega) q1 (fun z => ?_)
      obtain ⟨y1, y2⟩ := q2 z
      refine ⟨y1, ?_⟩
      rw [← y2, List.append_assoc]; rfl
     ·rw [if_neg (fun h => hid h.2)]
      rw [if_neg hid] at q1
      refine ev_eq (bad _) (two (fun hg => ?_)).symm
      have h3 := hg.2.2.1
      rw [← q1] at h3
      cases h3
  ·rw [decide_eq_false hpre]
   refine ev_no (by decide) ?_
   have no : (lineF u PAR).2.2 = false := by
    cases ok : (lineF u PAR).2.2 with
    | false => rfl
    | true => exact absurd (lineF_take ok) hpre
   have e : parF n u = ([], u, true) := by
    cases n with
    | zero => rfl
    | succ n => rw [parF, no, if_neg (by decide)]
   rw [e] at q1 q2
   obtain ⟨y1, y2⟩ := q2 rfl
   change u = _ at y1
   rw [List.append_nil] at y2
   rw [y1, y2]
   exact com_j1 s hs g1 g2 q1.symm hp an am aq az cn cm cq cz x
theorem Parse_ev (s : ByteArray) (hs : s.size ≤ 4294967000) : Ev (fun k => qh_.f k s) (qcx_ s) := by
 obtain ⟨l1, l2, l3, l4, l5, l6, l7, l8, l9⟩ := k_len s
 refine Ev.bind (id_ev s 0 ⟨#[116, 114, 101, 101, 32]⟩ (by omega)) ?_
 change Ev (fun k => qh_.l0 k (mk (k1 s).2.1) (if (k1 s).2.2 = true ∧ idOk (mk (k1 s).1) = true then 0 else 2) (mk (k1 s).1) [] ⟨#[]⟩ ⟨#[]⟩ 0 0 ⟨#[]⟩ ⟨#[]⟩ 0 0 ⟨#[]⟩) _
 by_cases h : (k1 s).2.2 = true ∧ idOk (mk (k1 s).1) = true
 ·rw [if_pos h]
  exact com_l0 s hs h.1 h.2 _ _ _ _ _ _ _ _ _ s.size (k1 s).2.1 [] l2 (by simpa using hs) rfl (fun _ => ⟨rfl, rfl⟩)
 ·rw [if_neg h]
  have : qcx_ s = noCom 2 := by unfold qcx_; rw [if_neg (fun g : kGood s => h ⟨g.1, g.2.1⟩)]
  rw [this]
  exact Ev.step (f := ?_) (fun k => by rw [qh_.l0, if_neg (by decide)]) (com_j1_two _ _ _ _ _ _ _ _ _ _ _ (mk (k1 s).2.1) (by rw [qbk_]; omega))
theorem refK_at (s w : ByteArray) (p : List UInt8) (hwp : w.data.toList ++ [32] = p) (u : List UInt8) (hu : s.data.toList.drop (s.size - u.length) = u) (hs : s.size ≤ 4294967000) (hw : w.size ≤ 1000) :
  Ev (fun k => qau_.f k s ((s.size - u.length : Nat) : Int) w) (mk (lineF u p).1, ((s.size - (lineF u p).2.1.length : Nat) : Int), (lineF u p).2.2) ∧ s.data.toList.drop (s.size - (lineF u p).2.1.length) = (lineF u p).2.1 := by
 subst hwp
 exact qfk_ s w _ u rfl hu hs hw
theorem qfq_ (s : ByteArray) (b : Bool) : howF s b = 0 ↔ ¬ (b = true ∧ (qbb_ s).2.2.2.2 ≠ 2) := by
 unfold howF
 constructor
 ·intro h g
  rw [if_pos g] at h
  split at h <;> cases h
 ·intro h
  rw [if_neg h]
theorem how_one (s : ByteArray) (b : Bool) (h : howF s b ≠ 0) : howF s b = 1 ↔ (qbb_ s).2.2.2.2 = 1 := by
 have g : b = true ∧ (qbb_ s).2.2.2.2 ≠ 2 := Classical.byContradiction fun q => h ((qfq_ s b).2 q)
 unfold howF
 rw [if_pos g]
 rcases qeq_ s with w | w | w
 ·rw [w]; decide
 ·rw [w]; decide
 ·exact absurd w g.2
section
variable (s : ByteArray) (hs : s.size ≤ 4294967000) (an am : ByteArray) (aq az : Int) (cn cm : ByteArray) (cq cz : Int) (x : ByteArray)
include hs
theorem refcom_j3 (y : Int) (hy : y = ((s.size - (kC s).2.1.length : Nat) : Int)) (hu : s.data.toList.drop (s.size - (kC s).2.1.length) = (kC s).2.1) (hg : kGood s) (b : Bool) (hb : b = decide ((kWA s).2.2.2.2 = 1 ∨ (kWC s).2.2.2.2 = 1)) :
  Ev (fun k => qi_.j3 k s y b (mk (k1 s).1) (kp s).1 an am aq az cn cm cq cz x (kWA s).1 (kWA s).2.1 (kWA s).2.2.1 (kWA s).2.2.2.1 (kWC s).1 (kWC s).2.1 (kWC s).2.2.1 (kWC s).2.2.2.1) (qcx_ s) := by
 obtain ⟨l1, l2, l3, l4, l5, l6, l7, l8, l9⟩ := k_len s
 obtain ⟨w1, w2, w3, w4⟩ := k_who_len s
 have hp : (kp s).1.length ≤ 140737488351232 := by
  have := parF_num s.size (k1 s).2.1
  change (kp s).1.length ≤ _ at this
  omega
 refine Ev.step (f := ?_) (fun k => by rw [qi_.j3]) ?_
 unfold qcx_
 rw [if_pos hg]
 by_cases h1 : (kWA s).2.2.2.2 = 1 ∨ (kWC s).2.2.2.2 = 1
 ·rw [decide_eq_true h1] at hb
  subst hb
  rw [if_pos h1]
  exact qav_ rfl (Ev.now _)
 ·rw [decide_eq_false h1] at hb
  subst hb
  rw [if_neg h1]
  refine ev_no (by decide) ?_
  have h10 := qex_ (kC s).2.1 ⟨hg.2.2.2.2.2.2.2.1, hg.2.2.2.2.2.2.2.2⟩
  change (kC s).2.1 = 10 :: (kE s).2.1 at h10
  have hlen := congrArg List.length h10
  rw [List.length_cons] at hlen
  have e1 : wrap64 (y + 1) = ((s.size - (kE s).2.1.length : Nat) : Int) := by rw [hy, qbw_ (by omega) (by omega)]; omega
  have e2 : s.extract (s.size - (kE s).2.1.length) s.size = mk (kE s).2.1 := by
   have q : s.data.toList.drop (s.size - (kE s).2.1.length) = (kE s).2.1 := by
    rw [show s.size - (kE s).2.1.length = s.size - (kC s).2.1.length + 1 by omega, ← List.drop_drop, hu, h10]; rfl
   rw [ext_mk, q, List.take_of_length_le (by omega)]
  rw [e1]
  refine qav_ (by omega) (qav_ (by omega) ?_)
  simp only [Int.toNat_natCast, e2]
  refine Ev.bind (refCheck_ev _ _ _ _ _ _ _ _ _ _ _ hp (by omega) (by omega) (by omega) (by omega) (by rw [qbk_]; omega)) ?_
  change Ev (fun k => if kCheck s = 0 then _ else _) _
  refine qr_ (fun g => ?_) (fun g => ?_)
  ·rw [if_pos g]; exact Ev.now _
  ·rw [if_neg g]; exact Ev.now _
theorem refcom_j2 (m n y : Int) (hy : y = ((s.size - (kC s).2.1.length : Nat) : Int)) (hu : s.data.toList.drop (s.size - (kC s).2.1.length) = (kC s).2.1) (hg : kGood s) (hm : m = howF (mk (kA s).1) (kA s).2.2) (hn : n = howF (mk (kC s).1) (kC s).2.2) :
  Ev (fun k => qi_.j2 k s m y n false (mk (k1 s).1) (kp s).1 an am aq az cn cm cq cz x (kWA s).1 (kWA s).2.1 (kWA s).2.2.1 (kWA s).2.2.2.1 (kWC s).1 (kWC s).2.1 (kWC s).2.2.1 (kWC s).2.2.2.1) (qcx_ s) := by
 have a0 : howF (mk (kA s).1) (kA s).2.2 ≠ 0 := fun h => (qfq_ _ _).1 h ⟨hg.2.2.2.1, hg.2.2.2.2.1⟩
 have c0 : howF (mk (kC s).1) (kC s).2.2 ≠ 0 := fun h => (qfq_ _ _).1 h ⟨hg.2.2.2.2.2.1, hg.2.2.2.2.2.2.1⟩
 have a1 : m = 1 ↔ (kWA s).2.2.2.2 = 1 := by rw [hm]; exact how_one _ _ a0
 have c1 : n = 1 ↔ (kWC s).2.2.2.2 = 1 := by rw [hn]; exact how_one _ _ c0
 refine Ev.step (f := ?_) (fun k => by rw [qi_.j2, if_neg (by decide)]) (qr_ (fun g => ?_) (fun g => ?_))
 ·exact refcom_j3 s hs an am aq az cn cm cq cz x y hy hu hg true (decide_eq_true (Or.inl (a1.1 g))).symm
 ·refine refcom_j3 s hs an am aq az cn cm cq cz x y hy hu hg _ ?_
  by_cases q : n = 1
  ·rw [decide_eq_true (Or.inr (c1.1 q))]; exact beq_iff_eq.2 q
  ·rw [decide_eq_false (fun z => z.elim (fun z => g (a1.2 z)) (fun z => q (c1.2 z)))]; exact beq_eq_false_iff_ne.2 q
theorem refcom_end (hu : s.data.toList.drop (s.size - (kp s).2.1.length) = (kp s).2.1) (g1 : (k1 s).2.2 = true) (g2 : idOk (mk (k1 s).1) = true) (g3 : (kp s).2.2 = true) (z : ByteArray) (y : Int) :
  Ev (fun k => qi_.l0 k s ((s.size - (kp s).2.1.length : Nat) : Int) z y false (mk (k1 s).1) (kp s).1 an am aq az cn cm cq cz x) (qcx_ s) := by
 obtain ⟨l1, l2, l3, l4, l5, l6, l7, l8, l9⟩ := k_len s
 have two : ¬ kGood s → qcx_ s = noCom 2 := fun h => by unfold qcx_; rw [if_neg h]
 obtain ⟨r1, d1⟩ := refK_at s ⟨#[97, 117, 116, 104, 111, 114]⟩ AUT rfl (kp s).2.1 hu hs (show 6 ≤ 1000 by omega)
 change Ev _ (mk (kA s).1, ((s.size - (kA s).2.1.length : Nat) : Int), (kA s).2.2) at r1
 change s.data.toList.drop (s.size - (kA s).2.1.length) = (kA s).2.1 at d1
 obtain ⟨r2, d2⟩ := refK_at s ⟨#[99, 111, 109, 109, 105, 116, 116, 101, 114]⟩ COM rfl (kA s).2.1 d1 hs (show 9 ≤ 1000 by omega)
 change Ev _ (mk (kC s).1, ((s.size - (kC s).2.1.length : Nat) : Int), (kC s).2.2) at r2
 change s.data.toList.drop (s.size - (kC s).2.1.length) = (kC s).2.1 at d2
 refine Ev.step (f := ?_) (fun k => by rw [qi_.l0, if_neg (by decide)]) ?_
 refine Ev.bind r1 (Ev.bind (refwho_ev (mk (kA s).1) (kA s).2.2 (by rw [qbk_]; omega)) (Ev.bind r2 (Ev.bind (refwho_ev (mk (kC s).1) (kC s).2.2 (by rw [qbk_]; omega)) ?_)))
 change Ev (fun k => if howF (mk (kA s).1) (kA s).2.2 = 0 then qi_.j2 k s (howF (mk (kA s).1) (kA s).2.2) ((s.size - (kC s).2.1.length : Nat) : Int) (howF (mk (kC s).1) (kC s).2.2) true _ _ _ _ _ _ _ _ _ _ _ _ _ _ _ _ _ _ _ else _) _
 have badj : ∀ (m n y : Int) (a : ByteArray) (l : List ByteArray) (b c : ByteArray) (o r : Int) (d e : ByteArray) (t u : Int) (f g h : ByteArray) (v w : Int) (i j : ByteArray) (p q : Int), Ev (fun k => qi_.j2 k s m y n true a l b c o r d e t u f g h v w i j p q) (noCom 2) :=
  fun _ _ _ _ _ _ _ _ _ _ _ _ _ _ _ _ _ _ _ _ _ _ => Ev.step (f := ?_) (fun k => by rw [qi_.j2, if_pos rfl]) (Ev.now _)
 refine qr_ (fun h => ev_eq (badj ..) (two (fun hg => (qfq_ _ _).1 h ⟨hg.2.2.2.1, hg.2.2.2.2.1⟩)).symm) (fun ha => ?_)
 refine qr_ (fun h => ev_eq (badj ..) (two (fun hg => (qfq_ _ _).1 h ⟨hg.2.2.2.2.2.1, hg.2.2.2.2.2.2.1⟩)).symm) (fun hc => ?_)
 have ga : (kA s).2.2 = true ∧ (kWA s).2.2.2.2 ≠ 2 := Classical.byContradiction fun q => ha ((qfq_ _ _).2 q)
 have gc : (kC s).2.2 = true ∧ (kWC s).2.2.2.2 ≠ 2 := Classical.byContradiction fun q => hc ((qfq_ _ _).2 q)
 refine qr_ (fun h => ev_eq (badj ..) (two (fun hg => ?_)).symm) (fun hd => ?_)
 ·have h' : ((s.size - (kC s).2.1.length : Nat) : Int) ≥ (s.size : Int) := h
  have h10 := congrArg List.length (qex_ (kC s).2.1 ⟨hg.2.2.2.2.2.2.2.1, hg.2.2.2.2.2.2.2.2⟩)
  rw [List.length_cons] at h10
  omega
 have hd' : ¬ ((s.size - (kC s).2.1.length : Nat) : Int) ≥ (s.size : Int) := hd
 clear hd
 refine qav_ (Int.natCast_nonneg _) (qav_ (Int.not_le.1 hd') ?_)
 cases hr : (kC s).2.1 with
 | nil => rw [hr] at hd'; exact absurd (by simp) hd'
 | cons c r =>
  have d3 := d2
  rw [hr] at d3
  have hb : bt s ((s.size - (c :: r).length : Nat) : Int) = (c.toNat : Int) := (qeh_ d3).2.1
  by_cases h10 : c = 10
  ·subst h10
   have eE : kE s = ([], r, true) := by unfold kE; rw [hr]; exact lineF_cons r
   have hg : kGood s := ⟨g1, g2, g3, ga.1, ga.2, gc.1, gc.2, by rw [eE], by rw [eE]⟩
   have := refcom_j2 s hs an am aq az cn cm cq cz x _ _ _ rfl d2 hg rfl rfl
   rw [hr] at this
   rw [hb]
   exact this
  ·have hn : c.toNat ≠ 10 := fun h => h10 (UInt8.toNat_inj.1 h)
   rw [hb, bne_iff_ne.2 (by omega)]
   refine ev_eq (badj ..) (two (fun hg => ?_)).symm
   have q := qex_ (kC s).2.1 ⟨hg.2.2.2.2.2.2.2.1, hg.2.2.2.2.2.2.2.2⟩
   rw [hr] at q
   exact h10 (List.cons.inj q).1
theorem refcom_l0 (g1 : (k1 s).2.2 = true) (g2 : idOk (mk (k1 s).1) = true) : ∀ (n : Nat) (u : List UInt8) (acc : List ByteArray), u.length ≤ n → acc.length + n ≤ 4294967000 → s.data.toList.drop (s.size - u.length) = u →
  (parF n u).2.2 = (kp s).2.2 → ((parF n u).2.2 = true → (parF n u).2.1 = (kp s).2.1 ∧ acc ++ (parF n u).1 = (kp s).1) →
  Ev (fun k => qi_.l0 k s ((s.size - u.length : Nat) : Int) (mk (lineF u PAR).1) ((s.size - (lineF u PAR).2.1.length : Nat) : Int) (lineF u PAR).2.2 (mk (k1 s).1) acc an am aq az cn cm cq cz x) (qcx_ s)
 | n, u, acc, hl, ha, hu, q1, q2 => by
  have two : ¬ kGood s → qcx_ s = noCom 2 := fun h => by unfold qcx_; rw [if_neg h]
  cases ok : (lineF u PAR).2.2 with
  | false =>
   have e : parF n u = ([], u, true) := by
    cases n with
    | zero => rfl
    | succ n => rw [parF, ok, if_neg (by decide)]
   rw [e] at q1 q2
   obtain ⟨y1, y2⟩ := q2 rfl
   change u = _ at y1
   rw [List.append_nil] at y2
   rw [y1] at hu
   rw [y1, y2]
   exact refcom_end s hs an am aq az cn cm cq cz x hu g1 g2 q1.symm _ _
  | true =>
   have less := qgr_ ok
   cases n with
   | zero => exfalso; omega
   | succ n =>
    rw [parF, ok, if_pos rfl] at q1 q2
    refine Ev.step (f := ?_) (fun k => by rw [qi_.l0, if_pos rfl]) ?_
    refine Ev.bind (qeu_ _) (qr_ (fun hid => ?_) (fun hid => ?_))
    ·rw [if_pos hid] at q1 q2
     refine qav_ (by omega) ?_
     obtain ⟨r1, d1⟩ := refK_at s ⟨#[112, 97, 114, 101, 110, 116]⟩ PAR rfl u hu hs (show 6 ≤ 1000 by omega)
     obtain ⟨r2, d2⟩ := refK_at s ⟨#[112, 97, 114, 101, 110, 116]⟩ PAR rfl (lineF u PAR).2.1 d1 hs (show 6 ≤ 1000 by omega)
     refine Ev.bind r2 ?_
     refine refcom_l0 g1 g2 n (lineF u PAR).2.1 _ (by omega) (by rw [List.length_append]; simp only [List.length_cons, List.length_nil]; omega) d1 q1 (fun z => ?_)
     obtain ⟨y1, y2⟩ := q2 z
     refine ⟨y1, ?_⟩
     rw [← y2, List.append_assoc]; rfl
    ·rw [if_neg hid] at q1
     refine ev_eq (Ev.now _) (two (fun hg => ?_)).symm
     have h3 := hg.2.2.1
     rw [← q1] at h3
     cases h3
theorem refParse_ev : Ev (fun k => qi_.f k s) (qcx_ s) := by
 obtain ⟨l1, l2, l3, l4, l5, l6, l7, l8, l9⟩ := k_len s
 have d0 : s.data.toList.drop (s.size - s.data.toList.length) = s.data.toList := by rw [qbr_, Nat.sub_self, List.drop_zero]
 obtain ⟨r1, d1⟩ := refK_at s ⟨#[116, 114, 101, 101]⟩ TRE rfl s.data.toList d0 hs (show 4 ≤ 1000 by omega)
 rw [qbr_, Nat.sub_self] at r1
 change Ev _ (mk (k1 s).1, ((s.size - (k1 s).2.1.length : Nat) : Int), (k1 s).2.2) at r1
 change s.data.toList.drop (s.size - (k1 s).2.1.length) = (k1 s).2.1 at d1
 refine Ev.bind r1 ?_
 have bad : ¬ ((k1 s).2.2 = true ∧ idOk (mk (k1 s).1) = true) → ∀ (y : Int) (z : ByteArray), Ev (fun k => qi_.j0 k s z y true ⟨#[]⟩ ⟨#[]⟩ ⟨#[]⟩ 0 0 ⟨#[]⟩ ⟨#[]⟩ 0 0 ⟨#[]⟩) (qcx_ s) := fun h y z => by
  have : qcx_ s = noCom 2 := by unfold qcx_; rw [if_neg (fun g : kGood s => h ⟨g.1, g.2.1⟩)]
  rw [this]
  exact Ev.step (f := ?_) (fun k => by rw [qi_.j0, if_pos rfl]) (Ev.now _)
 refine qr_ (fun g1 => ?_) (fun g1 => bad (fun h => g1 h.1) _ _)
 refine Ev.bind (qeu_ _) ?_
 cases g2 : idOk (mk (k1 s).1) with
 | false => exact bad (fun h => by have := h.2; rw [g2] at this; cases this) _ _
 | true =>
  refine Ev.step (f := ?_) (fun k => by rw [qi_.j0, if_neg (by decide)]) ?_
  obtain ⟨r2, d2⟩ := refK_at s ⟨#[112, 97, 114, 101, 110, 116]⟩ PAR rfl (k1 s).2.1 d1 hs (show 6 ≤ 1000 by omega)
  refine Ev.bind r2 ?_
  exact refcom_l0 s hs ⟨#[]⟩ ⟨#[]⟩ 0 0 ⟨#[]⟩ ⟨#[]⟩ 0 0 ⟨#[]⟩ g1 g2 s.size (k1 s).2.1 [] l2 (by simpa using hs) d1 rfl (fun _ => ⟨rfl, rfl⟩)
end
theorem parsL_app (p : ByteArray) (r : List ByteArray) (e : List UInt8) : parsL (p :: r) ++ e = PAR ++ (p.data.toList ++ 10 :: (parsL r ++ e)) := by
 rw [parsL]; simp only [List.append_assoc, List.cons_append]
theorem parF_text : ∀ (n : Nat) (u : List UInt8), (parF n u).2.2 = true → u = parsL (parF n u).1 ++ (parF n u).2.1
 | 0, u, h => rfl
 | n + 1, u, h => by
  rw [parF] at h ⊢
  by_cases ok : (lineF u PAR).2.2 = true
  ·rw [if_pos ok] at h ⊢
   by_cases hid : idOk (mk (lineF u PAR).1) = true
   ·rw [if_pos hid] at h ⊢
    have ih := parF_text n _ h
    show u = parsL (mk (lineF u PAR).1 :: (parF n (lineF u PAR).2.1).1) ++ (parF n (lineF u PAR).2.1).2.1
    rw [parsL_app, ← ih, qbe_]
    exact qdq_ ok
   ·rw [if_neg hid] at h; cases h
  ·rw [if_neg ok]; rfl
section
variable (t : ByteArray) (l : List ByteArray) (an am : ByteArray) (aq az : Int) (cn cm : ByteArray) (cq cz : Int) (x : ByteArray)
theorem com_again (s : ByteArray) (h : qcx_ s = (t, l, an, am, aq, az, cn, cm, cq, cz, x, 0)) : qea_ t l an am aq az cn cm cq cz x = 0 ∧ comB t l an am aq az cn cm cq cz x = s := by
 unfold qcx_ at h
 by_cases hg : kGood s
 ·rw [if_pos hg] at h
  by_cases h1 : (kWA s).2.2.2.2 = 1 ∨ (kWC s).2.2.2.2 = 1
  ·rw [if_pos h1] at h
   unfold noCom at h
   simp only [Prod.mk.injEq] at h
   exact absurd h.2.2.2.2.2.2.2.2.2.2.2 (by decide)
  rw [if_neg h1] at h
  by_cases h2 : kCheck s = 0
  ·rw [if_pos h2] at h
   simp only [Prod.mk.injEq] at h
   obtain ⟨q1, q2, q3, q4, q5, q6, q7, q8, q9, q10, q11, -⟩ := h
   have hc := h2
   unfold kCheck at hc
   rw [q1, q2, q3, q4, q5, q6, q7, q8, q9, q10, q11] at hc
   refine ⟨hc, ?_⟩
   obtain ⟨g1, g2, g3, g4, g5, g6, g7, g8, g9⟩ := hg
   have a0 : (kWA s).2.2.2.2 = 0 := by
    rcases qeq_ (mk (kA s).1) with w | w | w
    ·exact w
    ·exact absurd (Or.inl w) h1
    ·exact absurd w g5
   have c0 : (kWC s).2.2.2.2 = 0 := by
    rcases qeq_ (mk (kC s).1) with w | w | w
    ·exact w
    ·exact absurd (Or.inr w) h1
    ·exact absurd w g7
   have ha : qbb_ (mk (kA s).1) = (an, am, aq, az, 0) := by
    change kWA s = _
    rw [← q3, ← q4, ← q5, ← q6, ← a0]
   have hcw : qbb_ (mk (kC s).1) = (cn, cm, cq, cz, 0) := by
    change kWC s = _
    rw [← q7, ← q8, ← q9, ← q10, ← c0]
   have wa : whoL an.data.toList am.data.toList aq az = (kA s).1 := by
    have := congrArg (fun b : ByteArray => b.data.toList) (who_again _ an am aq az ha).1
    unfold whoB at this
    simpa only [qbe_] using this
   have wc : whoL cn.data.toList cm.data.toList cq cz = (kC s).1 := by
    have := congrArg (fun b : ByteArray => b.data.toList) (who_again _ cn cm cq cz hcw).1
    unfold whoB at this
    simpa only [qbe_] using this
   have t1 := qdq_ (u := s.data.toList) (p := TRE) g1
   have t2 := parF_text s.size (k1 s).2.1 g3
   have t3 := qdq_ (u := (kp s).2.1) (p := AUT) g4
   have t4 := qdq_ (u := (kA s).2.1) (p := COM) g6
   have t5 := qex_ (kC s).2.1 ⟨g8, g9⟩
   change s.data.toList = TRE ++ ((k1 s).1 ++ 10 :: (k1 s).2.1) at t1
   change (k1 s).2.1 = parsL (kp s).1 ++ (kp s).2.1 at t2
   change (kp s).2.1 = AUT ++ ((kA s).1 ++ 10 :: (kA s).2.1) at t3
   change (kA s).2.1 = COM ++ ((kC s).1 ++ 10 :: (kC s).2.1) at t4
   change (kC s).2.1 = 10 :: (kE s).2.1 at t5
   refine qei_ ?_
   unfold comB
   rw [qbe_, wa, wc, ← q1, ← q2, ← q11, qbe_, qbe_]
   change TRE ++ ((k1 s).1 ++ 10 :: (parsL (kp s).1 ++ (AUT ++ ((kA s).1 ++ 10 :: (COM ++ ((kC s).1 ++ 10 :: (10 :: (kE s).2.1))))))) = _
   rw [← t5, ← t4, ← t3, ← t2, ← t1]
  ·rw [if_neg h2] at h
   unfold noCom at h
   simp only [Prod.mk.injEq] at h
   exact absurd h.2.2.2.2.2.2.2.2.2.2.2 h2
 ·rw [if_neg hg] at h
  unfold noCom at h
  simp only [Prod.mk.injEq] at h
  exact absurd h.2.2.2.2.2.2.2.2.2.2.2 (by decide)
end
theorem same_l0 (a b : List ByteArray) (hl : a.length = b.length) (hb : a.length ≤ 140737488351232) : ∀ (d i : Nat), i + d = a.length → Ev (fun k => qbu_.l0 k a b i) (decide (a.drop i = b.drop i))
 | 0, i, h => by
  rw [List.drop_of_length_le (by omega), List.drop_of_length_le (by omega)]
  exact Ev.step (f := ?_) (fun k => by rw [qbu_.l0, if_neg (by omega)]) (Ev.now _)
 | d + 1, i, h => by
  have hi : i < a.length := by omega
  have hj : i < b.length := by omega
  refine Ev.step (f := ?_) (fun k => by rw [qbu_.l0, if_pos (by omega), if_pos (by omega), if_pos (by omega), rd_ext a i hi, rd_ext b i hj, qel_ i (by omega)]) ?_
  rw [List.drop_eq_getElem_cons hi, List.drop_eq_getElem_cons hj]
  refine qr_ (fun g => ev_eq (same_l0 a b hl hb d (i + 1) (by omega)) ?_) (fun g => ev_eq (Ev.now _) ?_)
  ·have e : a[i] = b[i] := qei_ (by rw [← ByteArray.toList_eq, ← ByteArray.toList_eq]; exact g)
   rw [e]
   exact decide_eq_decide.2 ⟨fun z => by rw [z], fun z => (List.cons.inj z).2⟩
  ·exact (decide_eq_false (fun z => g (by rw [(List.cons.inj z).1]))).symm
theorem same_ev (a b : List ByteArray) (hb : a.length ≤ 140737488351232) : Ev (fun k => qbu_.f k a b) (decide (a = b)) := by
 refine qr_ (fun g => ?_) (fun g => ev_eq (Ev.now _) ?_)
 ·exact same_l0 a b (by omega) hb a.length 0 (by omega)
 ·exact (decide_eq_false (fun z => g (by rw [z]))).symm
theorem Same_ev (c d : ByteArray × List ByteArray × ByteArray × ByteArray × Int × Int × ByteArray × ByteArray × Int × Int × ByteArray) (hc : c.2.1.length ≤ 140737488351232) (r : Bool) (hr : r = true ↔ c = d) :
  Ev (fun k => qcs_.f k c.1 c.2.1 c.2.2.1 c.2.2.2.1 c.2.2.2.2.1 c.2.2.2.2.2.1 c.2.2.2.2.2.2.1 c.2.2.2.2.2.2.2.1 c.2.2.2.2.2.2.2.2.1 c.2.2.2.2.2.2.2.2.2.1 c.2.2.2.2.2.2.2.2.2.2 d.1 d.2.1 d.2.2.1 d.2.2.2.1 d.2.2.2.2.1 d.2.2.2.2.2.1 d.2.2.2.2.2.2.1 d.2.2.2.2.2.2.2.1 d.2.2.2.2.2.2.2.2.1 d.2.2.2.2.2.2.2.2.2.1 d.2.2.2.2.2.2.2.2.2.2) r := by
 obtain ⟨t, l, an, am, aq, az, cn, cm, cq, cz, x⟩ := c
 obtain ⟨t', l', an', am', aq', az', cn', cm', cq', cz', x'⟩ := d
 simp only [Prod.mk.injEq] at hr
 dsimp only
 have tl : ∀ a b : ByteArray, a.toList = b.toList ↔ a = b := fun a b => ⟨fun e => qei_ (by rw [← ByteArray.toList_eq, ← ByteArray.toList_eq]; exact e), fun e => by rw [e]⟩
 have no : ∀ {P : Prop}, ¬ P → (r = true → P) → Ev (fun _ => some false) r := fun h1 h2 => ev_eq (Ev.now _) (Bool.eq_false_iff.2 (fun e => h1 (h2 e))).symm
 refine qr_ (fun g1 => ?_) (fun g1 => no g1 (fun e => by rw [(hr.1 e).1]))
 refine qr_ (fun g2 => ?_) (fun g2 => no g2 (fun e => by obtain ⟨-, -, e5, e6, e7, e8, -⟩ := hr.1 e; rw [e5, e6, e7, e8]; simp))
 refine qr_ (fun g3 => ?_) (fun g3 => no g3 (fun e => by obtain ⟨-, -, -, -, -, -, e5, e6, e7, e8, -⟩ := hr.1 e; rw [e5, e6, e7, e8]; simp))
 refine qr_ (fun g4 => ?_) (fun g4 => no g4 (fun e => by rw [(hr.1 e).2.2.2.2.2.2.2.2.2.2]))
 refine Ev.bind (same_ev l l' hc) (ev_eq (Ev.now _) ?_)
 simp only [Bool.and_eq_true, beq_iff_eq] at g2 g3
 rw [Bool.eq_iff_iff, decide_eq_true_eq, hr]
 exact ⟨fun e => ⟨(tl _ _).1 g1, e, (tl _ _).1 g2.1, (tl _ _).1 g2.2.1, g2.2.2.1, g2.2.2.2, (tl _ _).1 g3.1, (tl _ _).1 g3.2.1, g3.2.2.1, g3.2.2.2, (tl _ _).1 g4⟩, fun e => e.2.1⟩
end Go.Proofs.YtbhfbbfjdklfgaaGreatDoor.Q
namespace Go.Proofs.YtbhfbbfjdklfgaaGreatDoor.Pure
open Go.RowKit Go.Proofs.YtbhfbbfjdklfgaaGreatDoor.Q Go.Proofs.YtbhfbbfjdklfgaaGreatDoorW.PrintWords Go.Proofs.YtbhfbbfjdklfgaaGreatDoorW.PrintLast Go.Proofs.YtbhfbbfjdklfgaaGreatDoorW.PrintMore
theorem parse_num (s : ByteArray) : (qcx_ s).2.1.length ≤ s.size := by
 have h := parF_num s.size (k1 s).2.1
 change (kp s).1.length ≤ _ at h
 unfold qcx_
 split
 ·split
  ·exact Nat.zero_le _
  ·split
   ·exact h
   ·exact Nat.zero_le _
 ·exact Nat.zero_le _
theorem CommitReads : ∀ (y0 : ByteArray), y0.size ≤ 140737488351232 → ∃ k, qae_.f k y0 = some true := by
 intro s hs0
 have key : Ev (fun k => qae_.f k s) true := by
  refine qr_ (fun _ => liveOr16) (fun g1 => ?_)
  have hs : s.size ≤ 4294967000 := by omega
  refine Ev.bind (Parse_ev s hs) (Ev.bind (refParse_ev s hs) (Ev.bind (ParseTag_ev s hs) (Ev.bind (refParseTag_ev s hs) ?_)))
  have hnum := parse_num s
  have hag := fun t l an am aq az cn cm cq cz x => com_again t l an am aq az cn cm cq cz x s
  have hat := tag_again s
  generalize qcx_ s = c at *
  generalize qdj_ s = d at *
  obtain ⟨t, l, an, am, aq, az, cn, cm, cq, cz, x, e⟩ := c
  obtain ⟨o, a, g, n, m, tt, z, y, f⟩ := d
  dsimp only at hnum ⊢
  refine Ev.bind (Same_ev (t, l, an, am, aq, az, cn, cm, cq, cz, x) (t, l, an, am, aq, az, cn, cm, cq, cz, x) (by show l.length ≤ _; omega) true (by simp)) ?_
  refine qav_ rfl (qav_ rfl (ev_no (by simp) ?_))
  rw [show (f != f) = false by simp]
  refine Ev.step (f := ?_) (fun k => by rw [qae_.j0, if_neg (by decide)]) ?_
  have tail : Ev (fun k => qae_.j1 k s f o a g n m tt z y) true := by
   refine Ev.step (f := ?_) (fun k => by rw [qae_.j1]) (qr_ (fun h => ?_) (fun h => liveOr16))
   subst h
   obtain ⟨q1, q2⟩ := hat o a g n m tt z y rfl
   obtain ⟨⟨h1, h2, h3, h4, h5⟩, h6⟩ := qgs_ q1
   obtain ⟨z1, z2, z3, z4, z5⟩ := tag_sizes q1
   obtain ⟨l1, l2, p0, p1, p2, p3⟩ := qed_ h4
   refine Ev.bind (TagBody_ev o a g n m tt z y (by omega) (by omega) (by omega) (by omega)) ?_
   have e : tagBodyB o a g n m tt z y = (s, 0) := by unfold tagBodyB; rw [if_pos q1, q2]
   rw [e]
   exact qav_ rfl (qav_ rfl liveOr16)
  refine qr_ (fun h => ?_) (fun h => tail)
  subst h
  obtain ⟨q1, q2⟩ := hag t l an am aq az cn cm cq cz x rfl
  obtain ⟨⟨h1, h2, h3, h4, h5⟩, h6, h7⟩ := com_zero t l an am aq az cn cm cq cz x q1
  obtain ⟨l1, l2, _, _, _, _⟩ := qed_ h3
  obtain ⟨l3, l4, _, _, _, _⟩ := qed_ h4
  refine Ev.bind (Body_ev t l an am aq az cn cm cq cz x (by omega) (by omega) (by omega) (by omega) (by omega) (by omega)) ?_
  have e : bodyB t l an am aq az cn cm cq cz x = (s, 0) := by unfold bodyB; rw [if_pos q1, q2]
  rw [e]
  exact qav_ rfl (qav_ rfl tail)
 obtain ⟨k, hk⟩ := key
 exact ⟨k, hk k (Nat.le_refl _)⟩
end Go.Proofs.YtbhfbbfjdklfgaaGreatDoor.Pure
namespace Go.Proofs.YtbhfbbfjdklfgaaGreatDoor.Ro
open Go.RowKit Go.Deep Go.Proofs.YtbhfbbfjdklfgaaGreatDoorW.PrintWords
def Opens (P : Program) (t : TypeId) {α : Type} (d : Kd α) (S : α → Prop) : Prop :=
  ∀ {H : Type} (enc : TypeId × Value → H) (w : World) (fuel : Nat) (cs : List Value) (x : DataW H × List MemPlace),
    DataW.trod enc P w 0 (fun _ => true) true fuel t cs = some x → (∀ n ∈ DataW.weights P t x.1, n ≤ reachBytes) → ∃ y : α, d.K w y cs ∧ S y
section
variable {P : Program} {t e : TypeId}
theorem Opens.int {k : IntKind} (ht : P.underlying t = some (.int k)) : Opens P t (Kd.int k) (fun y => (Lit.int k y).wf = true) := by
  intro H enc w fuel cs x h _
  obtain ⟨n, rfl, rfl, hw⟩ := DataW.trod_int ht h
  exact ⟨n, rfl, hw⟩
theorem Opens.bool (ht : P.underlying t = some .bool) : Opens P t Kd.bool (fun _ => True) := by
  intro H enc w fuel cs x h _
  obtain ⟨b, rfl, rfl⟩ := DataW.trod_bool ht h
  exact ⟨b, rfl, trivial⟩
theorem Opens.string (ht : P.underlying t = some .string) : Opens P t Kd.string (fun y => y.size ≤ 140737488351232) := by
  intro H enc w fuel cs x h hn
  obtain ⟨s, rfl, rfl, _⟩ := DataW.trod_string ht h
  refine ⟨s, rfl, ?_⟩
  have := hn s.data.toList.length (by simp [DataW.weights])
  simpa [reachBytes] using this
theorem choose_list {α : Type} {n : Nat} {p : Nat → α → Prop} (h : ∀ i, i < n → ∃ y, p i y) : ∃ l : List α, l.length = n ∧ ∀ i y, l[i]? = some y → p i y := by
  induction n with
  | zero => exact ⟨[], rfl, fun i y hy => by simp at hy⟩
  | succ n ih =>
    obtain ⟨l, hl, hp⟩ := ih (fun i hi => h i (by omega))
    obtain ⟨y, hy⟩ := h n (by omega)
    refine ⟨l ++ [y], by simp [hl], fun i z hz => ?_⟩
    rcases Nat.lt_or_ge i l.length with hi | hi
    · rw [List.getElem?_append_left hi] at hz
      exact hp i z hz
    · rw [List.getElem?_append_right hi] at hz
      have : i - l.length = 0 := by
        have := (List.getElem?_eq_some_iff.1 hz).1
        simpa using this
      rw [this] at hz
      have h1 : i = n := by omega
      subst h1
      have : y = z := by simpa using hz
      subst this
      exact hy
theorem qgl_ {H : Type} {e : TypeId} : ∀ {l : List (DataW H)} {d : DataW H}, d ∈ l → ∀ n ∈ d.weights P e, n ∈ DataW.weightsAll P e l
  | a :: l, d, hd, n, hn => by
    simp only [DataW.weightsAll, List.mem_append]
    rcases List.mem_cons.1 hd with rfl | hd
    · exact .inl hn
    · exact .inr (qgl_ hd n hn)
theorem Opens.slice {α : Type} {d : Kd α} {S : α → Prop} {b : Nat} (ht : P.underlying t = some (.slice e)) (hc : P.cellsOf e = d.sz) (hb : P.bytesOf e = b) (h : Opens P e d S) :
    Opens P t (Kd.slice e d) (fun l => l.length * b ≤ 140737488351232 ∧ ∀ y ∈ l, S y) := by
  intro H enc w fuel cs x hx hn
  rcases open_slice ht hx with ⟨rfl, rfl⟩ | ⟨a, len, cap, m, n, D, Pl, rfl, _, hl, hm, hmm, rfl, hall⟩
  · exact ⟨[], ⟨none, 0, rfl, Nat.le_refl _, rfl, by simp, fun h => absurd h (by simp)⟩, by simp, by simp⟩
  · simp only [if_true] at hmm
    obtain rfl : m = cap := hmm
    have hel : ∀ i, i < len → ∃ y : α, (∃ cs', w.cells? 0 (a.add (i * P.cellsOf e)) (P.cellsOf e) = some cs' ∧ d.K w y cs') ∧ S y := by
      intro i hi
      obtain ⟨cs', h1, h2⟩ := hall i (by omega)
      obtain ⟨y, hy, hs⟩ := h enc w n cs' _ h2 (fun k hk => hn k (by
        simp only [DataW.weights, ht, List.mem_cons, List.mem_append]
        exact .inr (.inl (qgl_ (List.mem_map.2 ⟨i, List.mem_range.2 hi, rfl⟩) k hk))))
      exact ⟨y, ⟨cs', h1, hy⟩, hs⟩
    obtain ⟨l, hll, hp⟩ := choose_list hel
    subst hll
    have hw : (l.length + (m - l.length)) * b ≤ reachBytes := by
      have := hn _ (by simp only [DataW.weights, ht, List.mem_cons]; exact .inl rfl)
      simpa [hb] using this
    refine ⟨l, ⟨some a, m, rfl, hl, rfl, by unfold maxLen at hm; omega, fun _ => ⟨a, rfl, fun j p hj => ?_⟩⟩, ?_, fun y hy => ?_⟩
    · obtain ⟨⟨cs', h1, hk⟩, _⟩ := hp j p hj
      obtain ⟨_, hlen, hcell⟩ := World.cells?_some h1
      refine ⟨cs', by rw [hlen, hc], hk, fun i u hu => ?_⟩
      have hi : i < P.cellsOf e := by
        have := (List.getElem?_eq_some_iff.1 hu).1
        omega
      have := hcell i hi
      rw [Go.Deep.add_add, hu, hc] at this
      exact this
    · have : l.length * b ≤ (l.length + (m - l.length)) * b := Nat.mul_le_mul_right _ (by omega)
      simp only [reachBytes] at hw
      omega
    · obtain ⟨j, hj⟩ := List.mem_iff_getElem?.1 hy
      exact (hp j y hj).2
def OpensF (P : Program) (fs : List Field) (o : Nat) {α : Type} (d : Kd α) (S : α → Prop) : Prop :=
  ∀ {H : Type} (enc : TypeId × Value → H) (w : World) (n : Nat) (cs : List Value) (ys : List (DataW H × List MemPlace)),
    (∀ (i : Nat) (f : Field), fs[i]? = some f → DataW.trod enc P w 0 (fun _ => true) true n f.type ((cs.drop f.offset).take (P.cellsOf f.type)) = ys[i]?) → ys.length = fs.length →
    (∀ k ∈ DataW.weightsEach P (fs.map (·.type)) (ys.map (·.1)), k ≤ reachBytes) → cs.length = o + d.sz → ∃ y : α, d.K w y (cs.drop o) ∧ S y
theorem OpensF.one {α : Type} {f : Field} {o : Nat} {d : Kd α} {S : α → Prop} (ho : f.offset = o) (hc : P.cellsOf f.type = d.sz) (h : Opens P f.type d S) : OpensF P [f] o d S := by
  intro H enc w n cs ys hf hl hw hlen
  match ys, hl with
  | [y], _ =>
    have h1 := hf 0 f rfl
    rw [ho, hc, List.take_of_length_le (by rw [List.length_drop]; omega)] at h1
    exact h enc w n _ y h1 (fun k hk => hw k (by simp [DataW.weightsEach, hk]))
theorem OpensF.cons {α β : Type} {f : Field} {fs : List Field} {o o' : Nat} {d : Kd α} {d' : Kd β} {S : α → Prop} {S' : β → Prop} (ho : f.offset = o) (hc : P.cellsOf f.type = d.sz) (ho' : o + d.sz = o')
    (h : Opens P f.type d S) (h' : OpensF P fs o' d' S') : OpensF P (f :: fs) o (Kd.pair d d') (fun z => S z.1 ∧ S' z.2) := by
  intro H enc w n cs ys hf hl hw hlen
  match ys, hl with
  | y :: ys, hl =>
    have h1 := hf 0 f rfl
    rw [ho, hc] at h1
    have hlen' : cs.length = o + (d.sz + d'.sz) := hlen
    obtain ⟨a, ha, hs⟩ := h enc w n _ y h1 (fun k hk => hw k (by simp only [List.map_cons, DataW.weightsEach, List.mem_append]; exact .inl hk))
    obtain ⟨b, hb, hs'⟩ := h' enc w n cs ys (fun i g hg => hf (i + 1) g (by simpa using hg)) (by simpa using hl) (fun k hk => hw k (by simp only [List.map_cons, DataW.weightsEach, List.mem_append]; exact .inr hk)) (by omega)
    refine ⟨(a, b), ⟨_, _, ?_, ha, hb⟩, hs, hs'⟩
    rw [← ho', ← List.drop_drop, List.take_append_drop]
theorem Opens.struct {α β : Type} {fs : Array Field} {d : Kd α} {S : α → Prop} {f : β → α} {g : α → β} (ht : P.underlying t = some (.struct fs)) (hc : P.cellsOf t = d.sz) (hfg : ∀ a, f (g a) = a) (h : OpensF P fs.toList 0 d S) :
    Opens P t (Kd.iso d f) (fun y => S (f y)) := by
  intro H enc w fuel cs x hx hn
  obtain ⟨xs, n, _, rfl, hl, hlen, hf⟩ := DataW.trod_struct ht hx
  obtain ⟨a, ha, hs⟩ := h enc w n cs xs (fun i q hq => hf i q (by simpa using hq)) (by simpa using hlen) (fun k hk => hn k (by simpa [DataW.weights, ht] using hk)) (by rw [hl, hc]; omega)
  refine ⟨g a, ?_, by show S (f (g a)); rw [hfg]; exact hs⟩
  show d.K w (f (g a)) cs
  rw [hfg]
  simpa using ha
theorem Opens.imp {α : Type} {d : Kd α} {S S' : α → Prop} (h : Opens P t d S) (hS : ∀ y, S y → S' y) : Opens P t d S' := by
  intro H enc w fuel cs x hx hn
  obtain ⟨y, hy, hs⟩ := h enc w fuel cs x hx hn
  exact ⟨y, hy, hS y hs⟩
theorem Opens.arg {H : Type} {enc : TypeId × Value → H} {α : Type} {d : Kd α} {S : α → Prop} {w : World} {ts : List TypeId} {ds : List (DataW H)} {j : Nat} {v : Value} {dd : DataW H} {ps : List MemPlace} (h : Opens P t d S)
    (hz : (DataW.weightsEach P ts ds).all (· ≤ reachBytes) = true) (ht : ts[j]? = some t) (hd : ds[j]? = some dd) (hv : DataW.Trod enc P w 0 (fun _ => true) true t v dd ps) : ∃ y : α, d.K w y v.cells.toList ∧ S y := by
  obtain ⟨fuel, hf⟩ := hv
  exact h enc w fuel _ (dd, ps) hf (fun n hn => by simpa using List.all_eq_true.1 hz n (DataW.weights_mem_each ht hd n hn))
theorem arg_lt {H : Type} {enc : TypeId × Value → H} {w : World} {v : Value} {dd : DataW H} {ps : List MemPlace} (hv : DataW.Trod enc P w 0 (fun _ => true) true t v dd ps) : ∀ x ∈ ps, x.block < w.heap.size := by
  obtain ⟨m, hm⟩ := hv
  exact DataW.trod_lt m _ _ _ hm
end
end Go.Proofs.YtbhfbbfjdklfgaaGreatDoor.Ro
namespace Go.Proofs.YtbhfbbfjdklfgaaGreatDoor.commitReads
open Go.ChangeShapes Go.WideShapes Go.ChangeAt Go.RowKit Go.Proofs.YtbhfbbfjdklfgaaGreatDoor.Ro Go.Proofs.YtbhfbbfjdklfgaaGreatDoor.Q Go.Proofs.YtbhfbbfjdklfgaaGreatDoorW.PrintWords
open Go.ChangeMaps (open_string shut_string)
theorem own : ownKnob Tryz.prog.godebug = none := by kernel_rfl
theorem laidOut : laidOutB Tryz.prog = true := by kernel_rfl
theorem opens9 : Opens Tryz.prog 9 Kd.string (fun y => y.size ≤ 140737488351232) := (Opens.string Tryz.underlying9)
theorem lifted (os : Os) (started : os.Started) (H : Type) (enc : TypeId × Value → H) :
    ReturnsInHanded {} Tryz.checked os 4 .any (fun w args => (Rows.commitReadsSpec.pre enc Tryz.prog Tryz.f4 [] false w args ∧ laidMetH Tryz.prog Rows.commitReadsRow.laid w) ∧ sizedMet enc Tryz.prog Tryz.f4 (OpenSpec.ofChange Rows.commitReadsSpec) false w args) (Rows.commitReadsSpec.post enc Tryz.prog Tryz.f4 false true false false) := by
  refine returnsInHanded_and_shaped (C := Tryz.checked) (X := fun w _ => laidMetH Tryz.prog Rows.commitReadsRow.laid w) (fun _ _ _ hh h => h.of_heap hh) own started (by kernel_rfl) Tryz.func4
    (ChangeSpec.witness_shaped (enc := enc) (C := Tryz.checked) (os := os) (X := fun w _ => laidMetH Tryz.prog Rows.commitReadsRow.laid w) false (World.laidAll Tryz.prog os Rows.commitReadsRow.laid) #[.string ByteArray.empty] 8 (World.laidAll_os _ _ _)
      (World.shaped_of_ZipB (by kernel_rfl) (by kernel_rfl)) (by kernel_rfl) (by kernel_rfl) (by kernel_rfl)
      (by rw [MakeChecks.laidMetH_plain _ _ _ (by kernel_rfl)]; exact laidMet_laidAll _ (by kernel_rfl) (by kernel_rfl))) ?_
  intro W base args ds gs before hval0 hW hcnd hsz0 hlm0 hsh0
  have hsz : (DataW.weightsEach Tryz.prog (Tryz.f4.params.toList ++ Rows.commitReadsSpec.plain.varTypes Tryz.prog) (ds ++ gs)).all (· ≤ reachBytes) = true := hsz0
  have hval : ∀ (j : Nat) t v, Tryz.f4.params[j]? = some t → args[j]? = some v → Value.okWide Tryz.prog W .any base t v := hval0
  have hW' := hW
  obtain ⟨p, q, hA0, hV, rfl, hfz, hnd⟩ := hW
  have hA : DataW.TrodAll enc Tryz.prog W 0 (fun _ => true) true Tryz.f4.params.toList args.toList ds p := hA0
  rw [Tryz.params4] at hA hval hsz
  obtain ⟨v0, vs0, d0, ds0, p0, q0, hargs, rfl, rfl, h0, r0⟩ := trodAll_cons hA
  obtain ⟨rfl, rfl, rfl⟩ := trodAll_nil r0
  obtain rfl : args = #[v0] := by cases args; simp_all
  obtain ⟨rfl, rfl⟩ := trodVars_none hV
  have lt0 := arg_lt h0
  obtain ⟨y0, hk0, w0⟩ := opens9.arg hsz (j := 0) rfl rfl h0
  obtain ⟨x0, rfl⟩ := okWide_string Tryz.underlying9 (hval 0 9 v0 rfl rfl)
  obtain rfl : x0 = y0 := by simpa [Kd.string, Kd.scalar, Value.cells] using hk0
  obtain ⟨k, hp⟩ := Pure.CommitReads _ w0
  clear hA0 hval0 hsz0 hsz
  refine (Q.qae_.calls k _ true W (GV.shaped hsh0 (l := Rows.commitReadsRow.laid) (by have h_ := hlm0; rw [MakeChecks.laidMetH_plain _ _ _ (by kernel_rfl)] at h_; exact h_) (.tail _ (.tail _ (.head _)))) hp).mono ?_
  rintro e W' ⟨rfl, bel0⟩
  have bel : Below W.heap.size W W' := bel0
  exact ⟨_, rfl, _, _, _, [], _, [], hW', trodAll_mk1 (shut_bool Tryz.underlying4 _), (trodAll_cons_mk (Below.trod laidOut (by kernel_rfl) (of_decide_eq_true (by kernel_rfl)) h0 bel lt0) trodAll_mk0), rfl, bel.frame _, fun h => by cases h⟩
theorem over : Rows.commitReadsRow.holds Tryz.pinned (OpenSpec.ofChange Rows.commitReadsSpec) :=
  OpenClaim.holds_of_wide 4 Tryz.f4 rfl rfl rfl rfl rfl rfl rfl ⟨rfl, rfl, rfl, rfl, rfl⟩ rfl rfl rfl rfl rfl (by kernel_rfl) Tryz.func4 joined
    (of_decide_eq_true (by kernel_rfl)) (by unfold Func.isWrapper; first | (rw [if_pos (by decide +kernel)]; kernel_rfl) | (rw [if_neg (by decide +kernel)]; exact ⟨rfl, rfl⟩))
    (fun os started H enc _ => lifted os started H enc)
theorem proved : Rows.CommitReadsSaid := over
theorem card_holds : Rows.CommitReadsCardSaid :=
  Claim7.holds_tied_plain_at .later [] [.data, .data, .data, .data, .sentinel, .sentinel, .pinned] true (true, "122aec7e533ec1bbbaac3b90e11b4338a89c93a5f0ce7185d6d93993e47251e7") true over (fun _ h => by cases h) jw (fun _ h => by cases h) commitReads_row_tie rfl ⟨rfl, rfl⟩ jm rfl
    (fun f fn hf hfn => by
      obtain rfl : f = 4 := Option.some.inj ((show Tryz.prog.funcNamed "graftage/graftagelaw16.CommitReads" = some 4 by kernel_rfl).symm.trans hf) |>.symm
      obtain rfl : fn = Tryz.f4 := (Option.some.inj (Tryz.func4.symm.trans hfn)).symm
      exact ⟨jl, fun j t ht => by
        rw [Tryz.params4] at ht
        have hm : t ∈ [9] := by simpa using Array.mem_of_getElem? ht
        have hall : ([9].all fun u => !Tryz.prog.wantsStandIn u) = true := by kernel_rfl
        exact (show Tryz.prog.wantsStandIn t = false by simpa using List.all_eq_true.1 hall t hm)⟩)
    jg
#print axioms card_holds
end Go.Proofs.YtbhfbbfjdklfgaaGreatDoor.commitReads
namespace Go.Proofs.YtbhfbbfjdklfgaaGreatDoor
theorem commitReads_holds : Rows.CommitReadsCardSaid := commitReads.card_holds
end Go.Proofs.YtbhfbbfjdklfgaaGreatDoor

