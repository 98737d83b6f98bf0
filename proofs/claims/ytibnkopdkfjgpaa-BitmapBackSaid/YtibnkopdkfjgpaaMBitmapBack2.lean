/- The law BitmapBack holds: for every input it returns true, and each argument reads afterwards as it read before. -/
import Derived.Test.YtibnkopdkfjgpaaMYBitmapBack1
import Derived.Test.YtibnkopdkfjgpaaMBitmapBack1
import Derived.Shelf.Abstract
import Derived.BigRegion
import Derived.Deep.QuietTactic
import Derived.BigQuiet
set_option linter.unusedVariables false
set_option linter.unusedSimpArgs false
/- bitmap.join by hand: two cursors over runs, and a closure that writes the runs of the answer. -/
namespace Go.Proofs.Ytibnkopdkfjgpaa.Q
open Go.RowKit Go.Proofs.YtibnkopdkfjgpaaW.PrintWords Go.Proofs.YtibnkopdkfjgpaaW.PrintLast Go.Proofs.YtibnkopdkfjgpaaW.PrintMore
open Bm
/-- the bits that a cursor has ahead of it -/
def rem (l : List Int) (p : Nat) (x : Int) : List Bool := List.replicate x.toNat (decide (p % 2 = 0)) ++ exp (decide (p % 2 = 1)) (l.drop p)
theorem par_ (p : Nat) : decide ((p + 1) % 2 = 0) = decide (p % 2 = 1) := by
  rw [Bool.eq_iff_iff, decide_eq_true_eq, decide_eq_true_eq]; omega
theorem par2_ (p : Nat) : decide ((p + 1) % 2 = 1) = !decide (p % 2 = 1) := by
  rw [Bool.eq_iff_iff]; simp only [Bool.not_eq_true', decide_eq_true_eq, decide_eq_false_iff_not]; omega
theorem rem_next {l : List Int} {p : Nat} (h : p < l.length) : rem l p 0 = rem l (p + 1) (rd l (p : Int)) := by
  obtain ⟨r, t, hd⟩ : ∃ r t, l.drop p = r :: t := ⟨_, _, List.drop_eq_getElem_cons h⟩
  obtain ⟨_, hr, ht⟩ := drop_at hd
  unfold rem
  rw [hd, hr, ht, exp, par_, par2_]
  simp
theorem rem_end {l : List Int} {p : Nat} (h : l.length ≤ p) : rem l p 0 = [] := by
  unfold rem
  rw [List.drop_eq_nil_of_le h]; rfl
theorem rem_take {l : List Int} {p : Nat} {x n : Int} (h0 : 0 ≤ n) (h1 : n ≤ x) : rem l p x = List.replicate n.toNat (decide (p % 2 = 0)) ++ rem l p (x - n) := by
  unfold rem
  rw [← List.append_assoc, List.replicate_append_replicate, show n.toNat + (x - n).toNat = x.toNat by omega]
theorem zw_rep (f : Bool → Bool → Bool) (u v : Bool) (s t : List Bool) : ∀ n : Nat, List.zipWith f (List.replicate n u ++ s) (List.replicate n v ++ t) = List.replicate n (f u v) ++ List.zipWith f s t
  | 0 => rfl
  | n + 1 => by rw [List.replicate_succ, List.replicate_succ, List.replicate_succ, List.cons_append, List.cons_append, List.cons_append, List.zipWith_cons_cons, zw_rep f u v s t n]
/-- one round: a piece of both is taken -/
theorem both_step {f : Bool → Bool → Bool} {a b : List Int} {p q : Nat} {x y n : Int} {R : List Int} {Z : List Bool} (hR : Canon R) (hn : 1 ≤ n) (hx : n ≤ x) (hy : n ≤ y)
    (hZ : exp false R ++ List.zipWith f (rem a p x) (rem b q y) = Z) :
    Canon (push R (f (decide (p % 2 = 0)) (decide (q % 2 = 0))) n) ∧ exp false (push R (f (decide (p % 2 = 0)) (decide (q % 2 = 0))) n) ++ List.zipWith f (rem a p (x - n)) (rem b q (y - n)) = Z := by
  refine ⟨push_canon hR hn, ?_⟩
  rw [push_exp hR hn, List.append_assoc, ← zw_rep, ← rem_take (by omega) hx, ← rem_take (by omega) hy]
  exact hZ
theorem canon_len : ∀ {R : List Int}, Canon R → R.length ≤ (exp false R).length + 1
  | [], _ => by simp
  | r :: t, h => by
    have key : ∀ (t : List Int) (b : Bool), Pos t → t.length ≤ (exp b t).length := by
      intro t
      induction t with
      | nil => intro b _; simp
      | cons s u ih =>
        intro b hp
        have h1 := hp s (by simp)
        have h2 := ih (!b) (fun x hx => hp x (by simp [hx]))
        rw [exp, List.length_append, List.length_replicate, List.length_cons]; omega
    have := key t (!false) h.2.1
    rw [exp, List.length_append, List.length_cons]; omega
theorem rd_nonneg {R : List Int} (h : Canon R) (i : Nat) : 0 ≤ R.getD i 0 := by
  rw [List.getD_eq_getElem?_getD]
  cases hh : R[i]? with
  | none => simp
  | some v => exact canon_nonneg h v (List.mem_of_getElem? hh)
theorem rd_le_exp {R : List Int} (h : Canon R) : ∀ i : Nat, R.getD i 0 ≤ ((exp false R).length : Int) := by
  have key : ∀ (R : List Int) (b : Bool) (i : Nat), R.getD i 0 ≤ ((exp b R).length : Int) := by
    intro R
    induction R with
    | nil => intro b i; simp
    | cons r t ih =>
      intro b i
      rw [exp, List.length_append, List.length_replicate]
      cases i with
      | zero => rw [List.getD_cons_zero]; omega
      | succ i => rw [List.getD_cons_succ]; have := ih (!b) i; omega
  exact fun i => key R false i
def NextPost (l : List Int) (A : Option Addr) (c g : Nat) (w0 w : World) (p : Nat) (x : Int) (b : Bool) (p' : Nat) (x' : Int) (w' : World) : Prop :=
  (p' ≤ l.length ∧ 0 ≤ x' ∧ x' ≤ 1048576 ∧ rem l p' x' = rem l p x ∧ (b = true → 0 < x') ∧ (b = false → rem l p x = [])) ∧
  w'.heap[g]? = some (.cells #[.slice A l.length c, .int .i64 p', .int .i64 x'] 79 (0, 0)) ∧ Below w0.heap.size w0 w' ∧ KeepBut w w' g none
set_option maxHeartbeats 8000000 in
set_option maxRecDepth 100000 in
theorem next_calls (l : List Int) (A : Option Addr) (c : Nat) (hl : ∀ i : Nat, i < l.length → 0 ≤ rd l (i : Int) ∧ rd l (i : Int) ≤ 1048576) (hL : l.length ≤ 1099511627776) (g : Nat) (w0 w : World) (p : Nat) (x : Int) (hx : 0 ≤ x) (hx1 : x ≤ 1048576) (hp : p ≤ l.length) (hg : w0.heap.size ≤ g) (hb : w.heap[g]? = some (.cells #[.slice A l.length c, .int .i64 p, .int .i64 x] 79 (0, 0))) (hA : Kd.C (Kd.int .i64) w0 A l.length l) (hB : Below w0.heap.size w0 w) :
    Calls Try.prog 58 #[.pointer (some ⟨g, 0, none⟩)] w fun e w' => ∃ (b : Bool) (p' : Nat) (x' : Int), e = .returned (.bool b) ∧ NextPost l A c g w0 w p x b p' x' w' := by
  have HA := Aside0.mk hA
  have HS := Aside0.mk (show p ≤ l.length ∧ 0 ≤ x ∧ x ≤ 1048576 ∧ rem l p x = rem l p x ∧ l.length - p ≤ l.length from ⟨hp, hx, hx1, rfl, by omega⟩)
  have BK0 := Aside0.mk hb
  have HB0 := Aside0.mk hB
  have HL := Aside0.mk hl
  have HM := Aside0.mk hL
  have GE := Aside0.mk hg
  clear hA hx hx1 hp hb hB hl hL hg
  go_enter Try.func58, Try.ntmps58
  go_wp2
  go_loopg [] (l.length) (fun k wr => ∃ (q : Nat) (y : Int), Aside0 (q ≤ l.length ∧ 0 ≤ y ∧ y ≤ 1048576 ∧ rem l q y = rem l p x ∧ l.length - q ≤ k) ∧ Aside0 (wr.heap[g]? = some (.cells #[.slice A l.length c, .int .i64 q, .int .i64 y] 79 (0, 0))) ∧ Aside0 (Below w0.heap.size w0 wr) ∧ Aside0 (KeepBut w wr g none))
  case atStart => exact ⟨p, x, ⟨HS.out.1, HS.out.2.1, HS.out.2.2.1, rfl, HS.out.2.2.2.2⟩, BK0, HB0, ⟨KeepBut.refl _ _ _⟩⟩
  case round =>
    clear HS BK0 HB0
    obtain ⟨q, y, HQ, BK, HB, HK⟩ := hrel
    have hcz0 : wr.cell? ⟨g, 0, none⟩ = some (.slice A l.length c) := (blk_cell BK.out 0).trans rfl
    have hcz1 : wr.cell? ⟨g, 1, none⟩ = some (.int .i64 q) := (blk_cell BK.out 1).trans rfl
    have hcz2 : wr.cell? ⟨g, 2, none⟩ = some (.int .i64 y) := (blk_cell BK.out 2).trans rfl
    have hfz1 := blk_frozen BK.out 1
    have hfz2 := blk_frozen BK.out 2
    by_cases hy : y = 0
    · have ht : (y == 0) = true := by simpa using hy
      by_cases hq : q < l.length
      · have ht2 : decide (l.length ≤ q) = false := decide_eq_false (by omega)
        have h0q : 0 ≤ (q : Int) := by omega
        have h1q : (q : Int) < (l.length : Int) := by omega
        obtain ⟨ad, e, hc⟩ := Kd.at_int (Kd.C_below HA.out HB.out) (q : Int) (by omega) (by omega)
        cases e
        have hc2 : wr.cell? (ad.add q) = some (.int .i64 (rd l (q : Int))) := by simpa using hc
        have HY := Aside0.mk hy
        have HLT := Aside0.mk hq
        clear hy hq hc
        go_wp2
        go_quiet (fail)
        go_wp2
        go_region
        go_wp2
        have hq := HLT.out
        have hm := HM.out
        obtain ⟨hQ1, hQ2, hQ3, hQ4, hQ5⟩ := HQ.out
        obtain ⟨m, rfl⟩ : ∃ m, gk = m + 1 := ⟨gk - 1, by omega⟩
        have e1 : wrap64 ((q : Int) + 1) = ((q + 1 : Nat) : Int) := by rw [wrap_id (by omega) (by omega)]; omega
        rw [e1]
        go_roundg m
        case rel =>
          obtain ⟨hl1, hl2⟩ := HL.out q hq
          refine ⟨q + 1, rd l (q : Int), ⟨by omega, hl1, hl2, ?_, by omega⟩, ⟨?_⟩, ⟨?_⟩, ⟨?_⟩⟩
          · have hy := HY.out
            rw [← rem_next hq, ← hQ4, hy]
          · have := blk_set (blk_set (blk_drewN BK.out (nq + 1)) 2 (.int .i64 (rd l (q : Int)))) 1 (.int .i64 ((q + 1 : Nat) : Int))
            simpa using this
          · exact below_set (below_set (pw_below_drewN HB.out _) GE.out) GE.out
          · exact ((keep_drewN HK.out _).set_ _ _).set_ _ _
        case measure => omega
      · have ht2 : decide (l.length ≤ q) = true := decide_eq_true (by omega)
        have HY := Aside0.mk hy
        have HLT := Aside0.mk hq
        clear hy hq
        go_wp2
        go_quiet (fail)
        go_wp2
        go_ret
        obtain ⟨hQ1, hQ2, hQ3, hQ4, hQ5⟩ := HQ.out
        refine ⟨false, q, y, rfl, ⟨hQ1, hQ2, hQ3, hQ4, fun h => (by cases h), fun _ => ?_⟩, blk_drewN BK.out _, pw_below_drewN HB.out _, keep_drewN HK.out _⟩
        rw [← hQ4, HY.out]
        exact rem_end (Nat.le_of_not_lt HLT.out)
    · have ht : (y == 0) = false := by simpa using hy
      have HY := Aside0.mk hy
      clear hy
      go_wp2
      go_ret
      obtain ⟨hQ1, hQ2, hQ3, hQ4, hQ5⟩ := HQ.out
      exact ⟨true, q, y, rfl, ⟨hQ1, hQ2, hQ3, hQ4, fun _ => (by have := HY.out; omega), fun h => (by cases h)⟩, BK.out, HB.out, HK.out⟩
theorem pair_C (w : World) (x y : Int) : Kd.C (Kd.int .i64) (w.alloc (.cells #[.int .i64 x, .int .i64 y] 3)) (some ⟨w.heap.size, 0, none⟩) 2 [x, y] := by
  refine Kd.C_of_reads (d := (0 : Int)) ⟨rfl, by omega, fun _ => ⟨_, rfl, fun j hj => ?_⟩⟩
  have hb := blk_new w (.cells #[.int .i64 x, .int .i64 y] 3)
  have : j = 0 ∨ j = 1 := by omega
  rcases this with rfl | rfl
  · exact (blk_cell hb 0).trans rfl
  · exact (blk_cell hb 1).trans rfl
/-- what the closure of join keeps: the runs so far in the captured answer, the test in its cell -/
def JP (w0 : World) (go gi : Nat) (s : Int) (F : FuncId) (w : World) (R : List Int) : Prop :=
  ∃ v, Kd.R (Kd.int .i64) 3 w w0.heap.size (fun _ => True) v R ∧ w.heap[go]? = some (.cells #[.int .i64 s, v] 25 (0, 0)) ∧
    w.heap[gi]? = some (.cells #[.func (.func F) #[] #[]] 45 (0, 0)) ∧ Below w0.heap.size w0 w ∧ w0.heap.size ≤ go
def Others (w w' : World) (go : Nat) : Prop := ∀ g' cs t, w.heap[g']? = some (.cells cs t (0, 0)) → t ≠ 3 → g' ≠ go → w'.heap[g']? = some (.cells cs t (0, 0))
theorem jp_mid {w0 w W w2 : World} {go gi : Nat} {s : Int} {v : Value} {R : List Int} {t : Nat} {cs : Array Value} (HO : Kd.R (Kd.int .i64) 3 w w0.heap.size (fun _ => True) v R) {g' : Nat} (hb : w.heap[g']? = some (.cells cs t (0, 0))) (ht : t ≠ 3)
    (hup : ∀ (g' : Nat) (o : Obj), w.heap[g']? = some o → W.heap[g']? = some o) (hg : W.grownBy w2 v.ownBlock) : w2.heap[g']? = some (.cells cs t (0, 0)) :=
  blk_grown (hup _ _ hb) hg (Kd.R_ne HO hb (fun e => ht e.symm))
theorem jp_end {w0 w W w2 : World} {go gi : Nat} {s : Int} {F : FuncId} {v v2 : Value} {R R2 : List Int} (HO : Kd.R (Kd.int .i64) 3 w w0.heap.size (fun _ => True) v R) (BO : w.heap[go]? = some (.cells #[.int .i64 s, v] 25 (0, 0)))
    (BI : w.heap[gi]? = some (.cells #[.func (.func F) #[] #[]] 45 (0, 0))) (GE : w0.heap.size ≤ go) (hup : ∀ (g' : Nat) (o : Obj), w.heap[g']? = some o → W.heap[g']? = some o) (ho : Kd.R (Kd.int .i64) 3 w2 w0.heap.size (fun _ => True) v2 R2) (hb : Below w0.heap.size w0 w2) (hg : W.grownBy w2 v.ownBlock) :
    JP w0 go gi s F (w2.setCell ⟨go, 1, none⟩ v2) R2 ∧ Others w (w2.setCell ⟨go, 1, none⟩ v2) go := by
  have b2 := jp_mid (gi := gi) (go := go) (s := s) HO BO (by decide) hup hg
  have i2 := jp_mid (gi := gi) (go := go) (s := s) HO BI (by decide) hup hg
  have hne : gi ≠ go := by
    rintro rfl
    rw [BI] at BO
    injection BO with BO
    injection BO with _ BO
    exact absurd BO (by decide)
  refine ⟨⟨v2, Kd.R_set ho b2 (fun q hq => ?_) 1 v2, ?_, blk_far i2 hne _, below_set hb GE, GE⟩, fun g' cs t h ht hg' => blk_far (jp_mid (gi := gi) (go := go) (s := s) HO h ht hup hg) hg' _⟩
  · have : q = 3 := by simpa [Kd.int, Kd.scalar] using hq
    rw [this]; decide
  · have := blk_set b2 1 v2
    simpa using this
theorem jp_end2 {w0 w w2 : World} {go gi : Nat} {s : Int} {F : FuncId} {v : Value} {R R2 : List Int} (HO : Kd.R (Kd.int .i64) 3 w w0.heap.size (fun _ => True) v R) (BO : w.heap[go]? = some (.cells #[.int .i64 s, v] 25 (0, 0)))
    (BI : w.heap[gi]? = some (.cells #[.func (.func F) #[] #[]] 45 (0, 0))) (GE : w0.heap.size ≤ go) (ho : Kd.R (Kd.int .i64) 3 w2 w0.heap.size (fun _ => True) v R2) (hb : Below w0.heap.size w0 w2) (hg : w.grownBy w2 v.ownBlock) :
    JP w0 go gi s F w2 R2 ∧ Others w w2 go :=
  ⟨⟨v, ho, jp_mid (gi := gi) (go := go) (s := s) HO BO (by decide) (fun _ _ h => h) hg, jp_mid (gi := gi) (go := go) (s := s) HO BI (by decide) (fun _ _ h => h) hg, hb, GE⟩, fun g' cs t h ht _ => jp_mid (gi := gi) (go := go) (s := s) HO h ht (fun _ _ h => h) hg⟩
set_option maxHeartbeats 8000000 in
set_option maxRecDepth 100000 in
theorem join1_calls (F : FuncId) (f : Bool → Bool → Bool) (eg : ∀ args w, (callFunc F args).run Try.prog w = .ok (.enter F args) w) (hF : ∀ x y w, Calls Try.prog F #[.bool x, .bool y] w fun e w' => e = .returned (.bool (f x y)) ∧ Drawn0 w w')
    (w0 w : World) (go gi : Nat) (s : Int) (R : List Int) (x y : Bool) (n : Int) (hJ : JP w0 go gi s F w R) (hn : 1 ≤ n) (hn2 : n ≤ 1048576) (hl : R.length ≤ 4194304) (hs : ∀ i : Nat, 0 ≤ R.getD i 0 ∧ R.getD i 0 ≤ 1048576) :
    Calls Try.prog 45 #[.bool x, .bool y, .int .i64 n, .pointer (some ⟨gi, 0, none⟩), .pointer (some ⟨go, 0, none⟩)] w fun e w' => e = .returned (.tuple #[]) ∧ JP w0 go gi s F w' (push R (f x y) n) ∧ Others w w' go := by
  obtain ⟨v, hO, bo, bi, hB, hge⟩ := hJ
  obtain ⟨A, c, rfl⟩ := Kd.R_slice hO
  have HO := Aside0.mk hO
  have BO := Aside0.mk bo
  have BI := Aside0.mk bi
  have HB := Aside0.mk hB
  have GE := Aside0.mk hge
  have HS := Aside0.mk hs
  have HL := Aside0.mk hl
  have hcz0 : w.cell? ⟨go, 0, none⟩ = some (.int .i64 s) := (blk_cell BO.out 0).trans rfl
  have hcz1 : w.cell? ⟨go, 1, none⟩ = some (.slice A R.length c) := (blk_cell BO.out 1).trans rfl
  have hcz2 : w.cell? ⟨gi, 0, none⟩ = some (.func (.func F) #[] #[]) := (blk_cell BI.out 0).trans rfl
  have hfz1 := blk_frozen BO.out 1
  obtain ⟨on, hon⟩ : ∃ on, f x y = on := ⟨_, rfl⟩
  have hF' := hF x y
  rw [hon] at hF' ⊢
  clear hF hon hO bo bi hB hge hs hl
  have hu := Try.underlying22
  by_cases h0 : R.length = 0
  · obtain rfl := List.eq_nil_of_length_eq_zero h0
    clear h0
    cases on
    · go_enter Try.func45, Try.ntmps45
      go_wp2_with (first | (go_at_fn F; refine calls_of_args (args' := #[.bool x, .bool y]) (by first | rfl | simp) ?_; (refine (hF' _).mono ?_); rintro e w1 ⟨rfl, ⟨nd, rfl⟩⟩) | ((with_reducible refine gate_builtin (b := .append) (xs := #[.tmp 18, .tmp 20]) rfl ?_); at_builtin; refine Kd.R_append (Kd.int .i64) (w0 := w0) w0.heap.size rfl (.tmp 18) (.tmp 20) 22 3 (.int .i64 0) 8 rfl hu info3 rfl (by decide) (by omega) (.slice A 0 c) [] n [.int .i64 n] (fun _ => True) (fun _ => False) rfl rfl ?aP (fun _ hk => hk.elim) ?aF ?aO ?aB ?aS ?aL ?_; (case aP => exact rfl); (case aF => exact (fun _ _ => trivial)); (case aO => exact Kd.R_drewN HO.out _); (case aB => exact pw_below_drewN HB.out _); (case aS => exact below_size (pw_below_drewN HB.out _)); (case aL => have := HL.out; simp); intro v2 w2 ho hb hg hat; have HO2 := Aside0.mk ho; have HB2 := Aside0.mk hb; have HG2 := Aside0.mk hg; have b2 := jp_mid (gi := gi) (go := go) (s := s) HO.out BO.out (by decide) (fun _ _ h => blk_drewN h _) hg; obtain ⟨A2, c2, e2⟩ := Kd.R_slice ho; subst e2; have hcy : w2.cell? ⟨go, 1, none⟩ = some (.slice A 0 c) := (blk_cell b2 1).trans rfl; have hfy := blk_frozen b2 1; clear ho hb hg hat b2))
      go_end0
      have e : push [] false n = [n] := by unfold push; simp
      rw [e]
      exact ⟨rfl, jp_end HO.out BO.out BI.out GE.out (fun _ _ h => blk_drewN h _) HO2.out HB2.out HG2.out⟩
    · go_enter Try.func45, Try.ntmps45
      go_wp2_with (first | (go_at_fn F; refine calls_of_args (args' := #[.bool x, .bool y]) (by first | rfl | simp) ?_; (refine (hF' _).mono ?_); rintro e w1 ⟨rfl, ⟨nd, rfl⟩⟩) | ((with_reducible refine gate_builtin (b := .append) (xs := #[.tmp 30, .tmp 32]) rfl ?_); at_builtin; refine Kd.R_append_row (Value.int .i64) 0 (h1 := fun _ => rfl) (w0 := w0) w0.heap.size rfl (.tmp 30) (.tmp 32) 22 3 (.int .i64 0) 8 rfl hu info3 rfl (by decide) (.slice A 0 c) [] [0, n] (some ⟨w.heap.size, 0, none⟩) 2 2 (fun _ => True) rfl rfl (fun _ _ => trivial) ?aO ?aR ?aB ?aS ?aL ?_; (case aO => exact Kd.R_alloc (Kd.R_drewN HO.out _) _); (case aR => exact pair_C (w.drewN nd) 0 n); (case aB => exact below_alloc (pw_below_drewN HB.out _) _); (case aS => exact below_size (below_alloc (pw_below_drewN HB.out _) _)); (case aL => simp); intro v2 w2 ho hb hg hat; have HO2 := Aside0.mk ho; have HB2 := Aside0.mk hb; have HG2 := Aside0.mk hg; have b2 := jp_mid (gi := gi) (go := go) (s := s) HO.out BO.out (by decide) (fun _ _ h => blk_alloc (blk_drewN h _) _) hg; obtain ⟨A2, c2, e2⟩ := Kd.R_slice ho; subst e2; have hcy : w2.cell? ⟨go, 1, none⟩ = some (.slice A 0 c) := (blk_cell b2 1).trans rfl; have hfy := blk_frozen b2 1; clear ho hb hg hat b2))
      go_end0
      have e : push [] true n = [0, n] := by unfold push; simp
      rw [e]
      exact ⟨rfl, jp_end HO.out BO.out BI.out GE.out (fun _ _ h => blk_alloc (blk_drewN h _) _) HO2.out HB2.out HG2.out⟩
  · have hz : ((R.length : Int) == 0) = false := by simp; exact fun e => h0 (by rw [e]; rfl)
    have hp : decide (0 < R.length) = true := decide_eq_true (by omega)
    have hp2 : (0 < R.length) = True := eq_true (by omega)
    by_cases h1 : decide (R.length % 2 = 0) = on
    · have hm : (((R.length : Int) % 2) == 0) = on := by rw [← h1, Bool.eq_iff_iff]; simp; omega
      have e : push R on n = R.set (R.length - 1) (R.getD (R.length - 1) 0 + n) := by unfold push; rw [if_neg (fun h => h0 h.1), if_pos ⟨by omega, h1⟩]
      obtain ⟨gr, cr, er, gb, gl, cl, HGr⟩ := Kd.R_form HO.out (by omega)
      cases er
      obtain ⟨hx, hf⟩ := Kd.R_celln (0 : Int) HO.out ((R.length - 1 : Nat) : Int) (by omega) (by omega)
      have hL := HL.out
      have hw : wrap64 ((R.length : Int) - 1) = ((R.length - 1 : Nat) : Int) := by rw [wrap_id (by omega) (by omega)]; omega
      have hlt : decide (R.length - 1 < R.length) = true := decide_eq_true (by omega)
      have hlt2 : (R.length - 1 < R.length) = True := eq_true (by omega)
      have hS := HS.out (R.length - 1)
      have hrd : rdOf 0 R ((R.length - 1 : Nat) : Int) = R.getD (R.length - 1) 0 := by unfold rdOf; simp
      rw [hrd] at hx
      obtain ⟨z, hz0⟩ : ∃ z, R.getD (R.length - 1) 0 = z := ⟨_, rfl⟩
      rw [hz0] at hx hS e
      have hx2 : w.cell? ⟨gr, R.length - 1, none⟩ = some (.int .i64 z) := by simpa using hx
      have hf2 : w.frozen? ⟨gr, R.length - 1, none⟩ = false := by simpa using hf
      have hsum : wrap64 (z + n) = z + n := wrap_id (by omega) (by omega)
      have HP := Aside0.mk (fun nd : Nat => Kd.R_putg (W := w.drewN nd) (Kd.R_drewN HO.out nd) ((R.length - 1 : Nat) : Int) (z + n))
      clear hrd hz0
      clear hS hL h0 h1 hx hf
      cases on
      · go_enter Try.func45, Try.ntmps45
        go_wp2_with (first | (go_at_fn F; refine calls_of_args (args' := #[.bool x, .bool y]) (by first | rfl | simp) ?_; (refine (hF' _).mono ?_); rintro e w1 ⟨rfl, ⟨nd, rfl⟩⟩))
        go_end0
        rw [e]
        exact ⟨rfl, jp_end2 (w := w.drewN nd) (Kd.R_drewN HO.out _) (blk_drewN BO.out _) (blk_drewN BI.out _) GE.out (HP.out nd).1 (below_set (pw_below_drewN HB.out _) gb) (HP.out nd).2⟩
      · go_enter Try.func45, Try.ntmps45
        go_wp2_with (first | (go_at_fn F; refine calls_of_args (args' := #[.bool x, .bool y]) (by first | rfl | simp) ?_; (refine (hF' _).mono ?_); rintro e w1 ⟨rfl, ⟨nd, rfl⟩⟩))
        go_end0
        rw [e]
        exact ⟨rfl, jp_end2 (w := w.drewN nd) (Kd.R_drewN HO.out _) (blk_drewN BO.out _) (blk_drewN BI.out _) GE.out (HP.out nd).1 (below_set (pw_below_drewN HB.out _) gb) (HP.out nd).2⟩
    · have hm : (((R.length : Int) % 2) == 0) = !on := by rw [Bool.eq_iff_iff]; cases on <;> simp at h1 ⊢ <;> omega
      have e : push R on n = R ++ [n] := by unfold push; rw [if_neg (fun h => h0 h.1), if_neg (fun h => h1 h.2)]
      clear h0 h1
      cases on
      · go_enter Try.func45, Try.ntmps45
        go_wp2_with (first | (go_at_fn F; refine calls_of_args (args' := #[.bool x, .bool y]) (by first | rfl | simp) ?_; (refine (hF' _).mono ?_); rintro e w1 ⟨rfl, ⟨nd, rfl⟩⟩) | ((with_reducible refine gate_builtin (b := .append) (xs := #[.tmp 18, .tmp 20]) rfl ?_); at_builtin; refine Kd.R_append (Kd.int .i64) (w0 := w0) w0.heap.size rfl (.tmp 18) (.tmp 20) 22 3 (.int .i64 0) 8 rfl hu info3 rfl (by decide) (by omega) (.slice A R.length c) R n [.int .i64 n] (fun _ => True) (fun _ => False) rfl rfl ?aP (fun _ hk => hk.elim) ?aF ?aO ?aB ?aS ?aL ?_; (case aP => exact rfl); (case aF => exact (fun _ _ => trivial)); (case aO => exact Kd.R_drewN HO.out _); (case aB => exact pw_below_drewN HB.out _); (case aS => exact below_size (pw_below_drewN HB.out _)); (case aL => have := HL.out; omega); intro v2 w2 ho hb hg hat; have HO2 := Aside0.mk ho; have HB2 := Aside0.mk hb; have HG2 := Aside0.mk hg; have b2 := jp_mid (gi := gi) (go := go) (s := s) HO.out BO.out (by decide) (fun _ _ h => blk_drewN h _) hg; obtain ⟨A2, c2, e2⟩ := Kd.R_slice ho; subst e2; have hcy : w2.cell? ⟨go, 1, none⟩ = some (.slice A R.length c) := (blk_cell b2 1).trans rfl; have hfy := blk_frozen b2 1; clear ho hb hg hat b2))
        go_end0
        rw [e]
        have ho2 := HO2.out
        rw [List.length_append, List.length_singleton] at ho2
        exact ⟨rfl, jp_end HO.out BO.out BI.out GE.out (fun _ _ h => blk_drewN h _) ho2 HB2.out HG2.out⟩
      · go_enter Try.func45, Try.ntmps45
        go_wp2_with (first | (go_at_fn F; refine calls_of_args (args' := #[.bool x, .bool y]) (by first | rfl | simp) ?_; (refine (hF' _).mono ?_); rintro e w1 ⟨rfl, ⟨nd, rfl⟩⟩) | ((with_reducible refine gate_builtin (b := .append) (xs := #[.tmp 18, .tmp 20]) rfl ?_); at_builtin; refine Kd.R_append (Kd.int .i64) (w0 := w0) w0.heap.size rfl (.tmp 18) (.tmp 20) 22 3 (.int .i64 0) 8 rfl hu info3 rfl (by decide) (by omega) (.slice A R.length c) R n [.int .i64 n] (fun _ => True) (fun _ => False) rfl rfl ?aP (fun _ hk => hk.elim) ?aF ?aO ?aB ?aS ?aL ?_; (case aP => exact rfl); (case aF => exact (fun _ _ => trivial)); (case aO => exact Kd.R_drewN HO.out _); (case aB => exact pw_below_drewN HB.out _); (case aS => exact below_size (pw_below_drewN HB.out _)); (case aL => have := HL.out; omega); intro v2 w2 ho hb hg hat; have HO2 := Aside0.mk ho; have HB2 := Aside0.mk hb; have HG2 := Aside0.mk hg; have b2 := jp_mid (gi := gi) (go := go) (s := s) HO.out BO.out (by decide) (fun _ _ h => blk_drewN h _) hg; obtain ⟨A2, c2, e2⟩ := Kd.R_slice ho; subst e2; have hcy : w2.cell? ⟨go, 1, none⟩ = some (.slice A R.length c) := (blk_cell b2 1).trans rfl; have hfy := blk_frozen b2 1; clear ho hb hg hat b2))
        go_end0
        rw [e]
        have ho2 := HO2.out
        rw [List.length_append, List.length_singleton] at ho2
        exact ⟨rfl, jp_end HO.out BO.out BI.out GE.out (fun _ _ h => blk_drewN h _) ho2 HB2.out HG2.out⟩
theorem ty_ne {w : World} {g g' t t' : Nat} {cs cs' : Array Value} (h : w.heap[g]? = some (.cells cs t (0, 0))) (h' : w.heap[g']? = some (.cells cs' t' (0, 0))) (ht : t ≠ t') : g ≠ g' := by
  rintro rfl
  rw [h] at h'
  injection h' with h'
  injection h' with _ h'
  exact ht h'
theorem jp_below {w0 w w' : World} {go gi : Nat} {s : Int} {F : FuncId} {R : List Int} (h : JP w0 go gi s F w R) (hb : Below w.heap.size w w') : JP w0 go gi s F w' R := by
  obtain ⟨v, h1, h2, h3, h4, h5⟩ := h
  exact ⟨v, Kd.R_below h1 hb, blk_below h2 hb, blk_below h3 hb, below_step h4 hb, h5⟩
theorem jp_keep {w0 w w' : World} {go gi g : Nat} {s : Int} {F : FuncId} {R : List Int} {cs : Array Value} (h : JP w0 go gi s F w R) (hk : KeepBut w w' g none) (hb : w.heap[g]? = some (.cells cs 79 (0, 0))) (hB : Below w0.heap.size w0 w') : JP w0 go gi s F w' R := by
  obtain ⟨v, h1, h2, h3, h4, h5⟩ := h
  refine ⟨v, Kd.R_mono (Kd.R_keep (Kd.R_types h1 hb (fun q hq => ?_)) hk (fun _ h => h.2)) (fun _ h => h.1), hk.blk h2 (ty_ne h2 hb (by decide)) (by simp), hk.blk h3 (ty_ne h3 hb (by decide)) (by simp), hB, h5⟩
  have : q = 3 := by simpa [Kd.int, Kd.scalar] using hq
  rw [this]; decide
theorem jp_drewN {w0 w : World} {go gi : Nat} {s : Int} {F : FuncId} {R : List Int} (h : JP w0 go gi s F w R) (n : Nat) : JP w0 go gi s F (w.drewN n) R := by
  obtain ⟨v, h1, h2, h3, h4, h5⟩ := h
  exact ⟨v, Kd.R_drewN h1 n, blk_drewN h2 n, blk_drewN h3 n, pw_below_drewN h4 n, h5⟩
/-- a cursor's block -/
abbrev Cur (w : World) (g : Nat) (A : Option Addr) (l : List Int) (c p : Nat) (x : Int) : Prop := w.heap[g]? = some (.cells #[.slice A l.length c, .int .i64 p, .int .i64 x] 79 (0, 0))
set_option maxHeartbeats 8000000 in
theorem on_calls (l : List Int) (A : Option Addr) (c g : Nat) (w : World) (p : Nat) (x : Int) (hb : Cur w g A l c p x) :
    Calls Try.prog 59 #[.pointer (some ⟨g, 0, none⟩)] w fun e w' => e = .returned (.bool (decide (p % 2 = 0))) ∧ Drawn0 w w' := by
  have hcz1 : w.cell? ⟨g, 1, none⟩ = some (.int .i64 p) := (blk_cell hb 1).trans rfl
  have hm : (((p : Int) % 2) == 0) = decide (p % 2 = 0) := by rw [Bool.eq_iff_iff]; simp; omega
  go_enter Try.func59, Try.ntmps59
  go_wp2
  go_ret
  exact ⟨by simp [hm], by repeat (first | exact Drawn0.refl _ | apply Drawn0.step)⟩
end Go.Proofs.Ytibnkopdkfjgpaa.Q


/- bitmap.join by hand, second part: both, join. -/
namespace Go.Proofs.Ytibnkopdkfjgpaa.Q
open Go.RowKit Go.Proofs.YtibnkopdkfjgpaaW.PrintWords Go.Proofs.YtibnkopdkfjgpaaW.PrintLast Go.Proofs.YtibnkopdkfjgpaaW.PrintMore
open Bm
attribute [local go_sem] max2_int min2_int max_two min_two
theorem rem_pos {l : List Int} {p : Nat} {x : Int} (h : 0 < x) : rem l p x ≠ [] := by
  unfold rem
  obtain ⟨m, hm⟩ : ∃ m, x.toNat = m + 1 := ⟨x.toNat - 1, by omega⟩
  rw [hm, List.replicate_succ]; simp
theorem jp_drew {w0 w : World} {go gi : Nat} {s : Int} {F : FuncId} {R : List Int} (h : JP w0 go gi s F w R) : JP w0 go gi s F w.drew R := by
  obtain ⟨v, h1, h2, h3, h4, h5⟩ := h
  exact ⟨v, Kd.R_drew h1, blk_drew h2, blk_drew h3, below_drew1 h4, h5⟩
theorem exp_le {R : List Int} {f : Bool → Bool → Bool} {W X Y : List Bool} (h : exp false R ++ W = List.zipWith f X Y) : (exp false R).length ≤ X.length := by
  have := congrArg List.length h
  rw [List.length_append, List.length_zipWith] at this
  omega
theorem rem_len {l : List Int} {p : Nat} {x n : Int} (h0 : 0 ≤ n) (h1 : n ≤ x) : (rem l p x).length = n.toNat + (rem l p (x - n)).length := by
  rw [rem_take h0 h1, List.length_append, List.length_replicate]
theorem jp_ne {w0 w : World} {go gi g : Nat} {s : Int} {F : FuncId} {R : List Int} {cs : Array Value} (h : JP w0 go gi s F w R) (hb : w.heap[g]? = some (.cells cs 79 (0, 0))) : g ≠ go := by
  obtain ⟨v, _, h2, _⟩ := h
  exact ty_ne hb h2 (by decide)
theorem oth_keep {w w1 w2 : World} {go g : Nat} (h : Others w w1 go) (hk : KeepBut w1 w2 g none) (hg : w.heap.size ≤ g) : Others w w2 go :=
  fun g' cs t h1 h2 h3 => hk.blk (h g' cs t h1 h2 h3) (by have := blk_lt h1; omega) (by simp)
theorem oth_below {w w1 : World} {go : Nat} (h : Below w.heap.size w w1) : Others w w1 go := fun _ _ _ h1 _ _ => blk_below h1 h
theorem oth_drew {w w1 : World} {go : Nat} (h : Others w w1 go) : Others w w1.drew go := fun g' cs t h1 h2 h3 => blk_drew (h g' cs t h1 h2 h3)
theorem fin_R {R : List Int} {f : Bool → Bool → Bool} {X Y Z : List Bool} (hc : Canon R) (h : exp false R ++ List.zipWith f X Y = Z) (he : X = [] ∨ Y = []) : enc Z = R := by
  have hz : List.zipWith f X Y = [] := by rcases he with rfl | rfl <;> simp
  rw [hz, List.append_nil] at h
  rw [← h]; exact enc_exp hc
theorem nx_false {l : List Int} {p' : Nat} {x' : Int} {b : Bool} (h : p' ≤ l.length ∧ 0 ≤ x' ∧ x' ≤ 1048576 ∧ rem l p' x' = [] ∧ (b = true → 0 < x') ∧ (b = false → ([] : List Bool) = [])) : b = false := by
  cases b
  · rfl
  · exact absurd h.2.2.2.1 (rem_pos (h.2.2.2.2.1 rfl))
theorem nx_true {l : List Int} {p' : Nat} {x' : Int} {b : Bool} {X : List Bool} (hX : X ≠ []) (h : p' ≤ l.length ∧ 0 ≤ x' ∧ x' ≤ 1048576 ∧ rem l p' x' = X ∧ (b = true → 0 < x') ∧ (b = false → X = [])) : b = true := by
  cases b
  · exact absurd (h.2.2.2.2.2 rfl) hX
  · rfl
set_option maxHeartbeats 8000000 in
set_option maxRecDepth 100000 in
theorem both_calls (F : FuncId) (f : Bool → Bool → Bool) (eg : ∀ args w, (callFunc F args).run Try.prog w = .ok (.enter F args) w) (hF : ∀ x y w, Calls Try.prog F #[.bool x, .bool y] w fun e w' => e = .returned (.bool (f x y)) ∧ Drawn0 w w')
    (w0 w : World) (go gi : Nat) (s : Int) (la lb : List Int) (A B : Option Addr) (ca cb : Nat) (hA : Kd.C (Kd.int .i64) w0 A la.length la) (hBb : Kd.C (Kd.int .i64) w0 B lb.length lb)
    (hla : ∀ i : Nat, i < la.length → 0 ≤ rd la (i : Int) ∧ rd la (i : Int) ≤ 1048576) (hlb : ∀ i : Nat, i < lb.length → 0 ≤ rd lb (i : Int) ∧ rd lb (i : Int) ≤ 1048576)
    (hLa : la.length ≤ 1099511627776) (hLb : lb.length ≤ 1099511627776) (hT : (exp false la).length ≤ 1048576) (hJ : JP w0 go gi s F w []) :
    Calls Try.prog 44 #[.slice A la.length ca, .slice B lb.length cb, .func (.func 45) #[] #[.pointer (some ⟨gi, 0, none⟩), .pointer (some ⟨go, 0, none⟩)]] w fun e w' => e = .returned (.tuple #[]) ∧ JP w0 go gi s F w' (enc (List.zipWith f (exp false la) (exp false lb))) ∧ Others w w' go := by
  have HA := Aside0.mk hA
  have HBb := Aside0.mk hBb
  have HLA := Aside0.mk (And.intro hla hLa)
  have HLB := Aside0.mk (And.intro hlb hLb)
  have HJ := Aside0.mk hJ
  have HT := Aside0.mk hT
  clear hA hBb hla hlb hLa hLb hJ hT
  go_enter Try.func44, Try.ntmps44
  go_wp2_with (first | ((with_reducible refine gate_dst (N := 11) rfl ?_); refine box_event ?hg (N := 11) ?hd (cs := #[.slice A la.length ca, .int .i64 (0 : Nat), .int .i64 0]) (t := 79) ?hr ?_; (case hd => rfl); (case hg => rfl); (case hr => first | (go_simp; done) | (go_simp; rfl)); intro gp hgp w1 hbp hb1; have HP1 := Aside0.mk (And.intro hgp (And.intro hbp hb1)); clear hgp hbp hb1) | ((with_reducible refine gate_dst (N := 14) rfl ?_); refine box_event ?hg (N := 14) ?hd (cs := #[.slice B lb.length cb, .int .i64 (0 : Nat), .int .i64 0]) (t := 79) ?hr ?_; (case hd => rfl); (case hg => rfl); (case hr => first | (go_simp; done) | (go_simp; rfl)); intro gq hgq w2 hbq hb2; have HP2 := Aside0.mk (And.intro hgq (And.intro hbq hb2)); clear hgq hbq hb2))
  obtain ⟨hgp, hbp, hb1⟩ := HP1.out
  obtain ⟨hgq, hbq, hb2⟩ := HP2.out
  have hpq : gp ≠ gq := by have := blk_lt hbp; omega
  have HN := Aside0.mk hpq
  have J2 := Aside0.mk (jp_below HJ.out (below_step hb1 hb2))
  have OT0 : Aside0 (Others w w2 go) := ⟨oth_below (below_step hb1 hb2)⟩
  have GWP : Aside0 (w.heap.size ≤ gp) := ⟨by omega⟩
  have GWQ : Aside0 (w.heap.size ≤ gq) := ⟨by have := blk_lt hbp; omega⟩
  have BP0 : Aside0 (Cur w2 gp A la ca 0 0) := ⟨blk_below hbp hb2⟩
  have BQ0 : Aside0 (Cur w2 gq B lb cb 0 0) := ⟨hbq⟩
  have GP : Aside0 (w0.heap.size ≤ gp) := ⟨by obtain ⟨v, _, _, _, h4, _⟩ := HJ.out; have := h4.size; omega⟩
  have GQ : Aside0 (w0.heap.size ≤ gq) := ⟨by have := GP.out; have := blk_lt hbp; omega⟩
  have R0 : ∀ (l : List Int), rem l 0 0 = exp false l := fun l => by unfold rem; simp
  have HI : Aside0 (Canon [] ∧ exp false [] ++ List.zipWith f (rem la 0 0) (rem lb 0 0) = List.zipWith f (exp false la) (exp false lb) ∧ (rem la 0 0).length + (rem lb 0 0).length ≤ (exp false la).length + (exp false lb).length) :=
    ⟨trivial, by rw [R0, R0]; rfl, by rw [R0, R0]; exact Nat.le_refl _⟩
  clear hgp hbp hb1 hgq hbq hb2 hpq R0 HP1 HP2 HJ
  go_loopg [] ((exp false la).length + (exp false lb).length) (fun k wr => ∃ (p : Nat) (x : Int) (q : Nat) (y : Int) (R : List Int), Aside0 (p ≤ la.length ∧ 0 ≤ x ∧ x ≤ 1048576 ∧ q ≤ lb.length ∧ 0 ≤ y ∧ y ≤ 1048576) ∧ Aside0 (Canon R ∧ exp false R ++ List.zipWith f (rem la p x) (rem lb q y) = List.zipWith f (exp false la) (exp false lb) ∧ (rem la p x).length + (rem lb q y).length ≤ k) ∧ Aside0 (JP w0 go gi s F wr R) ∧ Aside0 (Cur wr gp A la ca p x) ∧ Aside0 (Cur wr gq B lb cb q y) ∧ Aside0 (Others w wr go))
  case atStart => exact ⟨0, 0, 0, 0, [], ⟨by omega⟩, HI, J2, BP0, BQ0, OT0⟩
  case round =>
    clear HI J2 BP0 BQ0 OT0
    obtain ⟨p, x, q, y, R, HX, HI, HJ, BP, BQ, OT⟩ := hrel
    by_cases c1 : rem la p x = []
    · have C1 := Aside0.mk c1
      clear c1
      go_wp2_with (go_at_call 58; refine calls_of_args (args' := #[.pointer (some ⟨gp, 0, none⟩)]) (by first | rfl | simp) ?_; refine (next_calls la A ca HLA.out.1 HLA.out.2 gp w0 _ p x HX.out.2.1 HX.out.2.2.1 HX.out.1 GP.out BP.out HA.out (by obtain ⟨v, _, _, _, h4, _⟩ := HJ.out; exact h4)).mono ?_; rintro e w1 ⟨b, p1, x1, rfl, hP⟩; have J1 := Aside0.mk (jp_keep HJ.out hP.2.2.2 BP.out hP.2.2.1); have OT1 := Aside0.mk (oth_keep OT.out hP.2.2.2 GWP.out); obtain rfl : b = false := (by have h1 := hP.1; rw [C1.out] at h1; exact nx_false h1); clear hP)
      go_end0
      exact ⟨rfl, by rw [fin_R HI.out.1 HI.out.2.1 (.inl C1.out)]; exact J1.out, OT1.out⟩
    · have C1 := Aside0.mk c1
      clear c1
      by_cases c2 : rem lb q y = []
      · have C2 := Aside0.mk c2
        clear c2
        go_wp2_with (first | (go_at_call 58; refine calls_of_args (args' := #[.pointer (some ⟨gp, 0, none⟩)]) (by with_reducible rfl) ?_; refine (next_calls la A ca HLA.out.1 HLA.out.2 gp w0 _ p x HX.out.2.1 HX.out.2.2.1 HX.out.1 GP.out BP.out HA.out (by obtain ⟨v, _, _, _, h4, _⟩ := HJ.out; exact h4)).mono ?_; rintro e w1 ⟨b, p1, x1, rfl, hP⟩; have J1 := Aside0.mk (jp_keep HJ.out hP.2.2.2 BP.out hP.2.2.1); have OT1 := Aside0.mk (oth_keep OT.out hP.2.2.2 GWP.out); have BQ1 : Aside0 (Cur w1 gq B lb cb q y) := ⟨KeepBut.blk hP.2.2.2 BQ.out HN.out.symm (by simp)⟩; have P1 := Aside0.mk hP; obtain rfl : b = true := nx_true C1.out hP.1; clear hP) | (go_at_call 58; refine calls_of_args (args' := #[.pointer (some ⟨gq, 0, none⟩)]) (by with_reducible rfl) ?_; refine (next_calls lb B cb HLB.out.1 HLB.out.2 gq w0 _ q y HX.out.2.2.2.2.1 HX.out.2.2.2.2.2 HX.out.2.2.2.1 GQ.out BQ1.out HBb.out P1.out.2.2.1).mono ?_; rintro e w2 ⟨b, q1, y1, rfl, hQ⟩; have J2 := Aside0.mk (jp_keep J1.out hQ.2.2.2 BQ1.out hQ.2.2.1); have OT2 := Aside0.mk (oth_keep OT1.out hQ.2.2.2 GWQ.out); obtain rfl : b = false := (by have h1 := hQ.1; rw [C2.out] at h1; exact nx_false h1); clear hQ))
        go_end0
        exact ⟨rfl, by rw [fin_R HI.out.1 HI.out.2.1 (.inr C2.out)]; exact J2.out, OT2.out⟩
      · have C2 := Aside0.mk c2
        clear c2
        go_wp2_with (first | (go_at_call 58; refine calls_of_args (args' := #[.pointer (some ⟨gp, 0, none⟩)]) (by with_reducible rfl) ?_; refine (next_calls la A ca HLA.out.1 HLA.out.2 gp w0 _ p x HX.out.2.1 HX.out.2.2.1 HX.out.1 GP.out BP.out HA.out (by obtain ⟨v, _, _, _, h4, _⟩ := HJ.out; exact h4)).mono ?_; rintro e w1 ⟨b, p1, x1, rfl, hP⟩; have J1 := Aside0.mk (jp_keep HJ.out hP.2.2.2 BP.out hP.2.2.1); have OT1 := Aside0.mk (oth_keep OT.out hP.2.2.2 GWP.out); have BQ1 : Aside0 (Cur w1 gq B lb cb q y) := ⟨KeepBut.blk hP.2.2.2 BQ.out HN.out.symm (by simp)⟩; have P1 := Aside0.mk hP; obtain rfl : b = true := nx_true C1.out hP.1; clear hP) | (go_at_call 58; refine calls_of_args (args' := #[.pointer (some ⟨gq, 0, none⟩)]) (by with_reducible rfl) ?_; refine (next_calls lb B cb HLB.out.1 HLB.out.2 gq w0 _ q y HX.out.2.2.2.2.1 HX.out.2.2.2.2.2 HX.out.2.2.2.1 GQ.out BQ1.out HBb.out P1.out.2.2.1).mono ?_; rintro e w2 ⟨b, q1, y1, rfl, hQ⟩; have J2 := Aside0.mk (jp_keep J1.out hQ.2.2.2 BQ1.out hQ.2.2.1); have OT2 := Aside0.mk (oth_keep OT1.out hQ.2.2.2 GWQ.out); have Q1 := Aside0.mk hQ; obtain rfl : b = true := nx_true C2.out hQ.1; have BP2 : Aside0 (Cur w2 gp A la ca p1 x1) := ⟨KeepBut.blk hQ.2.2.2 P1.out.2.1 HN.out (by simp)⟩; have hca : w2.cell? ⟨gp, 2, none⟩ = some (.int .i64 x1) := (blk_cell BP2.out 2).trans rfl; have hcb : w2.cell? ⟨gq, 2, none⟩ = some (.int .i64 y1) := (blk_cell Q1.out.2.1 2).trans rfl; clear hQ))
        go_region
        obtain ⟨n, hn⟩ : ∃ n, (if y1 < x1 then y1 else x1) = n := ⟨_, rfl⟩
        rw [hn]
        obtain ⟨ha1, ha2, ha3, ha4, ha5, ha6⟩ := P1.out.1
        obtain ⟨hb1, hb2, hb3, hb4, hb5, hb6⟩ := Q1.out.1
        have ha7 := ha5 rfl
        have hb7 := hb5 rfl
        have HNN : Aside0 (1 ≤ n ∧ n ≤ x1 ∧ n ≤ y1 ∧ n ≤ 1048576 ∧ p1 ≤ la.length ∧ x1 ≤ 1048576 ∧ q1 ≤ lb.length ∧ y1 ≤ 1048576) := ⟨by rw [← hn]; split <;> omega⟩
        have hwx : wrap64 (x1 - n) = x1 - n := by have := HNN.out; exact wrap_id (by omega) (by omega)
        have hwy : wrap64 (y1 - n) = y1 - n := by have := HNN.out; exact wrap_id (by omega) (by omega)
        have HRL : Aside0 (R.length ≤ 4194304 ∧ ∀ i : Nat, 0 ≤ R.getD i 0 ∧ R.getD i 0 ≤ 1048576) := ⟨by
          have h1 := exp_le HI.out.2.1
          have h2 := canon_len HI.out.1
          have h3 := HT.out
          refine ⟨by omega, fun i => ⟨rd_nonneg HI.out.1 i, ?_⟩⟩
          have := rd_le_exp HI.out.1 i
          omega⟩
        have HIN : Aside0 (Canon (push R (f (decide (p1 % 2 = 0)) (decide (q1 % 2 = 0))) n) ∧ exp false (push R (f (decide (p1 % 2 = 0)) (decide (q1 % 2 = 0))) n) ++ List.zipWith f (rem la p1 (x1 - n)) (rem lb q1 (y1 - n)) = List.zipWith f (exp false la) (exp false lb) ∧ (rem la p1 (x1 - n)).length + (rem lb q1 (y1 - n)).length < gk) := ⟨by
          have hN := HNN.out
          have h1 := HI.out.2.1
          rw [← ha4, ← hb4] at h1
          have h2 := both_step HI.out.1 hN.1 hN.2.1 hN.2.2.1 h1
          have h3 := HI.out.2.2
          rw [← ha4, ← hb4, rem_len (n := n) (by omega) hN.2.1, rem_len (l := lb) (n := n) (by omega) hN.2.2.1] at h3
          exact ⟨h2.1, h2.2, by omega⟩⟩
        have J3 := Aside0.mk (jp_drew J2.out)
        have OT3 := Aside0.mk (oth_drew OT2.out)
        have BP3 : Aside0 (Cur w2.drew gp A la ca p1 x1) := ⟨blk_drew BP2.out⟩
        have BQ3 : Aside0 (Cur w2.drew gq B lb cb q1 y1) := ⟨blk_drew Q1.out.2.1⟩
        clear hn ha1 ha2 ha3 ha4 ha5 ha6 ha7 hb1 hb2 hb3 hb4 hb5 hb6 hb7 hca hcb P1 Q1 BP2 J2 BQ1 J1 C1 C2 HX HJ BP BQ OT OT1 OT2
        generalize w2.drew = w3 at *
        have hnpq := HN.out
        have hnqp := HN.out.symm
        go_wp2_with (first | (go_at_call 59; refine calls_of_args (args' := #[.pointer (some ⟨gp, 0, none⟩)]) (by with_reducible rfl) ?_; refine (on_calls la A ca gp _ p1 x1 (by first | exact BP3.out | exact blk_drewN BP3.out _ | exact blk_drewN (blk_drewN BP3.out _) _)).mono ?_; rintro e w4 ⟨rfl, ⟨nd, rfl⟩⟩) | (go_at_call 59; refine calls_of_args (args' := #[.pointer (some ⟨gq, 0, none⟩)]) (by with_reducible rfl) ?_; refine (on_calls lb B cb gq _ q1 y1 (by first | exact BQ3.out | exact blk_drewN BQ3.out _ | exact blk_drewN (blk_drewN BQ3.out _) _)).mono ?_; rintro e w4 ⟨rfl, ⟨nd, rfl⟩⟩) | (go_at_call 45; refine calls_of_args (args' := #[.bool (decide (p1 % 2 = 0)), .bool (decide (q1 % 2 = 0)), .int .i64 n, .pointer (some ⟨gi, 0, none⟩), .pointer (some ⟨go, 0, none⟩)]) (by first | rfl | simp) ?_; refine (join1_calls F f eg hF w0 _ go gi s R _ _ n (by first | exact J3.out | exact jp_drewN J3.out _ | exact jp_drewN (jp_drewN J3.out _) _) HNN.out.1 HNN.out.2.2.2.1 HRL.out.1 HRL.out.2).mono ?_; rintro e w4 ⟨rfl, hJ4, hO4⟩; have J4 := Aside0.mk hJ4; have BP4 : Aside0 (Cur w4 gp A la ca p1 x1) := ⟨hO4 gp _ _ (by first | exact BP3.out | exact blk_drewN BP3.out _ | exact blk_drewN (blk_drewN BP3.out _) _) (by decide) (jp_ne J3.out BP3.out)⟩; have BQ4 : Aside0 (Cur w4 gq B lb cb q1 y1) := ⟨hO4 gq _ _ (by first | exact BQ3.out | exact blk_drewN BQ3.out _ | exact blk_drewN (blk_drewN BQ3.out _) _) (by decide) (jp_ne J3.out BQ3.out)⟩; have OT4 : Aside0 (Others w w4 go) := ⟨fun g' cs t h1 h2 h3 => hO4 g' cs t (by first | exact OT3.out g' cs t h1 h2 h3 | exact blk_drewN (OT3.out g' cs t h1 h2 h3) _ | exact blk_drewN (blk_drewN (OT3.out g' cs t h1 h2 h3) _) _) h2 h3⟩; clear hJ4 hO4; have hda : w4.cell? ⟨gp, 2, none⟩ = some (.int .i64 x1) := (blk_cell BP4.out 2).trans rfl; have hdb : w4.cell? ⟨gq, 2, none⟩ = some (.int .i64 y1) := (blk_cell BQ4.out 2).trans rfl; have hfa := blk_frozen BP4.out 2; have hfb := blk_frozen BQ4.out 2))
        obtain ⟨m, rfl⟩ : ∃ m, gk = m + 1 := ⟨gk - 1, by have := HIN.out.2.2; omega⟩
        go_roundg m
        case rel =>
          have hN := HNN.out
          refine ⟨p1, x1 - n, q1, y1 - n, push R (f (decide (p1 % 2 = 0)) (decide (q1 % 2 = 0))) n, ⟨by omega, by omega, by omega, by omega, by omega, by omega⟩, ⟨HIN.out.1, HIN.out.2.1, by have := HIN.out.2.2; omega⟩, ?_, ?_, ?_, ⟨oth_keep (oth_keep OT4.out ((KeepBut.refl _ _ _).set_ _ _) GWP.out) ((KeepBut.refl _ _ _).set_ _ _) GWQ.out⟩⟩
          · obtain ⟨v, _, _, _, h4, _⟩ := J4.out
            have k1 : KeepBut w4 (w4.setCell ⟨gp, 2, none⟩ (.int .i64 (x1 - n))) gp none := (KeepBut.refl _ _ _).set_ _ _
            have q4 := blk_far (p := ⟨gp, 2, none⟩) BQ4.out HN.out.symm (.int .i64 (x1 - n))
            have j1 := jp_keep J4.out k1 BP4.out (below_set h4 GP.out)
            exact ⟨jp_keep j1 ((KeepBut.refl _ _ _).set_ _ _) q4 (below_set (below_set h4 GP.out) GQ.out)⟩
          · have := blk_set BP4.out 2 (.int .i64 (x1 - n))
            exact ⟨blk_far (by simpa using this) HN.out _⟩
          · have q4 := blk_far (p := ⟨gp, 2, none⟩) BQ4.out HN.out.symm (.int .i64 (x1 - n))
            have := blk_set q4 2 (.int .i64 (y1 - n))
            exact ⟨by simpa using this⟩
        case measure => omega
end Go.Proofs.Ytibnkopdkfjgpaa.Q


/- bitmap.join by hand, third part: join; Or, And, AndNot. -/
namespace Go.Proofs.Ytibnkopdkfjgpaa.Q
open Go.RowKit Go.Proofs.YtibnkopdkfjgpaaW.PrintWords Go.Proofs.YtibnkopdkfjgpaaW.PrintLast Go.Proofs.YtibnkopdkfjgpaaW.PrintMore
open Bm
theorem exp_len {s : Int} {l : List Int} (h : vd s l = true) : ((exp false l).length : Int) = s := by
  obtain ⟨_, _, hc, ht⟩ := vd_iff.1 h
  have := exp_length l false (canon_nonneg hc)
  omega
def joinB (f : Bool → Bool → Bool) (s : Int) (a : List Int) (u : Int) (b : List Int) : Int × List Int :=
  if (vd s a && (vd u b && decide (s = u))) = true then (s, enc (List.zipWith f (exp false a) (exp false b))) else (0, [])
theorem vd_rd {s : Int} {l : List Int} (h : vd s l = true) : (∀ i : Nat, i < l.length → 0 ≤ rd l (i : Int) ∧ rd l (i : Int) ≤ 1048576) ∧ l.length ≤ 1099511627776 ∧ (exp false l).length ≤ 1048576 := by
  have h1 := exp_len h
  obtain ⟨_, h2, hc, _⟩ := vd_iff.1 h
  have h3 := canon_len hc
  refine ⟨fun i hi => ?_, by omega, by omega⟩
  have e : rd l (i : Int) = l.getD i 0 := by unfold rd; simp
  have h4 := rd_nonneg hc i
  have h5 := rd_le_exp hc i
  rw [e]; omega
set_option maxHeartbeats 8000000 in
set_option maxRecDepth 100000 in
theorem join_calls (F : FuncId) (f : Bool → Bool → Bool) (eg : ∀ args w, (callFunc F args).run Try.prog w = .ok (.enter F args) w) (hF : ∀ x y w, Calls Try.prog F #[.bool x, .bool y] w fun e w' => e = .returned (.bool (f x y)) ∧ Drawn0 w w')
    (w : World) (s u : Int) (la lb : List Int) (A B : Option Addr) (ca cb : Nat) (hA : Kd.C (Kd.int .i64) w A la.length la) (hca : la.length ≤ ca) (hB : Kd.C (Kd.int .i64) w B lb.length lb) (hcb : lb.length ≤ cb) (hLa : la.length ≤ 1099511627776) (hLb : lb.length ≤ 1099511627776) :
    Calls Try.prog 29 #[.agg #[.int .i64 s, .slice A la.length ca], .agg #[.int .i64 u, .slice B lb.length cb], .func (.func F) #[] #[]] w fun e w' => ∃ v, e = .returned (.agg #[.int .i64 (joinB f s la u lb).1, v]) ∧ Kd.R (Kd.int .i64) 3 w' w.heap.size (fun _ => True) v (joinB f s la u lb).2 ∧ Below w.heap.size w w' := by
  obtain ⟨k1, hv1⟩ := Valid_ev s la hLa
  obtain ⟨k2, hv2⟩ := Valid_ev u lb hLb
  have V1 := Aside0.mk (hv1 _ (Nat.le_refl _))
  have V2 := Aside0.mk (hv2 _ (Nat.le_refl _))
  have HA := Aside0.mk (And.intro hA hca)
  have HBb := Aside0.mk (And.intro hB hcb)
  clear hv1 hv2 hA hca hB hcb hLa hLb
  have hu25 := Try.underlying25
  by_cases h1 : vd s la = true
  · rw [h1] at V1
    by_cases h2 : vd u lb = true
    · rw [h2] at V2
      by_cases h3 : s = u
      · subst h3
        have e : joinB f s la s lb = (s, enc (List.zipWith f (exp false la) (exp false lb))) := by unfold joinB; rw [if_pos (by simp [h1, h2])]
        have R1 := Aside0.mk (vd_rd h1)
        have R2 := Aside0.mk (vd_rd h2)
        rw [e]
        clear e h1 h2
        go_enter Try.func29, Try.ntmps29
        go_wp2_with (first | ((with_reducible refine gate_dst (N := 3) rfl ?_); refine box_event ?hg (N := 3) ?hd (cs := #[.int .i64 s, .slice A la.length ca]) (t := 25) ?hr ?_; (case hd => rfl); (case hg => rfl); (case hr => first | (go_simp; done) | (go_simp; rfl)); intro g3 hg w3 hb hbl; have H3 := Aside0.mk (And.intro hg (And.intro hb hbl)); clear hg hb hbl) | ((with_reducible refine gate_dst (N := 4) rfl ?_); refine box_event ?hg (N := 4) ?hd (cs := #[.int .i64 s, .slice B lb.length cb]) (t := 25) ?hr ?_; (case hd => rfl); (case hg => rfl); (case hr => first | (go_simp; done) | (go_simp; rfl)); intro g4 hg w4 hb hbl; have H4 := Aside0.mk (And.intro hg (And.intro hb hbl)); clear hg hb hbl) | ((with_reducible refine gate_dst (N := 5) rfl ?_); refine box_event ?hg (N := 5) ?hd (cs := #[.func (.func F) #[] #[]]) (t := 45) ?hr ?_; (case hd => rfl); (case hg => rfl); (case hr => first | (go_simp; done) | (go_simp; rfl)); intro g5 hg w5 hb hbl; have H5 := Aside0.mk (And.intro hg (And.intro hb hbl)); clear hg hb hbl) | ((with_reducible refine gate_dst (N := 6) rfl ?_); refine box_event ?hg (N := 6) ?hd (cs := #[.int .i64 0, .slice none 0 0]) (t := 25) ?hr ?_; (case hd => rfl); (case hg => rfl); (case hr => first | (go_simp; done) | (go_simp; rfl)); intro g6 hg w6 hb hbl; have H6 := Aside0.mk (And.intro hg (And.intro hb hbl)); clear hg hb hbl; have L3 := Aside0.mk (below_step (below_step H4.out.2.2 H5.out.2.2) H6.out.2.2); have L4 := Aside0.mk (below_step H5.out.2.2 H6.out.2.2); have B3 := Aside0.mk (blk_below H3.out.2.1 L3.out); have B4 := Aside0.mk (blk_below H4.out.2.1 L4.out); have B5 := Aside0.mk (blk_below H5.out.2.1 H6.out.2.2); have B6 := Aside0.mk H6.out.2.1; have HB := Aside0.mk (below_step H3.out.2.2 L3.out); have hc30 : w6.cell? ⟨g3, 0, none⟩ = some (.int .i64 s) := (blk_cell B3.out 0).trans rfl; have hc31 : w6.cell? ⟨g3, 1, none⟩ = some (.slice A la.length ca) := (blk_cell B3.out 1).trans rfl; have hc40 : w6.cell? ⟨g4, 0, none⟩ = some (.int .i64 s) := (blk_cell B4.out 0).trans rfl; have GE6 : Aside0 (w.heap.size ≤ g6) := ⟨by have := H6.out.1; have := (below_step (below_step H3.out.2.2 H4.out.2.2) H5.out.2.2).size; omega⟩; have hc41 : w6.cell? ⟨g4, 1, none⟩ = some (.slice B lb.length cb) := (blk_cell B4.out 1).trans rfl) | (go_at_call 15; refine calls_of_args (args' := #[.agg #[.int .i64 s, .slice A la.length ca]]) (by with_reducible rfl) ?_; refine (bitmap_Valid.calls k1 s A ca la true w6 (Kd.C_below HA.out.1 HB.out) HA.out.2 V1.out).mono ?_; rintro e w7 ⟨rfl, hb7⟩; have L7 := Aside0.mk hb7; have B3_7 := Aside0.mk (blk_below B3.out hb7); have B4_7 := Aside0.mk (blk_below B4.out hb7); have B5_7 := Aside0.mk (blk_below B5.out hb7); have B6_7 := Aside0.mk (blk_below B6.out hb7); have HB7 := Aside0.mk (below_step HB.out hb7); have c30_7 : w7.cell? ⟨g3, 0, none⟩ = some (.int .i64 s) := (blk_cell B3_7.out 0).trans rfl; have c31_7 : w7.cell? ⟨g3, 1, none⟩ = some (.slice A la.length ca) := (blk_cell B3_7.out 1).trans rfl; have c40_7 : w7.cell? ⟨g4, 0, none⟩ = some (.int .i64 s) := (blk_cell B4_7.out 0).trans rfl; have c41_7 : w7.cell? ⟨g4, 1, none⟩ = some (.slice B lb.length cb) := (blk_cell B4_7.out 1).trans rfl; have c50_7 : w7.cell? ⟨g5, 0, none⟩ = some (.func (.func F) #[] #[]) := (blk_cell B5_7.out 0).trans rfl; have c60_7 : w7.cell? ⟨g6, 0, none⟩ = some (.int .i64 0) := (blk_cell B6_7.out 0).trans rfl; have c61_7 : w7.cell? ⟨g6, 1, none⟩ = some (.slice none 0 0) := (blk_cell B6_7.out 1).trans rfl; have f60_7 := blk_frozen B6_7.out 0; have f61_7 := blk_frozen B6_7.out 1; clear hb7) | (go_at_call 15; refine calls_of_args (args' := #[.agg #[.int .i64 s, .slice B lb.length cb]]) (by with_reducible rfl) ?_; refine (bitmap_Valid.calls k2 s B cb lb true w7 (Kd.C_below HBb.out.1 HB7.out) HBb.out.2 V2.out).mono ?_; rintro e w8 ⟨rfl, hb8⟩; have L8 := Aside0.mk hb8; have B3_8 := Aside0.mk (blk_below B3_7.out hb8); have B4_8 := Aside0.mk (blk_below B4_7.out hb8); have B5_8 := Aside0.mk (blk_below B5_7.out hb8); have B6_8 := Aside0.mk (blk_below B6_7.out hb8); have HB8 := Aside0.mk (below_step HB7.out hb8); have c30_8 : w8.cell? ⟨g3, 0, none⟩ = some (.int .i64 s) := (blk_cell B3_8.out 0).trans rfl; have c31_8 : w8.cell? ⟨g3, 1, none⟩ = some (.slice A la.length ca) := (blk_cell B3_8.out 1).trans rfl; have c40_8 : w8.cell? ⟨g4, 0, none⟩ = some (.int .i64 s) := (blk_cell B4_8.out 0).trans rfl; have c41_8 : w8.cell? ⟨g4, 1, none⟩ = some (.slice B lb.length cb) := (blk_cell B4_8.out 1).trans rfl; have c50_8 : w8.cell? ⟨g5, 0, none⟩ = some (.func (.func F) #[] #[]) := (blk_cell B5_8.out 0).trans rfl; have c60_8 : w8.cell? ⟨g6, 0, none⟩ = some (.int .i64 0) := (blk_cell B6_8.out 0).trans rfl; have c61_8 : w8.cell? ⟨g6, 1, none⟩ = some (.slice none 0 0) := (blk_cell B6_8.out 1).trans rfl; have f60_8 := blk_frozen B6_8.out 0; have f61_8 := blk_frozen B6_8.out 1; clear hb8) | ((with_reducible refine gate_dst (N := 7) rfl ?_); refine box_event ?hg (N := 7) ?hd (cs := #[.int .i64 0, .slice none 0 0]) (t := 25) ?hr ?_; (case hd => rfl); (case hg => rfl); (case hr => first | (go_simp; done) | (go_simp; rfl)); intro g7 hg7 w9 hb9 hl9; have B7_9 : Aside0 (w9.heap[g7]? = some (.cells #[.int .i64 0, .slice none 0 0] 25 (0, 0))) := ⟨hb9⟩; have B3_9 := Aside0.mk (blk_below B3_8.out hl9); have B4_9 := Aside0.mk (blk_below B4_8.out hl9); have B5_9 := Aside0.mk (blk_below B5_8.out hl9); have B6_9 := Aside0.mk (blk_below B6_8.out hl9); have HB9 := Aside0.mk (below_step HB8.out hl9); have GE7 : Aside0 (w.heap.size ≤ g7) := ⟨by have := HB8.out.size; omega⟩; have N67 : Aside0 (g6 ≠ g7) := ⟨by have := blk_lt B6_8.out; omega⟩; have N37 : Aside0 (g3 ≠ g7) := ⟨by have := blk_lt B3_8.out; omega⟩; have N47 : Aside0 (g4 ≠ g7) := ⟨by have := blk_lt B4_8.out; omega⟩; have n37 := N37.out; have n47 := N47.out; have n73 := N37.out.symm; have n74 := N47.out.symm; have c70_9 : w9.cell? ⟨g7, 0, none⟩ = some (.int .i64 0) := (blk_cell B7_9.out 0).trans rfl; have c71_9 : w9.cell? ⟨g7, 1, none⟩ = some (.slice none 0 0) := (blk_cell B7_9.out 1).trans rfl; have f70_9 := blk_frozen B7_9.out 0; have f71_9 := blk_frozen B7_9.out 1; have c31_9 : w9.cell? ⟨g3, 1, none⟩ = some (.slice A la.length ca) := (blk_cell B3_9.out 1).trans rfl; have c41_9 : w9.cell? ⟨g4, 1, none⟩ = some (.slice B lb.length cb) := (blk_cell B4_9.out 1).trans rfl; clear hg7 hb9 hl9) | ((go_at_call 44; refine calls_of_args (args' := #[.slice A la.length ca, .slice B lb.length cb, .func (.func 45) #[] #[.pointer (some ⟨g5, 0, none⟩), .pointer (some ⟨g7, 0, none⟩)]]) (by first | rfl | simp) ?_; have N57 := Aside0.mk (ty_ne B5_9.out B7_9.out (by decide)); have bW : Aside0 (((w9.setCell ⟨g7, 0, none⟩ (.int .i64 s)).setCell ⟨g7, 1, none⟩ (.slice none 0 0)).heap[g7]? = some (.cells #[.int .i64 s, .slice none 0 0] 25 (0, 0))) := ⟨(by have := blk_set (blk_set B7_9.out 0 (.int .i64 s)) 1 (.slice none 0 0); simpa using this)⟩; have b5W := Aside0.mk (blk_far (p := ⟨g7, 1, none⟩) (blk_far (p := ⟨g7, 0, none⟩) B5_9.out N57.out (.int .i64 s)) N57.out (.slice none 0 0)); have b6W := Aside0.mk (blk_far (p := ⟨g7, 1, none⟩) (blk_far (p := ⟨g7, 0, none⟩) B6_9.out N67.out (.int .i64 s)) N67.out (.slice none 0 0)); refine (both_calls F f eg hF w _ g7 g5 s la lb A B ca cb HA.out.1 HBb.out.1 R1.out.1 R2.out.1 R1.out.2.1 R2.out.2.1 R1.out.2.2 ⟨.slice none 0 0, Kd.R_nil _ _ _ _ _, bW.out, b5W.out, below_set (below_set HB9.out GE7.out) GE7.out, GE7.out⟩).mono ?_; rintro e w10 ⟨rfl, ⟨v, hR, b7, _, hBl, _⟩, hO⟩; have B6_10 : Aside0 (w10.heap[g6]? = some (.cells #[.int .i64 0, .slice none 0 0] 25 (0, 0))) := ⟨hO g6 _ _ b6W.out (by decide) N67.out⟩; obtain ⟨A2, c2, rfl⟩ := Kd.R_slice hR; have HR := Aside0.mk hR; have B7_10 := Aside0.mk b7; have HB10 := Aside0.mk hBl; clear hR b7 hBl hO; have c70_10 : w10.cell? ⟨g7, 0, none⟩ = some (.int .i64 s) := (blk_cell B7_10.out 0).trans rfl; have c71_10 : w10.cell? ⟨g7, 1, none⟩ = some (.slice A2 (enc (List.zipWith f (exp false la) (exp false lb))).length c2) := (blk_cell B7_10.out 1).trans rfl; have c60_10 : w10.cell? ⟨g6, 0, none⟩ = some (.int .i64 0) := (blk_cell B6_10.out 0).trans rfl; have c61_10 : w10.cell? ⟨g6, 1, none⟩ = some (.slice none 0 0) := (blk_cell B6_10.out 1).trans rfl; have f60_10 := blk_frozen B6_10.out 0; have f61_10 := blk_frozen B6_10.out 1)))
        have hq : ∀ q, q ∈ 3 :: (Kd.int .i64).E → q ≠ 25 := fun q hq => by
          have : q = 3 := by simpa [Kd.int, Kd.scalar] using hq
          rw [this]; decide
        have bF : ((w10.setCell ⟨g6, 0, none⟩ (.int .i64 s)).setCell ⟨g6, 1, none⟩ (.slice A2 (enc (List.zipWith f (exp false la) (exp false lb))).length c2)).heap[g6]? = some (.cells #[.int .i64 s, .slice A2 (enc (List.zipWith f (exp false la) (exp false lb))).length c2] 25 (0, 0)) := by
          have := blk_set (blk_set B6_10.out 0 (.int .i64 s)) 1 (.slice A2 (enc (List.zipWith f (exp false la) (exp false lb))).length c2)
          simpa using this
        refine bodyPost_ret (results_cell_row rfl _ _ g6 25 #[.int .i64 s, .slice A2 (enc (List.zipWith f (exp false la) (exp false lb))).length c2] (0, 0) _ rfl bF Try.underlying25 rfl (by kernel_rfl)) rfl ?_
        exact ⟨_, rfl, Kd.R_set (Kd.R_set HR.out B6_10.out hq 0 _) (blk_set B6_10.out 0 _) hq 1 _, below_set (below_set HB10.out GE6.out) GE6.out⟩
      · have e : joinB f s la u lb = (0, []) := by unfold joinB; rw [if_neg (by simp [h3])]
        have h3b : (s == u) = false := by simpa using h3
        rw [e]
        clear e h1 h2 h3
        go_enter Try.func29, Try.ntmps29
        go_wp2_with (first | ((with_reducible refine gate_dst (N := 3) rfl ?_); refine box_event ?hg (N := 3) ?hd (cs := #[.int .i64 s, .slice A la.length ca]) (t := 25) ?hr ?_; (case hd => rfl); (case hg => rfl); (case hr => first | (go_simp; done) | (go_simp; rfl)); intro g3 hg w3 hb hbl; have H3 := Aside0.mk (And.intro hg (And.intro hb hbl)); clear hg hb hbl) | ((with_reducible refine gate_dst (N := 4) rfl ?_); refine box_event ?hg (N := 4) ?hd (cs := #[.int .i64 u, .slice B lb.length cb]) (t := 25) ?hr ?_; (case hd => rfl); (case hg => rfl); (case hr => first | (go_simp; done) | (go_simp; rfl)); intro g4 hg w4 hb hbl; have H4 := Aside0.mk (And.intro hg (And.intro hb hbl)); clear hg hb hbl) | ((with_reducible refine gate_dst (N := 5) rfl ?_); refine box_event ?hg (N := 5) ?hd (cs := #[.func (.func F) #[] #[]]) (t := 45) ?hr ?_; (case hd => rfl); (case hg => rfl); (case hr => first | (go_simp; done) | (go_simp; rfl)); intro g5 hg w5 hb hbl; have H5 := Aside0.mk (And.intro hg (And.intro hb hbl)); clear hg hb hbl) | ((with_reducible refine gate_dst (N := 6) rfl ?_); refine box_event ?hg (N := 6) ?hd (cs := #[.int .i64 0, .slice none 0 0]) (t := 25) ?hr ?_; (case hd => rfl); (case hg => rfl); (case hr => first | (go_simp; done) | (go_simp; rfl)); intro g6 hg w6 hb hbl; have H6 := Aside0.mk (And.intro hg (And.intro hb hbl)); clear hg hb hbl; have L3 := Aside0.mk (below_step (below_step H4.out.2.2 H5.out.2.2) H6.out.2.2); have L4 := Aside0.mk (below_step H5.out.2.2 H6.out.2.2); have B3 := Aside0.mk (blk_below H3.out.2.1 L3.out); have B4 := Aside0.mk (blk_below H4.out.2.1 L4.out); have B5 := Aside0.mk (blk_below H5.out.2.1 H6.out.2.2); have B6 := Aside0.mk H6.out.2.1; have HB := Aside0.mk (below_step H3.out.2.2 L3.out); have hc30 : w6.cell? ⟨g3, 0, none⟩ = some (.int .i64 s) := (blk_cell B3.out 0).trans rfl; have hc31 : w6.cell? ⟨g3, 1, none⟩ = some (.slice A la.length ca) := (blk_cell B3.out 1).trans rfl; have hc40 : w6.cell? ⟨g4, 0, none⟩ = some (.int .i64 u) := (blk_cell B4.out 0).trans rfl; have GE6 : Aside0 (w.heap.size ≤ g6) := ⟨by have := H6.out.1; have := (below_step (below_step H3.out.2.2 H4.out.2.2) H5.out.2.2).size; omega⟩; have hc41 : w6.cell? ⟨g4, 1, none⟩ = some (.slice B lb.length cb) := (blk_cell B4.out 1).trans rfl) | (go_at_call 15; refine calls_of_args (args' := #[.agg #[.int .i64 s, .slice A la.length ca]]) (by with_reducible rfl) ?_; refine (bitmap_Valid.calls k1 s A ca la true w6 (Kd.C_below HA.out.1 HB.out) HA.out.2 V1.out).mono ?_; rintro e w7 ⟨rfl, hb7⟩; have L7 := Aside0.mk hb7; have B3_7 := Aside0.mk (blk_below B3.out hb7); have B4_7 := Aside0.mk (blk_below B4.out hb7); have B5_7 := Aside0.mk (blk_below B5.out hb7); have B6_7 := Aside0.mk (blk_below B6.out hb7); have HB7 := Aside0.mk (below_step HB.out hb7); have c30_7 : w7.cell? ⟨g3, 0, none⟩ = some (.int .i64 s) := (blk_cell B3_7.out 0).trans rfl; have c31_7 : w7.cell? ⟨g3, 1, none⟩ = some (.slice A la.length ca) := (blk_cell B3_7.out 1).trans rfl; have c40_7 : w7.cell? ⟨g4, 0, none⟩ = some (.int .i64 u) := (blk_cell B4_7.out 0).trans rfl; have c41_7 : w7.cell? ⟨g4, 1, none⟩ = some (.slice B lb.length cb) := (blk_cell B4_7.out 1).trans rfl; have c50_7 : w7.cell? ⟨g5, 0, none⟩ = some (.func (.func F) #[] #[]) := (blk_cell B5_7.out 0).trans rfl; have c60_7 : w7.cell? ⟨g6, 0, none⟩ = some (.int .i64 0) := (blk_cell B6_7.out 0).trans rfl; have c61_7 : w7.cell? ⟨g6, 1, none⟩ = some (.slice none 0 0) := (blk_cell B6_7.out 1).trans rfl; have f60_7 := blk_frozen B6_7.out 0; have f61_7 := blk_frozen B6_7.out 1; clear hb7) | (go_at_call 15; refine calls_of_args (args' := #[.agg #[.int .i64 u, .slice B lb.length cb]]) (by with_reducible rfl) ?_; refine (bitmap_Valid.calls k2 u B cb lb true w7 (Kd.C_below HBb.out.1 HB7.out) HBb.out.2 V2.out).mono ?_; rintro e w8 ⟨rfl, hb8⟩; have L8 := Aside0.mk hb8; have B3_8 := Aside0.mk (blk_below B3_7.out hb8); have B4_8 := Aside0.mk (blk_below B4_7.out hb8); have B5_8 := Aside0.mk (blk_below B5_7.out hb8); have B6_8 := Aside0.mk (blk_below B6_7.out hb8); have HB8 := Aside0.mk (below_step HB7.out hb8); have c30_8 : w8.cell? ⟨g3, 0, none⟩ = some (.int .i64 s) := (blk_cell B3_8.out 0).trans rfl; have c31_8 : w8.cell? ⟨g3, 1, none⟩ = some (.slice A la.length ca) := (blk_cell B3_8.out 1).trans rfl; have c40_8 : w8.cell? ⟨g4, 0, none⟩ = some (.int .i64 u) := (blk_cell B4_8.out 0).trans rfl; have c41_8 : w8.cell? ⟨g4, 1, none⟩ = some (.slice B lb.length cb) := (blk_cell B4_8.out 1).trans rfl; have c50_8 : w8.cell? ⟨g5, 0, none⟩ = some (.func (.func F) #[] #[]) := (blk_cell B5_8.out 0).trans rfl; have c60_8 : w8.cell? ⟨g6, 0, none⟩ = some (.int .i64 0) := (blk_cell B6_8.out 0).trans rfl; have c61_8 : w8.cell? ⟨g6, 1, none⟩ = some (.slice none 0 0) := (blk_cell B6_8.out 1).trans rfl; have f60_8 := blk_frozen B6_8.out 0; have f61_8 := blk_frozen B6_8.out 1; clear hb8))
        refine bodyPost_ret (results_cell_row rfl _ _ g6 25 #[.int .i64 0, .slice none 0 0] (0, 0) _ rfl (by (with_reducible repeat (first | refine blk_drewN ?_ _ | refine blk_drew ?_)); refine blk_put (cs := #[.int .i64 0, .slice none 0 0]) ?_ 1 _ rfl; refine blk_put (cs := #[.int .i64 0, .slice none 0 0]) ?_ 0 _ rfl; (with_reducible repeat (first | refine blk_drewN ?_ _ | refine blk_drew ?_)); exact B6_8.out) Try.underlying25 rfl (by kernel_rfl)) rfl ?_
        exact ⟨_, rfl, Kd.R_nil _ _ _ _ _, by repeat (first | (with_reducible first | exact HB8.out | apply pw_below_drewN | apply below_drew1 | refine below_set ?_ GE6.out) | exact HB8.out)⟩
    · rw [Bool.not_eq_true] at h2
      rw [h2] at V2
      have e : joinB f s la u lb = (0, []) := by unfold joinB; rw [if_neg (by simp [h2])]
      rw [e]
      clear e h1 h2
      go_enter Try.func29, Try.ntmps29
      go_wp2_with (first | ((with_reducible refine gate_dst (N := 3) rfl ?_); refine box_event ?hg (N := 3) ?hd (cs := #[.int .i64 s, .slice A la.length ca]) (t := 25) ?hr ?_; (case hd => rfl); (case hg => rfl); (case hr => first | (go_simp; done) | (go_simp; rfl)); intro g3 hg w3 hb hbl; have H3 := Aside0.mk (And.intro hg (And.intro hb hbl)); clear hg hb hbl) | ((with_reducible refine gate_dst (N := 4) rfl ?_); refine box_event ?hg (N := 4) ?hd (cs := #[.int .i64 u, .slice B lb.length cb]) (t := 25) ?hr ?_; (case hd => rfl); (case hg => rfl); (case hr => first | (go_simp; done) | (go_simp; rfl)); intro g4 hg w4 hb hbl; have H4 := Aside0.mk (And.intro hg (And.intro hb hbl)); clear hg hb hbl) | ((with_reducible refine gate_dst (N := 5) rfl ?_); refine box_event ?hg (N := 5) ?hd (cs := #[.func (.func F) #[] #[]]) (t := 45) ?hr ?_; (case hd => rfl); (case hg => rfl); (case hr => first | (go_simp; done) | (go_simp; rfl)); intro g5 hg w5 hb hbl; have H5 := Aside0.mk (And.intro hg (And.intro hb hbl)); clear hg hb hbl) | ((with_reducible refine gate_dst (N := 6) rfl ?_); refine box_event ?hg (N := 6) ?hd (cs := #[.int .i64 0, .slice none 0 0]) (t := 25) ?hr ?_; (case hd => rfl); (case hg => rfl); (case hr => first | (go_simp; done) | (go_simp; rfl)); intro g6 hg w6 hb hbl; have H6 := Aside0.mk (And.intro hg (And.intro hb hbl)); clear hg hb hbl; have L3 := Aside0.mk (below_step (below_step H4.out.2.2 H5.out.2.2) H6.out.2.2); have L4 := Aside0.mk (below_step H5.out.2.2 H6.out.2.2); have B3 := Aside0.mk (blk_below H3.out.2.1 L3.out); have B4 := Aside0.mk (blk_below H4.out.2.1 L4.out); have B5 := Aside0.mk (blk_below H5.out.2.1 H6.out.2.2); have B6 := Aside0.mk H6.out.2.1; have HB := Aside0.mk (below_step H3.out.2.2 L3.out); have hc30 : w6.cell? ⟨g3, 0, none⟩ = some (.int .i64 s) := (blk_cell B3.out 0).trans rfl; have hc31 : w6.cell? ⟨g3, 1, none⟩ = some (.slice A la.length ca) := (blk_cell B3.out 1).trans rfl; have hc40 : w6.cell? ⟨g4, 0, none⟩ = some (.int .i64 u) := (blk_cell B4.out 0).trans rfl; have GE6 : Aside0 (w.heap.size ≤ g6) := ⟨by have := H6.out.1; have := (below_step (below_step H3.out.2.2 H4.out.2.2) H5.out.2.2).size; omega⟩; have hc41 : w6.cell? ⟨g4, 1, none⟩ = some (.slice B lb.length cb) := (blk_cell B4.out 1).trans rfl) | (go_at_call 15; refine calls_of_args (args' := #[.agg #[.int .i64 s, .slice A la.length ca]]) (by with_reducible rfl) ?_; refine (bitmap_Valid.calls k1 s A ca la true w6 (Kd.C_below HA.out.1 HB.out) HA.out.2 V1.out).mono ?_; rintro e w7 ⟨rfl, hb7⟩; have L7 := Aside0.mk hb7; have B3_7 := Aside0.mk (blk_below B3.out hb7); have B4_7 := Aside0.mk (blk_below B4.out hb7); have B5_7 := Aside0.mk (blk_below B5.out hb7); have B6_7 := Aside0.mk (blk_below B6.out hb7); have HB7 := Aside0.mk (below_step HB.out hb7); have c30_7 : w7.cell? ⟨g3, 0, none⟩ = some (.int .i64 s) := (blk_cell B3_7.out 0).trans rfl; have c31_7 : w7.cell? ⟨g3, 1, none⟩ = some (.slice A la.length ca) := (blk_cell B3_7.out 1).trans rfl; have c40_7 : w7.cell? ⟨g4, 0, none⟩ = some (.int .i64 u) := (blk_cell B4_7.out 0).trans rfl; have c41_7 : w7.cell? ⟨g4, 1, none⟩ = some (.slice B lb.length cb) := (blk_cell B4_7.out 1).trans rfl; have c50_7 : w7.cell? ⟨g5, 0, none⟩ = some (.func (.func F) #[] #[]) := (blk_cell B5_7.out 0).trans rfl; have c60_7 : w7.cell? ⟨g6, 0, none⟩ = some (.int .i64 0) := (blk_cell B6_7.out 0).trans rfl; have c61_7 : w7.cell? ⟨g6, 1, none⟩ = some (.slice none 0 0) := (blk_cell B6_7.out 1).trans rfl; have f60_7 := blk_frozen B6_7.out 0; have f61_7 := blk_frozen B6_7.out 1; clear hb7) | (go_at_call 15; refine calls_of_args (args' := #[.agg #[.int .i64 u, .slice B lb.length cb]]) (by with_reducible rfl) ?_; refine (bitmap_Valid.calls k2 u B cb lb false w7 (Kd.C_below HBb.out.1 HB7.out) HBb.out.2 V2.out).mono ?_; rintro e w8 ⟨rfl, hb8⟩; have L8 := Aside0.mk hb8; have B6_8 := Aside0.mk (blk_below B6_7.out hb8); have HB8 := Aside0.mk (below_step HB7.out hb8); have c60_8 : w8.cell? ⟨g6, 0, none⟩ = some (.int .i64 0) := (blk_cell B6_8.out 0).trans rfl; have c61_8 : w8.cell? ⟨g6, 1, none⟩ = some (.slice none 0 0) := (blk_cell B6_8.out 1).trans rfl; have f60_8 := blk_frozen B6_8.out 0; have f61_8 := blk_frozen B6_8.out 1; clear hb8))
      refine bodyPost_ret (results_cell_row rfl _ _ g6 25 #[.int .i64 0, .slice none 0 0] (0, 0) _ rfl (by (with_reducible repeat (first | refine blk_drewN ?_ _ | refine blk_drew ?_)); refine blk_put (cs := #[.int .i64 0, .slice none 0 0]) ?_ 1 _ rfl; refine blk_put (cs := #[.int .i64 0, .slice none 0 0]) ?_ 0 _ rfl; (with_reducible repeat (first | refine blk_drewN ?_ _ | refine blk_drew ?_)); exact B6_8.out) Try.underlying25 rfl (by kernel_rfl)) rfl ?_
      exact ⟨_, rfl, Kd.R_nil _ _ _ _ _, by repeat (first | (with_reducible first | exact HB8.out | apply pw_below_drewN | apply below_drew1 | refine below_set ?_ GE6.out) | exact HB8.out)⟩
  · rw [Bool.not_eq_true] at h1
    rw [h1] at V1
    have e : joinB f s la u lb = (0, []) := by unfold joinB; rw [if_neg (by simp [h1])]
    rw [e]
    clear e h1
    go_enter Try.func29, Try.ntmps29
    go_wp2_with (first | ((with_reducible refine gate_dst (N := 3) rfl ?_); refine box_event ?hg (N := 3) ?hd (cs := #[.int .i64 s, .slice A la.length ca]) (t := 25) ?hr ?_; (case hd => rfl); (case hg => rfl); (case hr => first | (go_simp; done) | (go_simp; rfl)); intro g3 hg w3 hb hbl; have H3 := Aside0.mk (And.intro hg (And.intro hb hbl)); clear hg hb hbl) | ((with_reducible refine gate_dst (N := 4) rfl ?_); refine box_event ?hg (N := 4) ?hd (cs := #[.int .i64 u, .slice B lb.length cb]) (t := 25) ?hr ?_; (case hd => rfl); (case hg => rfl); (case hr => first | (go_simp; done) | (go_simp; rfl)); intro g4 hg w4 hb hbl; have H4 := Aside0.mk (And.intro hg (And.intro hb hbl)); clear hg hb hbl) | ((with_reducible refine gate_dst (N := 5) rfl ?_); refine box_event ?hg (N := 5) ?hd (cs := #[.func (.func F) #[] #[]]) (t := 45) ?hr ?_; (case hd => rfl); (case hg => rfl); (case hr => first | (go_simp; done) | (go_simp; rfl)); intro g5 hg w5 hb hbl; have H5 := Aside0.mk (And.intro hg (And.intro hb hbl)); clear hg hb hbl) | ((with_reducible refine gate_dst (N := 6) rfl ?_); refine box_event ?hg (N := 6) ?hd (cs := #[.int .i64 0, .slice none 0 0]) (t := 25) ?hr ?_; (case hd => rfl); (case hg => rfl); (case hr => first | (go_simp; done) | (go_simp; rfl)); intro g6 hg w6 hb hbl; have H6 := Aside0.mk (And.intro hg (And.intro hb hbl)); clear hg hb hbl; have L3 := Aside0.mk (below_step (below_step H4.out.2.2 H5.out.2.2) H6.out.2.2); have L4 := Aside0.mk (below_step H5.out.2.2 H6.out.2.2); have B3 := Aside0.mk (blk_below H3.out.2.1 L3.out); have B4 := Aside0.mk (blk_below H4.out.2.1 L4.out); have B5 := Aside0.mk (blk_below H5.out.2.1 H6.out.2.2); have B6 := Aside0.mk H6.out.2.1; have HB := Aside0.mk (below_step H3.out.2.2 L3.out); have hc30 : w6.cell? ⟨g3, 0, none⟩ = some (.int .i64 s) := (blk_cell B3.out 0).trans rfl; have hc31 : w6.cell? ⟨g3, 1, none⟩ = some (.slice A la.length ca) := (blk_cell B3.out 1).trans rfl; have hc40 : w6.cell? ⟨g4, 0, none⟩ = some (.int .i64 u) := (blk_cell B4.out 0).trans rfl; have GE6 : Aside0 (w.heap.size ≤ g6) := ⟨by have := H6.out.1; have := (below_step (below_step H3.out.2.2 H4.out.2.2) H5.out.2.2).size; omega⟩; have hc41 : w6.cell? ⟨g4, 1, none⟩ = some (.slice B lb.length cb) := (blk_cell B4.out 1).trans rfl) | (go_at_call 15; refine calls_of_args (args' := #[.agg #[.int .i64 s, .slice A la.length ca]]) (by with_reducible rfl) ?_; refine (bitmap_Valid.calls k1 s A ca la false w6 (Kd.C_below HA.out.1 HB.out) HA.out.2 V1.out).mono ?_; rintro e w7 ⟨rfl, hb7⟩; have L7 := Aside0.mk hb7; have B6_7 := Aside0.mk (blk_below B6.out hb7); have HB7 := Aside0.mk (below_step HB.out hb7); have c60_7 : w7.cell? ⟨g6, 0, none⟩ = some (.int .i64 0) := (blk_cell B6_7.out 0).trans rfl; have c61_7 : w7.cell? ⟨g6, 1, none⟩ = some (.slice none 0 0) := (blk_cell B6_7.out 1).trans rfl; have f60_7 := blk_frozen B6_7.out 0; have f61_7 := blk_frozen B6_7.out 1; clear hb7))
    refine bodyPost_ret (results_cell_row rfl _ _ g6 25 #[.int .i64 0, .slice none 0 0] (0, 0) _ rfl (by (with_reducible repeat (first | refine blk_drewN ?_ _ | refine blk_drew ?_)); refine blk_put (cs := #[.int .i64 0, .slice none 0 0]) ?_ 1 _ rfl; refine blk_put (cs := #[.int .i64 0, .slice none 0 0]) ?_ 0 _ rfl; (with_reducible repeat (first | refine blk_drewN ?_ _ | refine blk_drew ?_)); exact B6_7.out) Try.underlying25 rfl (by kernel_rfl)) rfl ?_
    exact ⟨_, rfl, Kd.R_nil _ _ _ _ _, by repeat (first | (with_reducible first | exact HB7.out | apply pw_below_drewN | apply below_drew1 | refine below_set ?_ GE6.out) | exact HB7.out)⟩
/-- Or: the answer of join -/
def bitmap_Or.f (a0_0 : Int) (l0_1 : List Int) (a1_0 : Int) (l1_1 : List Int) : Option (Int × List Int) := if l0_1.length ≤ 1099511627776 ∧ l1_1.length ≤ 1099511627776 then some (joinB (fun x y => x || y) a0_0 l0_1 a1_0 l1_1) else none
set_option maxHeartbeats 8000000 in
theorem bitmap_Or_1_at (x y : Bool) (w : World) : Calls Try.prog 30 #[.bool x, .bool y] w fun e w' => e = .returned (.bool ((fun x y => x || y) x y)) ∧ Drawn0 w w' := by
  refine bitmap_Or_1.calls x y _ w ?_
  cases x <;> cases y <;> rfl
set_option maxHeartbeats 8000000 in
set_option maxRecDepth 100000 in
theorem bitmap_Or.calls (a0_0 : Int) (A0_1 : Option Addr) (c0_1 : Nat) (l0_1 : List Int) (a1_0 : Int) (A1_1 : Option Addr) (c1_1 : Nat) (l1_1 : List Int) (r1 : Int) (r2 : List Int) (w : World) (hr0_1 : Kd.C (Kd.int .i64) w A0_1 l0_1.length l0_1) (hc0_1 : l0_1.length ≤ c0_1) (hr1_1 : Kd.C (Kd.int .i64) w A1_1 l1_1.length l1_1) (hc1_1 : l1_1.length ≤ c1_1) (h : bitmap_Or.f a0_0 l0_1 a1_0 l1_1 = some (r1, r2)) :
    Calls Try.prog 17 #[.agg #[.int .i64 a0_0, .slice A0_1 l0_1.length c0_1], .agg #[.int .i64 a1_0, .slice A1_1 l1_1.length c1_1]] w fun e w' => ∃ v1_ : Value, e = .returned (.agg #[.int .i64 r1, v1_]) ∧ Kd.R (Kd.int .i64) 3 w' w.heap.size (fun _ => True) v1_ r2 ∧ Below w.heap.size w w' := by
  unfold bitmap_Or.f at h
  by_cases hl : l0_1.length ≤ 1099511627776 ∧ l1_1.length ≤ 1099511627776
  · rw [if_pos hl] at h
    have e1 := Option.some.inj h
    obtain ⟨h1, h2⟩ := Prod.mk.inj (show ((joinB (fun x y => x || y) a0_0 l0_1 a1_0 l1_1).1, (joinB (fun x y => x || y) a0_0 l0_1 a1_0 l1_1).2) = (r1, r2) from e1)
    have HJ : Aside0 (∀ W, Below w.heap.size w W → Calls Try.prog 29 #[.agg #[.int .i64 a0_0, .slice A0_1 l0_1.length c0_1], .agg #[.int .i64 a1_0, .slice A1_1 l1_1.length c1_1], .func (.func 30) #[] #[]] W fun e w' => ∃ v, e = .returned (.agg #[.int .i64 r1, v]) ∧ Kd.R (Kd.int .i64) 3 w' W.heap.size (fun _ => True) v r2 ∧ Below W.heap.size W w') := ⟨fun W hb => by
      have := join_calls 30 (fun x y => x || y) (fun args w => enters_ Try.func30 rfl rfl args w) bitmap_Or_1_at W a0_0 a1_0 l0_1 l1_1 A0_1 A1_1 c0_1 c1_1 (Kd.C_below hr0_1 hb) hc0_1 (Kd.C_below hr1_1 hb) hc1_1 hl.1 hl.2
      rw [h1, h2] at this
      exact this⟩
    clear hr0_1 hc0_1 hr1_1 hc1_1 h hl e1 h1 h2
    have hu25 := Try.underlying25
    go_enter Try.func17, Try.ntmps17
    go_wp2_with (first | ((with_reducible refine gate_dst (N := 2) rfl ?_); refine box_event ?hg (N := 2) ?hd (cs := #[.int .i64 a0_0, .slice A0_1 l0_1.length c0_1]) (t := 25) ?hr ?_; (case hd => rfl); (case hg => rfl); (case hr => first | (go_simp; done) | (go_simp; rfl)); intro g2 hg w2 hb hbl; have H2 := Aside0.mk (And.intro hg (And.intro hb hbl)); clear hg hb hbl) | ((with_reducible refine gate_dst (N := 3) rfl ?_); refine box_event ?hg (N := 3) ?hd (cs := #[.int .i64 a1_0, .slice A1_1 l1_1.length c1_1]) (t := 25) ?hr ?_; (case hd => rfl); (case hg => rfl); (case hr => first | (go_simp; done) | (go_simp; rfl)); intro g3 hg w3 hb hbl; have H3 := Aside0.mk (And.intro hg (And.intro hb hbl)); clear hg hb hbl) | ((with_reducible refine gate_dst (N := 4) rfl ?_); refine box_event ?hg (N := 4) ?hd (cs := #[.int .i64 0, .slice none 0 0]) (t := 25) ?hr ?_; (case hd => rfl); (case hg => rfl); (case hr => first | (go_simp; done) | (go_simp; rfl)); intro g4 hg w4 hb hbl; have H4 := Aside0.mk (And.intro hg (And.intro hb hbl)); clear hg hb hbl; have HB := Aside0.mk (below_step (below_step H2.out.2.2 H3.out.2.2) H4.out.2.2); have GE4 : Aside0 (w.heap.size ≤ g4) := ⟨by have := H4.out.1; have := (below_step H2.out.2.2 H3.out.2.2).size; omega⟩; have B2 := Aside0.mk (blk_below H2.out.2.1 (below_step H3.out.2.2 H4.out.2.2)); have B3 := Aside0.mk (blk_below H3.out.2.1 H4.out.2.2); have c20 : w4.cell? ⟨g2, 0, none⟩ = some (.int .i64 a0_0) := (blk_cell B2.out 0).trans rfl; have c21 : w4.cell? ⟨g2, 1, none⟩ = some (.slice A0_1 l0_1.length c0_1) := (blk_cell B2.out 1).trans rfl; have c30 : w4.cell? ⟨g3, 0, none⟩ = some (.int .i64 a1_0) := (blk_cell B3.out 0).trans rfl; have c31 : w4.cell? ⟨g3, 1, none⟩ = some (.slice A1_1 l1_1.length c1_1) := (blk_cell B3.out 1).trans rfl) | (go_at_call 29; refine calls_of_args (args' := #[.agg #[.int .i64 a0_0, .slice A0_1 l0_1.length c0_1], .agg #[.int .i64 a1_0, .slice A1_1 l1_1.length c1_1], .func (.func 30) #[] #[]]) (by first | rfl | simp) ?_; refine (HJ.out w4 HB.out).mono ?_; rintro e w5 ⟨v, rfl, hR, hb5⟩; obtain ⟨A2, c2, rfl⟩ := Kd.R_slice hR; have HR := Aside0.mk hR; have HB5 := Aside0.mk hb5; have B4 : Aside0 (w5.heap[g4]? = some (.cells #[.int .i64 0, .slice none 0 0] 25 (0, 0))) := ⟨blk_below H4.out.2.1 hb5⟩; clear hR hb5; have c40 : w5.cell? ⟨g4, 0, none⟩ = some (.int .i64 0) := (blk_cell B4.out 0).trans rfl; have c41 : w5.cell? ⟨g4, 1, none⟩ = some (.slice none 0 0) := (blk_cell B4.out 1).trans rfl; have f40 := blk_frozen B4.out 0; have f41 := blk_frozen B4.out 1))
    have hq : ∀ q, q ∈ 3 :: (Kd.int .i64).E → q ≠ 25 := fun q hq => by
      have : q = 3 := by simpa [Kd.int, Kd.scalar] using hq
      rw [this]; decide
    have bF : ((w5.setCell ⟨g4, 0, none⟩ (.int .i64 r1)).setCell ⟨g4, 1, none⟩ (.slice A2 r2.length c2)).heap[g4]? = some (.cells #[.int .i64 r1, .slice A2 r2.length c2] 25 (0, 0)) := by
      have := blk_set (blk_set B4.out 0 (.int .i64 r1)) 1 (.slice A2 r2.length c2)
      simpa using this
    refine bodyPost_ret (results_cell_row rfl _ _ g4 25 #[.int .i64 r1, .slice A2 r2.length c2] (0, 0) _ rfl bF Try.underlying25 rfl (by kernel_rfl)) rfl ?_
    exact ⟨_, rfl, Kd.R_lower (Kd.R_set (Kd.R_set HR.out B4.out hq 0 _) (blk_set B4.out 0 _) hq 1 _) HB.out.size, below_set (below_set (below_step HB.out HB5.out) GE4.out) GE4.out⟩
  · rw [if_neg hl] at h; cases h
/-- And: the answer of join -/
def bitmap_And.f (a0_0 : Int) (l0_1 : List Int) (a1_0 : Int) (l1_1 : List Int) : Option (Int × List Int) := if l0_1.length ≤ 1099511627776 ∧ l1_1.length ≤ 1099511627776 then some (joinB (fun x y => x && y) a0_0 l0_1 a1_0 l1_1) else none
set_option maxHeartbeats 8000000 in
theorem bitmap_And_1_at (x y : Bool) (w : World) : Calls Try.prog 32 #[.bool x, .bool y] w fun e w' => e = .returned (.bool ((fun x y => x && y) x y)) ∧ Drawn0 w w' := by
  refine bitmap_And_1.calls x y _ w ?_
  cases x <;> cases y <;> rfl
set_option maxHeartbeats 8000000 in
set_option maxRecDepth 100000 in
theorem bitmap_And.calls (a0_0 : Int) (A0_1 : Option Addr) (c0_1 : Nat) (l0_1 : List Int) (a1_0 : Int) (A1_1 : Option Addr) (c1_1 : Nat) (l1_1 : List Int) (r1 : Int) (r2 : List Int) (w : World) (hr0_1 : Kd.C (Kd.int .i64) w A0_1 l0_1.length l0_1) (hc0_1 : l0_1.length ≤ c0_1) (hr1_1 : Kd.C (Kd.int .i64) w A1_1 l1_1.length l1_1) (hc1_1 : l1_1.length ≤ c1_1) (h : bitmap_And.f a0_0 l0_1 a1_0 l1_1 = some (r1, r2)) :
    Calls Try.prog 19 #[.agg #[.int .i64 a0_0, .slice A0_1 l0_1.length c0_1], .agg #[.int .i64 a1_0, .slice A1_1 l1_1.length c1_1]] w fun e w' => ∃ v1_ : Value, e = .returned (.agg #[.int .i64 r1, v1_]) ∧ Kd.R (Kd.int .i64) 3 w' w.heap.size (fun _ => True) v1_ r2 ∧ Below w.heap.size w w' := by
  unfold bitmap_And.f at h
  by_cases hl : l0_1.length ≤ 1099511627776 ∧ l1_1.length ≤ 1099511627776
  · rw [if_pos hl] at h
    have e1 := Option.some.inj h
    obtain ⟨h1, h2⟩ := Prod.mk.inj (show ((joinB (fun x y => x && y) a0_0 l0_1 a1_0 l1_1).1, (joinB (fun x y => x && y) a0_0 l0_1 a1_0 l1_1).2) = (r1, r2) from e1)
    have HJ : Aside0 (∀ W, Below w.heap.size w W → Calls Try.prog 29 #[.agg #[.int .i64 a0_0, .slice A0_1 l0_1.length c0_1], .agg #[.int .i64 a1_0, .slice A1_1 l1_1.length c1_1], .func (.func 32) #[] #[]] W fun e w' => ∃ v, e = .returned (.agg #[.int .i64 r1, v]) ∧ Kd.R (Kd.int .i64) 3 w' W.heap.size (fun _ => True) v r2 ∧ Below W.heap.size W w') := ⟨fun W hb => by
      have := join_calls 32 (fun x y => x && y) (fun args w => enters_ Try.func32 rfl rfl args w) bitmap_And_1_at W a0_0 a1_0 l0_1 l1_1 A0_1 A1_1 c0_1 c1_1 (Kd.C_below hr0_1 hb) hc0_1 (Kd.C_below hr1_1 hb) hc1_1 hl.1 hl.2
      rw [h1, h2] at this
      exact this⟩
    clear hr0_1 hc0_1 hr1_1 hc1_1 h hl e1 h1 h2
    have hu25 := Try.underlying25
    go_enter Try.func19, Try.ntmps19
    go_wp2_with (first | ((with_reducible refine gate_dst (N := 2) rfl ?_); refine box_event ?hg (N := 2) ?hd (cs := #[.int .i64 a0_0, .slice A0_1 l0_1.length c0_1]) (t := 25) ?hr ?_; (case hd => rfl); (case hg => rfl); (case hr => first | (go_simp; done) | (go_simp; rfl)); intro g2 hg w2 hb hbl; have H2 := Aside0.mk (And.intro hg (And.intro hb hbl)); clear hg hb hbl) | ((with_reducible refine gate_dst (N := 3) rfl ?_); refine box_event ?hg (N := 3) ?hd (cs := #[.int .i64 a1_0, .slice A1_1 l1_1.length c1_1]) (t := 25) ?hr ?_; (case hd => rfl); (case hg => rfl); (case hr => first | (go_simp; done) | (go_simp; rfl)); intro g3 hg w3 hb hbl; have H3 := Aside0.mk (And.intro hg (And.intro hb hbl)); clear hg hb hbl) | ((with_reducible refine gate_dst (N := 4) rfl ?_); refine box_event ?hg (N := 4) ?hd (cs := #[.int .i64 0, .slice none 0 0]) (t := 25) ?hr ?_; (case hd => rfl); (case hg => rfl); (case hr => first | (go_simp; done) | (go_simp; rfl)); intro g4 hg w4 hb hbl; have H4 := Aside0.mk (And.intro hg (And.intro hb hbl)); clear hg hb hbl; have HB := Aside0.mk (below_step (below_step H2.out.2.2 H3.out.2.2) H4.out.2.2); have GE4 : Aside0 (w.heap.size ≤ g4) := ⟨by have := H4.out.1; have := (below_step H2.out.2.2 H3.out.2.2).size; omega⟩; have B2 := Aside0.mk (blk_below H2.out.2.1 (below_step H3.out.2.2 H4.out.2.2)); have B3 := Aside0.mk (blk_below H3.out.2.1 H4.out.2.2); have c20 : w4.cell? ⟨g2, 0, none⟩ = some (.int .i64 a0_0) := (blk_cell B2.out 0).trans rfl; have c21 : w4.cell? ⟨g2, 1, none⟩ = some (.slice A0_1 l0_1.length c0_1) := (blk_cell B2.out 1).trans rfl; have c30 : w4.cell? ⟨g3, 0, none⟩ = some (.int .i64 a1_0) := (blk_cell B3.out 0).trans rfl; have c31 : w4.cell? ⟨g3, 1, none⟩ = some (.slice A1_1 l1_1.length c1_1) := (blk_cell B3.out 1).trans rfl) | (go_at_call 29; refine calls_of_args (args' := #[.agg #[.int .i64 a0_0, .slice A0_1 l0_1.length c0_1], .agg #[.int .i64 a1_0, .slice A1_1 l1_1.length c1_1], .func (.func 32) #[] #[]]) (by first | rfl | simp) ?_; refine (HJ.out w4 HB.out).mono ?_; rintro e w5 ⟨v, rfl, hR, hb5⟩; obtain ⟨A2, c2, rfl⟩ := Kd.R_slice hR; have HR := Aside0.mk hR; have HB5 := Aside0.mk hb5; have B4 : Aside0 (w5.heap[g4]? = some (.cells #[.int .i64 0, .slice none 0 0] 25 (0, 0))) := ⟨blk_below H4.out.2.1 hb5⟩; clear hR hb5; have c40 : w5.cell? ⟨g4, 0, none⟩ = some (.int .i64 0) := (blk_cell B4.out 0).trans rfl; have c41 : w5.cell? ⟨g4, 1, none⟩ = some (.slice none 0 0) := (blk_cell B4.out 1).trans rfl; have f40 := blk_frozen B4.out 0; have f41 := blk_frozen B4.out 1))
    have hq : ∀ q, q ∈ 3 :: (Kd.int .i64).E → q ≠ 25 := fun q hq => by
      have : q = 3 := by simpa [Kd.int, Kd.scalar] using hq
      rw [this]; decide
    have bF : ((w5.setCell ⟨g4, 0, none⟩ (.int .i64 r1)).setCell ⟨g4, 1, none⟩ (.slice A2 r2.length c2)).heap[g4]? = some (.cells #[.int .i64 r1, .slice A2 r2.length c2] 25 (0, 0)) := by
      have := blk_set (blk_set B4.out 0 (.int .i64 r1)) 1 (.slice A2 r2.length c2)
      simpa using this
    refine bodyPost_ret (results_cell_row rfl _ _ g4 25 #[.int .i64 r1, .slice A2 r2.length c2] (0, 0) _ rfl bF Try.underlying25 rfl (by kernel_rfl)) rfl ?_
    exact ⟨_, rfl, Kd.R_lower (Kd.R_set (Kd.R_set HR.out B4.out hq 0 _) (blk_set B4.out 0 _) hq 1 _) HB.out.size, below_set (below_set (below_step HB.out HB5.out) GE4.out) GE4.out⟩
  · rw [if_neg hl] at h; cases h
/-- AndNot: the answer of join -/
def bitmap_AndNot.f (a0_0 : Int) (l0_1 : List Int) (a1_0 : Int) (l1_1 : List Int) : Option (Int × List Int) := if l0_1.length ≤ 1099511627776 ∧ l1_1.length ≤ 1099511627776 then some (joinB (fun x y => x && !y) a0_0 l0_1 a1_0 l1_1) else none
set_option maxHeartbeats 8000000 in
theorem bitmap_AndNot_1_at (x y : Bool) (w : World) : Calls Try.prog 34 #[.bool x, .bool y] w fun e w' => e = .returned (.bool ((fun x y => x && !y) x y)) ∧ Drawn0 w w' := by
  refine bitmap_AndNot_1.calls x y _ w ?_
  cases x <;> cases y <;> rfl
set_option maxHeartbeats 8000000 in
set_option maxRecDepth 100000 in
theorem bitmap_AndNot.calls (a0_0 : Int) (A0_1 : Option Addr) (c0_1 : Nat) (l0_1 : List Int) (a1_0 : Int) (A1_1 : Option Addr) (c1_1 : Nat) (l1_1 : List Int) (r1 : Int) (r2 : List Int) (w : World) (hr0_1 : Kd.C (Kd.int .i64) w A0_1 l0_1.length l0_1) (hc0_1 : l0_1.length ≤ c0_1) (hr1_1 : Kd.C (Kd.int .i64) w A1_1 l1_1.length l1_1) (hc1_1 : l1_1.length ≤ c1_1) (h : bitmap_AndNot.f a0_0 l0_1 a1_0 l1_1 = some (r1, r2)) :
    Calls Try.prog 21 #[.agg #[.int .i64 a0_0, .slice A0_1 l0_1.length c0_1], .agg #[.int .i64 a1_0, .slice A1_1 l1_1.length c1_1]] w fun e w' => ∃ v1_ : Value, e = .returned (.agg #[.int .i64 r1, v1_]) ∧ Kd.R (Kd.int .i64) 3 w' w.heap.size (fun _ => True) v1_ r2 ∧ Below w.heap.size w w' := by
  unfold bitmap_AndNot.f at h
  by_cases hl : l0_1.length ≤ 1099511627776 ∧ l1_1.length ≤ 1099511627776
  · rw [if_pos hl] at h
    have e1 := Option.some.inj h
    obtain ⟨h1, h2⟩ := Prod.mk.inj (show ((joinB (fun x y => x && !y) a0_0 l0_1 a1_0 l1_1).1, (joinB (fun x y => x && !y) a0_0 l0_1 a1_0 l1_1).2) = (r1, r2) from e1)
    have HJ : Aside0 (∀ W, Below w.heap.size w W → Calls Try.prog 29 #[.agg #[.int .i64 a0_0, .slice A0_1 l0_1.length c0_1], .agg #[.int .i64 a1_0, .slice A1_1 l1_1.length c1_1], .func (.func 34) #[] #[]] W fun e w' => ∃ v, e = .returned (.agg #[.int .i64 r1, v]) ∧ Kd.R (Kd.int .i64) 3 w' W.heap.size (fun _ => True) v r2 ∧ Below W.heap.size W w') := ⟨fun W hb => by
      have := join_calls 34 (fun x y => x && !y) (fun args w => enters_ Try.func34 rfl rfl args w) bitmap_AndNot_1_at W a0_0 a1_0 l0_1 l1_1 A0_1 A1_1 c0_1 c1_1 (Kd.C_below hr0_1 hb) hc0_1 (Kd.C_below hr1_1 hb) hc1_1 hl.1 hl.2
      rw [h1, h2] at this
      exact this⟩
    clear hr0_1 hc0_1 hr1_1 hc1_1 h hl e1 h1 h2
    have hu25 := Try.underlying25
    go_enter Try.func21, Try.ntmps21
    go_wp2_with (first | ((with_reducible refine gate_dst (N := 2) rfl ?_); refine box_event ?hg (N := 2) ?hd (cs := #[.int .i64 a0_0, .slice A0_1 l0_1.length c0_1]) (t := 25) ?hr ?_; (case hd => rfl); (case hg => rfl); (case hr => first | (go_simp; done) | (go_simp; rfl)); intro g2 hg w2 hb hbl; have H2 := Aside0.mk (And.intro hg (And.intro hb hbl)); clear hg hb hbl) | ((with_reducible refine gate_dst (N := 3) rfl ?_); refine box_event ?hg (N := 3) ?hd (cs := #[.int .i64 a1_0, .slice A1_1 l1_1.length c1_1]) (t := 25) ?hr ?_; (case hd => rfl); (case hg => rfl); (case hr => first | (go_simp; done) | (go_simp; rfl)); intro g3 hg w3 hb hbl; have H3 := Aside0.mk (And.intro hg (And.intro hb hbl)); clear hg hb hbl) | ((with_reducible refine gate_dst (N := 4) rfl ?_); refine box_event ?hg (N := 4) ?hd (cs := #[.int .i64 0, .slice none 0 0]) (t := 25) ?hr ?_; (case hd => rfl); (case hg => rfl); (case hr => first | (go_simp; done) | (go_simp; rfl)); intro g4 hg w4 hb hbl; have H4 := Aside0.mk (And.intro hg (And.intro hb hbl)); clear hg hb hbl; have HB := Aside0.mk (below_step (below_step H2.out.2.2 H3.out.2.2) H4.out.2.2); have GE4 : Aside0 (w.heap.size ≤ g4) := ⟨by have := H4.out.1; have := (below_step H2.out.2.2 H3.out.2.2).size; omega⟩; have B2 := Aside0.mk (blk_below H2.out.2.1 (below_step H3.out.2.2 H4.out.2.2)); have B3 := Aside0.mk (blk_below H3.out.2.1 H4.out.2.2); have c20 : w4.cell? ⟨g2, 0, none⟩ = some (.int .i64 a0_0) := (blk_cell B2.out 0).trans rfl; have c21 : w4.cell? ⟨g2, 1, none⟩ = some (.slice A0_1 l0_1.length c0_1) := (blk_cell B2.out 1).trans rfl; have c30 : w4.cell? ⟨g3, 0, none⟩ = some (.int .i64 a1_0) := (blk_cell B3.out 0).trans rfl; have c31 : w4.cell? ⟨g3, 1, none⟩ = some (.slice A1_1 l1_1.length c1_1) := (blk_cell B3.out 1).trans rfl) | (go_at_call 29; refine calls_of_args (args' := #[.agg #[.int .i64 a0_0, .slice A0_1 l0_1.length c0_1], .agg #[.int .i64 a1_0, .slice A1_1 l1_1.length c1_1], .func (.func 34) #[] #[]]) (by first | rfl | simp) ?_; refine (HJ.out w4 HB.out).mono ?_; rintro e w5 ⟨v, rfl, hR, hb5⟩; obtain ⟨A2, c2, rfl⟩ := Kd.R_slice hR; have HR := Aside0.mk hR; have HB5 := Aside0.mk hb5; have B4 : Aside0 (w5.heap[g4]? = some (.cells #[.int .i64 0, .slice none 0 0] 25 (0, 0))) := ⟨blk_below H4.out.2.1 hb5⟩; clear hR hb5; have c40 : w5.cell? ⟨g4, 0, none⟩ = some (.int .i64 0) := (blk_cell B4.out 0).trans rfl; have c41 : w5.cell? ⟨g4, 1, none⟩ = some (.slice none 0 0) := (blk_cell B4.out 1).trans rfl; have f40 := blk_frozen B4.out 0; have f41 := blk_frozen B4.out 1))
    have hq : ∀ q, q ∈ 3 :: (Kd.int .i64).E → q ≠ 25 := fun q hq => by
      have : q = 3 := by simpa [Kd.int, Kd.scalar] using hq
      rw [this]; decide
    have bF : ((w5.setCell ⟨g4, 0, none⟩ (.int .i64 r1)).setCell ⟨g4, 1, none⟩ (.slice A2 r2.length c2)).heap[g4]? = some (.cells #[.int .i64 r1, .slice A2 r2.length c2] 25 (0, 0)) := by
      have := blk_set (blk_set B4.out 0 (.int .i64 r1)) 1 (.slice A2 r2.length c2)
      simpa using this
    refine bodyPost_ret (results_cell_row rfl _ _ g4 25 #[.int .i64 r1, .slice A2 r2.length c2] (0, 0) _ rfl bF Try.underlying25 rfl (by kernel_rfl)) rfl ?_
    exact ⟨_, rfl, Kd.R_lower (Kd.R_set (Kd.R_set HR.out B4.out hq 0 _) (blk_set B4.out 0 _) hq 1 _) HB.out.size, below_set (below_set (below_step HB.out HB5.out) GE4.out) GE4.out⟩
  · rw [if_neg hl] at h; cases h
end Go.Proofs.Ytibnkopdkfjgpaa.Q


