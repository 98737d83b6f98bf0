/- The law BitmapAsks holds: for every input it returns true, and each argument reads afterwards as it read before. -/
import Derived.Test.YtibnkopdkfjgpaaMYBitmapAsks1
import Derived.Test.YtibnkopdkfjgpaaMBitmapAsks1
import Derived.Test.YtibnkopdkfjgpaaMBitmapAsks2
import Derived.Shelf.Abstract
import Derived.BigRegion
import Derived.Deep.QuietTactic
import Derived.BigQuiet
import Derived.Laws.Cover1
import Derived.Maps.OwnOps
import Derived.Maps.OwnSet
import Derived.Maps.Views
set_option linter.unusedVariables false
set_option linter.unusedSimpArgs false
/- bitmap.join by hand: two cursors over runs, and a closure that writes the runs of the answer. -/
namespace Go.Proofs.Ytibnkopdkfjgpaa.Q
open Go.RowKit Go.Proofs.YtibnkopdkfjgpaaW.PrintWords Go.Proofs.YtibnkopdkfjgpaaW.PrintLast Go.Proofs.YtibnkopdkfjgpaaW.PrintMore
open Bm
/-- the bits that a cursor has ahead of it -/
def rem (l : List Int) (p : Nat) (x : Int) : List Bool := List.replicate x.toNat (decide (p % 2 = 0)) ++ exp (decide (p % 2 = 1)) (l.drop p)
theorem par_ (p : Nat) : decide ((p + 1) % 2 = 0) = decide (p % 2 = 1) := by
  rw [Bool.eq_iff_iff, decide_eq_true_eq, decide_eq_true_eq]; omega
theorem par2_ (p : Nat) : decide ((p + 1) % 2 = 1) = !decide (p % 2 = 1) := by
  rw [Bool.eq_iff_iff]; simp only [Bool.not_eq_true', decide_eq_true_eq, decide_eq_false_iff_not]; omega
theorem rem_next {l : List Int} {p : Nat} (h : p < l.length) : rem l p 0 = rem l (p + 1) (rd l (p : Int)) := by
  obtain ⟨r, t, hd⟩ : ∃ r t, l.drop p = r :: t := ⟨_, _, List.drop_eq_getElem_cons h⟩
  obtain ⟨_, hr, ht⟩ := drop_at hd
  unfold rem
  rw [hd, hr, ht, exp, par_, par2_]
  simp
theorem rem_end {l : List Int} {p : Nat} (h : l.length ≤ p) : rem l p 0 = [] := by
  unfold rem
  rw [List.drop_eq_nil_of_le h]; rfl
theorem rem_take {l : List Int} {p : Nat} {x n : Int} (h0 : 0 ≤ n) (h1 : n ≤ x) : rem l p x = List.replicate n.toNat (decide (p % 2 = 0)) ++ rem l p (x - n) := by
  unfold rem
  rw [← List.append_assoc, List.replicate_append_replicate, show n.toNat + (x - n).toNat = x.toNat by omega]
theorem zw_rep (f : Bool → Bool → Bool) (u v : Bool) (s t : List Bool) : ∀ n : Nat, List.zipWith f (List.replicate n u ++ s) (List.replicate n v ++ t) = List.replicate n (f u v) ++ List.zipWith f s t
  | 0 => rfl
  | n + 1 => by rw [List.replicate_succ, List.replicate_succ, List.replicate_succ, List.cons_append, List.cons_append, List.cons_append, List.zipWith_cons_cons, zw_rep f u v s t n]
/-- one round: a piece of both is taken -/
theorem both_step {f : Bool → Bool → Bool} {a b : List Int} {p q : Nat} {x y n : Int} {R : List Int} {Z : List Bool} (hR : Canon R) (hn : 1 ≤ n) (hx : n ≤ x) (hy : n ≤ y)
    (hZ : exp false R ++ List.zipWith f (rem a p x) (rem b q y) = Z) :
    Canon (push R (f (decide (p % 2 = 0)) (decide (q % 2 = 0))) n) ∧ exp false (push R (f (decide (p % 2 = 0)) (decide (q % 2 = 0))) n) ++ List.zipWith f (rem a p (x - n)) (rem b q (y - n)) = Z := by
  refine ⟨push_canon hR hn, ?_⟩
  rw [push_exp hR hn, List.append_assoc, ← zw_rep, ← rem_take (by omega) hx, ← rem_take (by omega) hy]
  exact hZ
theorem canon_len : ∀ {R : List Int}, Canon R → R.length ≤ (exp false R).length + 1
  | [], _ => by simp
  | r :: t, h => by
    have key : ∀ (t : List Int) (b : Bool), Pos t → t.length ≤ (exp b t).length := by
      intro t
      induction t with
      | nil => intro b _; simp
      | cons s u ih =>
        intro b hp
        have h1 := hp s (by simp)
        have h2 := ih (!b) (fun x hx => hp x (by simp [hx]))
        rw [exp, List.length_append, List.length_replicate, List.length_cons]; omega
    have := key t (!false) h.2.1
    rw [exp, List.length_append, List.length_cons]; omega
theorem rd_nonneg {R : List Int} (h : Canon R) (i : Nat) : 0 ≤ R.getD i 0 := by
  rw [List.getD_eq_getElem?_getD]
  cases hh : R[i]? with
  | none => simp
  | some v => exact canon_nonneg h v (List.mem_of_getElem? hh)
theorem rd_le_exp {R : List Int} (h : Canon R) : ∀ i : Nat, R.getD i 0 ≤ ((exp false R).length : Int) := by
  have key : ∀ (R : List Int) (b : Bool) (i : Nat), R.getD i 0 ≤ ((exp b R).length : Int) := by
    intro R
    induction R with
    | nil => intro b i; simp
    | cons r t ih =>
      intro b i
      rw [exp, List.length_append, List.length_replicate]
      cases i with
      | zero => rw [List.getD_cons_zero]; omega
      | succ i => rw [List.getD_cons_succ]; have := ih (!b) i; omega
  exact fun i => key R false i
def NextPost (l : List Int) (A : Option Addr) (c g : Nat) (w0 w : World) (p : Nat) (x : Int) (b : Bool) (p' : Nat) (x' : Int) (w' : World) : Prop :=
  (p' ≤ l.length ∧ 0 ≤ x' ∧ x' ≤ 1048576 ∧ rem l p' x' = rem l p x ∧ (b = true → 0 < x') ∧ (b = false → rem l p x = [])) ∧
  w'.heap[g]? = some (.cells #[.slice A l.length c, .int .i64 p', .int .i64 x'] 79 (0, 0)) ∧ Below w0.heap.size w0 w' ∧ KeepBut w w' g none
set_option maxHeartbeats 8000000 in
set_option maxRecDepth 100000 in
theorem next_calls (l : List Int) (A : Option Addr) (c : Nat) (hl : ∀ i : Nat, i < l.length → 0 ≤ rd l (i : Int) ∧ rd l (i : Int) ≤ 1048576) (hL : l.length ≤ 1099511627776) (g : Nat) (w0 w : World) (p : Nat) (x : Int) (hx : 0 ≤ x) (hx1 : x ≤ 1048576) (hp : p ≤ l.length) (hg : w0.heap.size ≤ g) (hb : w.heap[g]? = some (.cells #[.slice A l.length c, .int .i64 p, .int .i64 x] 79 (0, 0))) (hA : Kd.C (Kd.int .i64) w0 A l.length l) (hB : Below w0.heap.size w0 w) :
    Calls Try.prog 58 #[.pointer (some ⟨g, 0, none⟩)] w fun e w' => ∃ (b : Bool) (p' : Nat) (x' : Int), e = .returned (.bool b) ∧ NextPost l A c g w0 w p x b p' x' w' := by
  have HA := Aside0.mk hA
  have HS := Aside0.mk (show p ≤ l.length ∧ 0 ≤ x ∧ x ≤ 1048576 ∧ rem l p x = rem l p x ∧ l.length - p ≤ l.length from ⟨hp, hx, hx1, rfl, by omega⟩)
  have BK0 := Aside0.mk hb
  have HB0 := Aside0.mk hB
  have HL := Aside0.mk hl
  have HM := Aside0.mk hL
  have GE := Aside0.mk hg
  clear hA hx hx1 hp hb hB hl hL hg
  go_enter Try.func58, Try.ntmps58
  go_wp2
  go_loopg [] (l.length) (fun k wr => ∃ (q : Nat) (y : Int), Aside0 (q ≤ l.length ∧ 0 ≤ y ∧ y ≤ 1048576 ∧ rem l q y = rem l p x ∧ l.length - q ≤ k) ∧ Aside0 (wr.heap[g]? = some (.cells #[.slice A l.length c, .int .i64 q, .int .i64 y] 79 (0, 0))) ∧ Aside0 (Below w0.heap.size w0 wr) ∧ Aside0 (KeepBut w wr g none))
  case atStart => exact ⟨p, x, ⟨HS.out.1, HS.out.2.1, HS.out.2.2.1, rfl, HS.out.2.2.2.2⟩, BK0, HB0, ⟨KeepBut.refl _ _ _⟩⟩
  case round =>
    clear HS BK0 HB0
    obtain ⟨q, y, HQ, BK, HB, HK⟩ := hrel
    have hcz0 : wr.cell? ⟨g, 0, none⟩ = some (.slice A l.length c) := (blk_cell BK.out 0).trans rfl
    have hcz1 : wr.cell? ⟨g, 1, none⟩ = some (.int .i64 q) := (blk_cell BK.out 1).trans rfl
    have hcz2 : wr.cell? ⟨g, 2, none⟩ = some (.int .i64 y) := (blk_cell BK.out 2).trans rfl
    have hfz1 := blk_frozen BK.out 1
    have hfz2 := blk_frozen BK.out 2
    by_cases hy : y = 0
    · have ht : (y == 0) = true := by simpa using hy
      by_cases hq : q < l.length
      · have ht2 : decide (l.length ≤ q) = false := decide_eq_false (by omega)
        have h0q : 0 ≤ (q : Int) := by omega
        have h1q : (q : Int) < (l.length : Int) := by omega
        obtain ⟨ad, e, hc⟩ := Kd.at_int (Kd.C_below HA.out HB.out) (q : Int) (by omega) (by omega)
        cases e
        have hc2 : wr.cell? (ad.add q) = some (.int .i64 (rd l (q : Int))) := by simpa using hc
        have HY := Aside0.mk hy
        have HLT := Aside0.mk hq
        clear hy hq hc
        go_wp2
        go_quiet (fail)
        go_wp2
        go_region
        go_wp2
        have hq := HLT.out
        have hm := HM.out
        obtain ⟨hQ1, hQ2, hQ3, hQ4, hQ5⟩ := HQ.out
        obtain ⟨m, rfl⟩ : ∃ m, gk = m + 1 := ⟨gk - 1, by omega⟩
        have e1 : wrap64 ((q : Int) + 1) = ((q + 1 : Nat) : Int) := by rw [wrap_id (by omega) (by omega)]; omega
        rw [e1]
        go_roundg m
        case rel =>
          obtain ⟨hl1, hl2⟩ := HL.out q hq
          refine ⟨q + 1, rd l (q : Int), ⟨by omega, hl1, hl2, ?_, by omega⟩, ⟨?_⟩, ⟨?_⟩, ⟨?_⟩⟩
          · have hy := HY.out
            rw [← rem_next hq, ← hQ4, hy]
          · have := blk_set (blk_set (blk_drewN BK.out (nq + 1)) 2 (.int .i64 (rd l (q : Int)))) 1 (.int .i64 ((q + 1 : Nat) : Int))
            simpa using this
          · exact below_set (below_set (pw_below_drewN HB.out _) GE.out) GE.out
          · exact ((keep_drewN HK.out _).set_ _ _).set_ _ _
        case measure => omega
      · have ht2 : decide (l.length ≤ q) = true := decide_eq_true (by omega)
        have HY := Aside0.mk hy
        have HLT := Aside0.mk hq
        clear hy hq
        go_wp2
        go_quiet (fail)
        go_wp2
        go_ret
        obtain ⟨hQ1, hQ2, hQ3, hQ4, hQ5⟩ := HQ.out
        refine ⟨false, q, y, rfl, ⟨hQ1, hQ2, hQ3, hQ4, fun h => (by cases h), fun _ => ?_⟩, blk_drewN BK.out _, pw_below_drewN HB.out _, keep_drewN HK.out _⟩
        rw [← hQ4, HY.out]
        exact rem_end (Nat.le_of_not_lt HLT.out)
    · have ht : (y == 0) = false := by simpa using hy
      have HY := Aside0.mk hy
      clear hy
      go_wp2
      go_ret
      obtain ⟨hQ1, hQ2, hQ3, hQ4, hQ5⟩ := HQ.out
      exact ⟨true, q, y, rfl, ⟨hQ1, hQ2, hQ3, hQ4, fun _ => (by have := HY.out; omega), fun h => (by cases h)⟩, BK.out, HB.out, HK.out⟩
theorem pair_C (w : World) (x y : Int) : Kd.C (Kd.int .i64) (w.alloc (.cells #[.int .i64 x, .int .i64 y] 3)) (some ⟨w.heap.size, 0, none⟩) 2 [x, y] := by
  refine Kd.C_of_reads (d := (0 : Int)) ⟨rfl, by omega, fun _ => ⟨_, rfl, fun j hj => ?_⟩⟩
  have hb := blk_new w (.cells #[.int .i64 x, .int .i64 y] 3)
  have : j = 0 ∨ j = 1 := by omega
  rcases this with rfl | rfl
  · exact (blk_cell hb 0).trans rfl
  · exact (blk_cell hb 1).trans rfl
/-- what the closure of join keeps: the runs so far in the captured answer, the test in its cell -/
def JP (w0 : World) (go gi : Nat) (s : Int) (F : FuncId) (w : World) (R : List Int) : Prop :=
  ∃ v, Kd.R (Kd.int .i64) 3 w w0.heap.size (fun _ => True) v R ∧ w.heap[go]? = some (.cells #[.int .i64 s, v] 25 (0, 0)) ∧
    w.heap[gi]? = some (.cells #[.func (.func F) #[] #[]] 45 (0, 0)) ∧ Below w0.heap.size w0 w ∧ w0.heap.size ≤ go
def Others (w w' : World) (go : Nat) : Prop := ∀ g' cs t, w.heap[g']? = some (.cells cs t (0, 0)) → t ≠ 3 → g' ≠ go → w'.heap[g']? = some (.cells cs t (0, 0))
theorem jp_mid {w0 w W w2 : World} {go gi : Nat} {s : Int} {v : Value} {R : List Int} {t : Nat} {cs : Array Value} (HO : Kd.R (Kd.int .i64) 3 w w0.heap.size (fun _ => True) v R) {g' : Nat} (hb : w.heap[g']? = some (.cells cs t (0, 0))) (ht : t ≠ 3)
    (hup : ∀ (g' : Nat) (o : Obj), w.heap[g']? = some o → W.heap[g']? = some o) (hg : W.grownBy w2 v.ownBlock) : w2.heap[g']? = some (.cells cs t (0, 0)) :=
  blk_grown (hup _ _ hb) hg (Kd.R_ne HO hb (fun e => ht e.symm))
theorem jp_end {w0 w W w2 : World} {go gi : Nat} {s : Int} {F : FuncId} {v v2 : Value} {R R2 : List Int} (HO : Kd.R (Kd.int .i64) 3 w w0.heap.size (fun _ => True) v R) (BO : w.heap[go]? = some (.cells #[.int .i64 s, v] 25 (0, 0)))
    (BI : w.heap[gi]? = some (.cells #[.func (.func F) #[] #[]] 45 (0, 0))) (GE : w0.heap.size ≤ go) (hup : ∀ (g' : Nat) (o : Obj), w.heap[g']? = some o → W.heap[g']? = some o) (ho : Kd.R (Kd.int .i64) 3 w2 w0.heap.size (fun _ => True) v2 R2) (hb : Below w0.heap.size w0 w2) (hg : W.grownBy w2 v.ownBlock) :
    JP w0 go gi s F (w2.setCell ⟨go, 1, none⟩ v2) R2 ∧ Others w (w2.setCell ⟨go, 1, none⟩ v2) go := by
  have b2 := jp_mid (gi := gi) (go := go) (s := s) HO BO (by decide) hup hg
  have i2 := jp_mid (gi := gi) (go := go) (s := s) HO BI (by decide) hup hg
  have hne : gi ≠ go := by
    rintro rfl
    rw [BI] at BO
    injection BO with BO
    injection BO with _ BO
    exact absurd BO (by decide)
  refine ⟨⟨v2, Kd.R_set ho b2 (fun q hq => ?_) 1 v2, ?_, blk_far i2 hne _, below_set hb GE, GE⟩, fun g' cs t h ht hg' => blk_far (jp_mid (gi := gi) (go := go) (s := s) HO h ht hup hg) hg' _⟩
  · have : q = 3 := by simpa [Kd.int, Kd.scalar] using hq
    rw [this]; decide
  · have := blk_set b2 1 v2
    simpa using this
theorem jp_end2 {w0 w w2 : World} {go gi : Nat} {s : Int} {F : FuncId} {v : Value} {R R2 : List Int} (HO : Kd.R (Kd.int .i64) 3 w w0.heap.size (fun _ => True) v R) (BO : w.heap[go]? = some (.cells #[.int .i64 s, v] 25 (0, 0)))
    (BI : w.heap[gi]? = some (.cells #[.func (.func F) #[] #[]] 45 (0, 0))) (GE : w0.heap.size ≤ go) (ho : Kd.R (Kd.int .i64) 3 w2 w0.heap.size (fun _ => True) v R2) (hb : Below w0.heap.size w0 w2) (hg : w.grownBy w2 v.ownBlock) :
    JP w0 go gi s F w2 R2 ∧ Others w w2 go :=
  ⟨⟨v, ho, jp_mid (gi := gi) (go := go) (s := s) HO BO (by decide) (fun _ _ h => h) hg, jp_mid (gi := gi) (go := go) (s := s) HO BI (by decide) (fun _ _ h => h) hg, hb, GE⟩, fun g' cs t h ht _ => jp_mid (gi := gi) (go := go) (s := s) HO h ht (fun _ _ h => h) hg⟩
set_option maxHeartbeats 8000000 in
set_option maxRecDepth 100000 in
theorem join1_calls (F : FuncId) (f : Bool → Bool → Bool) (eg : ∀ args w, (callFunc F args).run Try.prog w = .ok (.enter F args) w) (hF : ∀ x y w, Calls Try.prog F #[.bool x, .bool y] w fun e w' => e = .returned (.bool (f x y)) ∧ Drawn0 w w')
    (w0 w : World) (go gi : Nat) (s : Int) (R : List Int) (x y : Bool) (n : Int) (hJ : JP w0 go gi s F w R) (hn : 1 ≤ n) (hn2 : n ≤ 1048576) (hl : R.length ≤ 4194304) (hs : ∀ i : Nat, 0 ≤ R.getD i 0 ∧ R.getD i 0 ≤ 1048576) :
    Calls Try.prog 45 #[.bool x, .bool y, .int .i64 n, .pointer (some ⟨gi, 0, none⟩), .pointer (some ⟨go, 0, none⟩)] w fun e w' => e = .returned (.tuple #[]) ∧ JP w0 go gi s F w' (push R (f x y) n) ∧ Others w w' go := by
  obtain ⟨v, hO, bo, bi, hB, hge⟩ := hJ
  obtain ⟨A, c, rfl⟩ := Kd.R_slice hO
  have HO := Aside0.mk hO
  have BO := Aside0.mk bo
  have BI := Aside0.mk bi
  have HB := Aside0.mk hB
  have GE := Aside0.mk hge
  have HS := Aside0.mk hs
  have HL := Aside0.mk hl
  have hcz0 : w.cell? ⟨go, 0, none⟩ = some (.int .i64 s) := (blk_cell BO.out 0).trans rfl
  have hcz1 : w.cell? ⟨go, 1, none⟩ = some (.slice A R.length c) := (blk_cell BO.out 1).trans rfl
  have hcz2 : w.cell? ⟨gi, 0, none⟩ = some (.func (.func F) #[] #[]) := (blk_cell BI.out 0).trans rfl
  have hfz1 := blk_frozen BO.out 1
  obtain ⟨on, hon⟩ : ∃ on, f x y = on := ⟨_, rfl⟩
  have hF' := hF x y
  rw [hon] at hF' ⊢
  clear hF hon hO bo bi hB hge hs hl
  have hu := Try.underlying22
  by_cases h0 : R.length = 0
  · obtain rfl := List.eq_nil_of_length_eq_zero h0
    clear h0
    cases on
    · go_enter Try.func45, Try.ntmps45
      go_wp2_with (first | (go_at_fn F; refine calls_of_args (args' := #[.bool x, .bool y]) (by first | rfl | simp) ?_; (refine (hF' _).mono ?_); rintro e w1 ⟨rfl, ⟨nd, rfl⟩⟩) | ((with_reducible refine gate_builtin (b := .append) (xs := #[.tmp 18, .tmp 20]) rfl ?_); at_builtin; refine Kd.R_append (Kd.int .i64) (w0 := w0) w0.heap.size rfl (.tmp 18) (.tmp 20) 22 3 (.int .i64 0) 8 rfl hu info3 rfl (by decide) (by omega) (.slice A 0 c) [] n [.int .i64 n] (fun _ => True) (fun _ => False) rfl rfl ?aP (fun _ hk => hk.elim) ?aF ?aO ?aB ?aS ?aL ?_; (case aP => exact rfl); (case aF => exact (fun _ _ => trivial)); (case aO => exact Kd.R_drewN HO.out _); (case aB => exact pw_below_drewN HB.out _); (case aS => exact below_size (pw_below_drewN HB.out _)); (case aL => have := HL.out; simp); intro v2 w2 ho hb hg hat; have HO2 := Aside0.mk ho; have HB2 := Aside0.mk hb; have HG2 := Aside0.mk hg; have b2 := jp_mid (gi := gi) (go := go) (s := s) HO.out BO.out (by decide) (fun _ _ h => blk_drewN h _) hg; obtain ⟨A2, c2, e2⟩ := Kd.R_slice ho; subst e2; have hcy : w2.cell? ⟨go, 1, none⟩ = some (.slice A 0 c) := (blk_cell b2 1).trans rfl; have hfy := blk_frozen b2 1; clear ho hb hg hat b2))
      go_end0
      have e : push [] false n = [n] := by unfold push; simp
      rw [e]
      exact ⟨rfl, jp_end HO.out BO.out BI.out GE.out (fun _ _ h => blk_drewN h _) HO2.out HB2.out HG2.out⟩
    · go_enter Try.func45, Try.ntmps45
      go_wp2_with (first | (go_at_fn F; refine calls_of_args (args' := #[.bool x, .bool y]) (by first | rfl | simp) ?_; (refine (hF' _).mono ?_); rintro e w1 ⟨rfl, ⟨nd, rfl⟩⟩) | ((with_reducible refine gate_builtin (b := .append) (xs := #[.tmp 30, .tmp 32]) rfl ?_); at_builtin; refine Kd.R_append_row (Value.int .i64) 0 (h1 := fun _ => rfl) (w0 := w0) w0.heap.size rfl (.tmp 30) (.tmp 32) 22 3 (.int .i64 0) 8 rfl hu info3 rfl (by decide) (.slice A 0 c) [] [0, n] (some ⟨w.heap.size, 0, none⟩) 2 2 (fun _ => True) rfl rfl (fun _ _ => trivial) ?aO ?aR ?aB ?aS ?aL ?_; (case aO => exact Kd.R_alloc (Kd.R_drewN HO.out _) _); (case aR => exact pair_C (w.drewN nd) 0 n); (case aB => exact below_alloc (pw_below_drewN HB.out _) _); (case aS => exact below_size (below_alloc (pw_below_drewN HB.out _) _)); (case aL => simp); intro v2 w2 ho hb hg hat; have HO2 := Aside0.mk ho; have HB2 := Aside0.mk hb; have HG2 := Aside0.mk hg; have b2 := jp_mid (gi := gi) (go := go) (s := s) HO.out BO.out (by decide) (fun _ _ h => blk_alloc (blk_drewN h _) _) hg; obtain ⟨A2, c2, e2⟩ := Kd.R_slice ho; subst e2; have hcy : w2.cell? ⟨go, 1, none⟩ = some (.slice A 0 c) := (blk_cell b2 1).trans rfl; have hfy := blk_frozen b2 1; clear ho hb hg hat b2))
      go_end0
      have e : push [] true n = [0, n] := by unfold push; simp
      rw [e]
      exact ⟨rfl, jp_end HO.out BO.out BI.out GE.out (fun _ _ h => blk_alloc (blk_drewN h _) _) HO2.out HB2.out HG2.out⟩
  · have hz : ((R.length : Int) == 0) = false := by simp; exact fun e => h0 (by rw [e]; rfl)
    have hp : decide (0 < R.length) = true := decide_eq_true (by omega)
    have hp2 : (0 < R.length) = True := eq_true (by omega)
    by_cases h1 : decide (R.length % 2 = 0) = on
    · have hm : (((R.length : Int) % 2) == 0) = on := by rw [← h1, Bool.eq_iff_iff]; simp; omega
      have e : push R on n = R.set (R.length - 1) (R.getD (R.length - 1) 0 + n) := by unfold push; rw [if_neg (fun h => h0 h.1), if_pos ⟨by omega, h1⟩]
      obtain ⟨gr, cr, er, gb, gl, cl, HGr⟩ := Kd.R_form HO.out (by omega)
      cases er
      obtain ⟨hx, hf⟩ := Kd.R_celln (0 : Int) HO.out ((R.length - 1 : Nat) : Int) (by omega) (by omega)
      have hL := HL.out
      have hw : wrap64 ((R.length : Int) - 1) = ((R.length - 1 : Nat) : Int) := by rw [wrap_id (by omega) (by omega)]; omega
      have hlt : decide (R.length - 1 < R.length) = true := decide_eq_true (by omega)
      have hlt2 : (R.length - 1 < R.length) = True := eq_true (by omega)
      have hS := HS.out (R.length - 1)
      have hrd : rdOf 0 R ((R.length - 1 : Nat) : Int) = R.getD (R.length - 1) 0 := by unfold rdOf; simp
      rw [hrd] at hx
      obtain ⟨z, hz0⟩ : ∃ z, R.getD (R.length - 1) 0 = z := ⟨_, rfl⟩
      rw [hz0] at hx hS e
      have hx2 : w.cell? ⟨gr, R.length - 1, none⟩ = some (.int .i64 z) := by simpa using hx
      have hf2 : w.frozen? ⟨gr, R.length - 1, none⟩ = false := by simpa using hf
      have hsum : wrap64 (z + n) = z + n := wrap_id (by omega) (by omega)
      have HP := Aside0.mk (fun nd : Nat => Kd.R_putg (W := w.drewN nd) (Kd.R_drewN HO.out nd) ((R.length - 1 : Nat) : Int) (z + n))
      clear hrd hz0
      clear hS hL h0 h1 hx hf
      cases on
      · go_enter Try.func45, Try.ntmps45
        go_wp2_with (first | (go_at_fn F; refine calls_of_args (args' := #[.bool x, .bool y]) (by first | rfl | simp) ?_; (refine (hF' _).mono ?_); rintro e w1 ⟨rfl, ⟨nd, rfl⟩⟩))
        go_end0
        rw [e]
        exact ⟨rfl, jp_end2 (w := w.drewN nd) (Kd.R_drewN HO.out _) (blk_drewN BO.out _) (blk_drewN BI.out _) GE.out (HP.out nd).1 (below_set (pw_below_drewN HB.out _) gb) (HP.out nd).2⟩
      · go_enter Try.func45, Try.ntmps45
        go_wp2_with (first | (go_at_fn F; refine calls_of_args (args' := #[.bool x, .bool y]) (by first | rfl | simp) ?_; (refine (hF' _).mono ?_); rintro e w1 ⟨rfl, ⟨nd, rfl⟩⟩))
        go_end0
        rw [e]
        exact ⟨rfl, jp_end2 (w := w.drewN nd) (Kd.R_drewN HO.out _) (blk_drewN BO.out _) (blk_drewN BI.out _) GE.out (HP.out nd).1 (below_set (pw_below_drewN HB.out _) gb) (HP.out nd).2⟩
    · have hm : (((R.length : Int) % 2) == 0) = !on := by rw [Bool.eq_iff_iff]; cases on <;> simp at h1 ⊢ <;> omega
      have e : push R on n = R ++ [n] := by unfold push; rw [if_neg (fun h => h0 h.1), if_neg (fun h => h1 h.2)]
      clear h0 h1
      cases on
      · go_enter Try.func45, Try.ntmps45
        go_wp2_with (first | (go_at_fn F; refine calls_of_args (args' := #[.bool x, .bool y]) (by first | rfl | simp) ?_; (refine (hF' _).mono ?_); rintro e w1 ⟨rfl, ⟨nd, rfl⟩⟩) | ((with_reducible refine gate_builtin (b := .append) (xs := #[.tmp 18, .tmp 20]) rfl ?_); at_builtin; refine Kd.R_append (Kd.int .i64) (w0 := w0) w0.heap.size rfl (.tmp 18) (.tmp 20) 22 3 (.int .i64 0) 8 rfl hu info3 rfl (by decide) (by omega) (.slice A R.length c) R n [.int .i64 n] (fun _ => True) (fun _ => False) rfl rfl ?aP (fun _ hk => hk.elim) ?aF ?aO ?aB ?aS ?aL ?_; (case aP => exact rfl); (case aF => exact (fun _ _ => trivial)); (case aO => exact Kd.R_drewN HO.out _); (case aB => exact pw_below_drewN HB.out _); (case aS => exact below_size (pw_below_drewN HB.out _)); (case aL => have := HL.out; omega); intro v2 w2 ho hb hg hat; have HO2 := Aside0.mk ho; have HB2 := Aside0.mk hb; have HG2 := Aside0.mk hg; have b2 := jp_mid (gi := gi) (go := go) (s := s) HO.out BO.out (by decide) (fun _ _ h => blk_drewN h _) hg; obtain ⟨A2, c2, e2⟩ := Kd.R_slice ho; subst e2; have hcy : w2.cell? ⟨go, 1, none⟩ = some (.slice A R.length c) := (blk_cell b2 1).trans rfl; have hfy := blk_frozen b2 1; clear ho hb hg hat b2))
        go_end0
        rw [e]
        have ho2 := HO2.out
        rw [List.length_append, List.length_singleton] at ho2
        exact ⟨rfl, jp_end HO.out BO.out BI.out GE.out (fun _ _ h => blk_drewN h _) ho2 HB2.out HG2.out⟩
      · go_enter Try.func45, Try.ntmps45
        go_wp2_with (first | (go_at_fn F; refine calls_of_args (args' := #[.bool x, .bool y]) (by first | rfl | simp) ?_; (refine (hF' _).mono ?_); rintro e w1 ⟨rfl, ⟨nd, rfl⟩⟩) | ((with_reducible refine gate_builtin (b := .append) (xs := #[.tmp 18, .tmp 20]) rfl ?_); at_builtin; refine Kd.R_append (Kd.int .i64) (w0 := w0) w0.heap.size rfl (.tmp 18) (.tmp 20) 22 3 (.int .i64 0) 8 rfl hu info3 rfl (by decide) (by omega) (.slice A R.length c) R n [.int .i64 n] (fun _ => True) (fun _ => False) rfl rfl ?aP (fun _ hk => hk.elim) ?aF ?aO ?aB ?aS ?aL ?_; (case aP => exact rfl); (case aF => exact (fun _ _ => trivial)); (case aO => exact Kd.R_drewN HO.out _); (case aB => exact pw_below_drewN HB.out _); (case aS => exact below_size (pw_below_drewN HB.out _)); (case aL => have := HL.out; omega); intro v2 w2 ho hb hg hat; have HO2 := Aside0.mk ho; have HB2 := Aside0.mk hb; have HG2 := Aside0.mk hg; have b2 := jp_mid (gi := gi) (go := go) (s := s) HO.out BO.out (by decide) (fun _ _ h => blk_drewN h _) hg; obtain ⟨A2, c2, e2⟩ := Kd.R_slice ho; subst e2; have hcy : w2.cell? ⟨go, 1, none⟩ = some (.slice A R.length c) := (blk_cell b2 1).trans rfl; have hfy := blk_frozen b2 1; clear ho hb hg hat b2))
        go_end0
        rw [e]
        have ho2 := HO2.out
        rw [List.length_append, List.length_singleton] at ho2
        exact ⟨rfl, jp_end HO.out BO.out BI.out GE.out (fun _ _ h => blk_drewN h _) ho2 HB2.out HG2.out⟩
theorem ty_ne {w : World} {g g' t t' : Nat} {cs cs' : Array Value} (h : w.heap[g]? = some (.cells cs t (0, 0))) (h' : w.heap[g']? = some (.cells cs' t' (0, 0))) (ht : t ≠ t') : g ≠ g' := by
  rintro rfl
  rw [h] at h'
  injection h' with h'
  injection h' with _ h'
  exact ht h'
theorem jp_below {w0 w w' : World} {go gi : Nat} {s : Int} {F : FuncId} {R : List Int} (h : JP w0 go gi s F w R) (hb : Below w.heap.size w w') : JP w0 go gi s F w' R := by
  obtain ⟨v, h1, h2, h3, h4, h5⟩ := h
  exact ⟨v, Kd.R_below h1 hb, blk_below h2 hb, blk_below h3 hb, below_step h4 hb, h5⟩
theorem jp_keep {w0 w w' : World} {go gi g : Nat} {s : Int} {F : FuncId} {R : List Int} {cs : Array Value} (h : JP w0 go gi s F w R) (hk : KeepBut w w' g none) (hb : w.heap[g]? = some (.cells cs 79 (0, 0))) (hB : Below w0.heap.size w0 w') : JP w0 go gi s F w' R := by
  obtain ⟨v, h1, h2, h3, h4, h5⟩ := h
  refine ⟨v, Kd.R_mono (Kd.R_keep (Kd.R_types h1 hb (fun q hq => ?_)) hk (fun _ h => h.2)) (fun _ h => h.1), hk.blk h2 (ty_ne h2 hb (by decide)) (by simp), hk.blk h3 (ty_ne h3 hb (by decide)) (by simp), hB, h5⟩
  have : q = 3 := by simpa [Kd.int, Kd.scalar] using hq
  rw [this]; decide
theorem jp_drewN {w0 w : World} {go gi : Nat} {s : Int} {F : FuncId} {R : List Int} (h : JP w0 go gi s F w R) (n : Nat) : JP w0 go gi s F (w.drewN n) R := by
  obtain ⟨v, h1, h2, h3, h4, h5⟩ := h
  exact ⟨v, Kd.R_drewN h1 n, blk_drewN h2 n, blk_drewN h3 n, pw_below_drewN h4 n, h5⟩
/-- a cursor's block -/
abbrev Cur (w : World) (g : Nat) (A : Option Addr) (l : List Int) (c p : Nat) (x : Int) : Prop := w.heap[g]? = some (.cells #[.slice A l.length c, .int .i64 p, .int .i64 x] 79 (0, 0))
set_option maxHeartbeats 8000000 in
theorem on_calls (l : List Int) (A : Option Addr) (c g : Nat) (w : World) (p : Nat) (x : Int) (hb : Cur w g A l c p x) :
    Calls Try.prog 59 #[.pointer (some ⟨g, 0, none⟩)] w fun e w' => e = .returned (.bool (decide (p % 2 = 0))) ∧ Drawn0 w w' := by
  have hcz1 : w.cell? ⟨g, 1, none⟩ = some (.int .i64 p) := (blk_cell hb 1).trans rfl
  have hm : (((p : Int) % 2) == 0) = decide (p % 2 = 0) := by rw [Bool.eq_iff_iff]; simp; omega
  go_enter Try.func59, Try.ntmps59
  go_wp2
  go_ret
  exact ⟨by simp [hm], by repeat (first | exact Drawn0.refl _ | apply Drawn0.step)⟩
end Go.Proofs.Ytibnkopdkfjgpaa.Q


/- bitmap.join by hand, second part: both, join. -/
namespace Go.Proofs.Ytibnkopdkfjgpaa.Q
open Go.RowKit Go.Proofs.YtibnkopdkfjgpaaW.PrintWords Go.Proofs.YtibnkopdkfjgpaaW.PrintLast Go.Proofs.YtibnkopdkfjgpaaW.PrintMore
open Bm
attribute [local go_sem] max2_int min2_int max_two min_two
theorem rem_pos {l : List Int} {p : Nat} {x : Int} (h : 0 < x) : rem l p x ≠ [] := by
  unfold rem
  obtain ⟨m, hm⟩ : ∃ m, x.toNat = m + 1 := ⟨x.toNat - 1, by omega⟩
  rw [hm, List.replicate_succ]; simp
theorem jp_drew {w0 w : World} {go gi : Nat} {s : Int} {F : FuncId} {R : List Int} (h : JP w0 go gi s F w R) : JP w0 go gi s F w.drew R := by
  obtain ⟨v, h1, h2, h3, h4, h5⟩ := h
  exact ⟨v, Kd.R_drew h1, blk_drew h2, blk_drew h3, below_drew1 h4, h5⟩
theorem exp_le {R : List Int} {f : Bool → Bool → Bool} {W X Y : List Bool} (h : exp false R ++ W = List.zipWith f X Y) : (exp false R).length ≤ X.length := by
  have := congrArg List.length h
  rw [List.length_append, List.length_zipWith] at this
  omega
theorem rem_len {l : List Int} {p : Nat} {x n : Int} (h0 : 0 ≤ n) (h1 : n ≤ x) : (rem l p x).length = n.toNat + (rem l p (x - n)).length := by
  rw [rem_take h0 h1, List.length_append, List.length_replicate]
theorem jp_ne {w0 w : World} {go gi g : Nat} {s : Int} {F : FuncId} {R : List Int} {cs : Array Value} (h : JP w0 go gi s F w R) (hb : w.heap[g]? = some (.cells cs 79 (0, 0))) : g ≠ go := by
  obtain ⟨v, _, h2, _⟩ := h
  exact ty_ne hb h2 (by decide)
theorem oth_keep {w w1 w2 : World} {go g : Nat} (h : Others w w1 go) (hk : KeepBut w1 w2 g none) (hg : w.heap.size ≤ g) : Others w w2 go :=
  fun g' cs t h1 h2 h3 => hk.blk (h g' cs t h1 h2 h3) (by have := blk_lt h1; omega) (by simp)
theorem oth_below {w w1 : World} {go : Nat} (h : Below w.heap.size w w1) : Others w w1 go := fun _ _ _ h1 _ _ => blk_below h1 h
theorem oth_drew {w w1 : World} {go : Nat} (h : Others w w1 go) : Others w w1.drew go := fun g' cs t h1 h2 h3 => blk_drew (h g' cs t h1 h2 h3)
theorem fin_R {R : List Int} {f : Bool → Bool → Bool} {X Y Z : List Bool} (hc : Canon R) (h : exp false R ++ List.zipWith f X Y = Z) (he : X = [] ∨ Y = []) : enc Z = R := by
  have hz : List.zipWith f X Y = [] := by rcases he with rfl | rfl <;> simp
  rw [hz, List.append_nil] at h
  rw [← h]; exact enc_exp hc
theorem nx_false {l : List Int} {p' : Nat} {x' : Int} {b : Bool} (h : p' ≤ l.length ∧ 0 ≤ x' ∧ x' ≤ 1048576 ∧ rem l p' x' = [] ∧ (b = true → 0 < x') ∧ (b = false → ([] : List Bool) = [])) : b = false := by
  cases b
  · rfl
  · exact absurd h.2.2.2.1 (rem_pos (h.2.2.2.2.1 rfl))
theorem nx_true {l : List Int} {p' : Nat} {x' : Int} {b : Bool} {X : List Bool} (hX : X ≠ []) (h : p' ≤ l.length ∧ 0 ≤ x' ∧ x' ≤ 1048576 ∧ rem l p' x' = X ∧ (b = true → 0 < x') ∧ (b = false → X = [])) : b = true := by
  cases b
  · exact absurd (h.2.2.2.2.2 rfl) hX
  · rfl
set_option maxHeartbeats 8000000 in
set_option maxRecDepth 100000 in
theorem both_calls (F : FuncId) (f : Bool → Bool → Bool) (eg : ∀ args w, (callFunc F args).run Try.prog w = .ok (.enter F args) w) (hF : ∀ x y w, Calls Try.prog F #[.bool x, .bool y] w fun e w' => e = .returned (.bool (f x y)) ∧ Drawn0 w w')
    (w0 w : World) (go gi : Nat) (s : Int) (la lb : List Int) (A B : Option Addr) (ca cb : Nat) (hA : Kd.C (Kd.int .i64) w0 A la.length la) (hBb : Kd.C (Kd.int .i64) w0 B lb.length lb)
    (hla : ∀ i : Nat, i < la.length → 0 ≤ rd la (i : Int) ∧ rd la (i : Int) ≤ 1048576) (hlb : ∀ i : Nat, i < lb.length → 0 ≤ rd lb (i : Int) ∧ rd lb (i : Int) ≤ 1048576)
    (hLa : la.length ≤ 1099511627776) (hLb : lb.length ≤ 1099511627776) (hT : (exp false la).length ≤ 1048576) (hJ : JP w0 go gi s F w []) :
    Calls Try.prog 44 #[.slice A la.length ca, .slice B lb.length cb, .func (.func 45) #[] #[.pointer (some ⟨gi, 0, none⟩), .pointer (some ⟨go, 0, none⟩)]] w fun e w' => e = .returned (.tuple #[]) ∧ JP w0 go gi s F w' (enc (List.zipWith f (exp false la) (exp false lb))) ∧ Others w w' go := by
  have HA := Aside0.mk hA
  have HBb := Aside0.mk hBb
  have HLA := Aside0.mk (And.intro hla hLa)
  have HLB := Aside0.mk (And.intro hlb hLb)
  have HJ := Aside0.mk hJ
  have HT := Aside0.mk hT
  clear hA hBb hla hlb hLa hLb hJ hT
  go_enter Try.func44, Try.ntmps44
  go_wp2_with (first | ((with_reducible refine gate_dst (N := 11) rfl ?_); refine box_event ?hg (N := 11) ?hd (cs := #[.slice A la.length ca, .int .i64 (0 : Nat), .int .i64 0]) (t := 79) ?hr ?_; (case hd => rfl); (case hg => rfl); (case hr => first | (go_simp; done) | (go_simp; rfl)); intro gp hgp w1 hbp hb1; have HP1 := Aside0.mk (And.intro hgp (And.intro hbp hb1)); clear hgp hbp hb1) | ((with_reducible refine gate_dst (N := 14) rfl ?_); refine box_event ?hg (N := 14) ?hd (cs := #[.slice B lb.length cb, .int .i64 (0 : Nat), .int .i64 0]) (t := 79) ?hr ?_; (case hd => rfl); (case hg => rfl); (case hr => first | (go_simp; done) | (go_simp; rfl)); intro gq hgq w2 hbq hb2; have HP2 := Aside0.mk (And.intro hgq (And.intro hbq hb2)); clear hgq hbq hb2))
  obtain ⟨hgp, hbp, hb1⟩ := HP1.out
  obtain ⟨hgq, hbq, hb2⟩ := HP2.out
  have hpq : gp ≠ gq := by have := blk_lt hbp; omega
  have HN := Aside0.mk hpq
  have J2 := Aside0.mk (jp_below HJ.out (below_step hb1 hb2))
  have OT0 : Aside0 (Others w w2 go) := ⟨oth_below (below_step hb1 hb2)⟩
  have GWP : Aside0 (w.heap.size ≤ gp) := ⟨by omega⟩
  have GWQ : Aside0 (w.heap.size ≤ gq) := ⟨by have := blk_lt hbp; omega⟩
  have BP0 : Aside0 (Cur w2 gp A la ca 0 0) := ⟨blk_below hbp hb2⟩
  have BQ0 : Aside0 (Cur w2 gq B lb cb 0 0) := ⟨hbq⟩
  have GP : Aside0 (w0.heap.size ≤ gp) := ⟨by obtain ⟨v, _, _, _, h4, _⟩ := HJ.out; have := h4.size; omega⟩
  have GQ : Aside0 (w0.heap.size ≤ gq) := ⟨by have := GP.out; have := blk_lt hbp; omega⟩
  have R0 : ∀ (l : List Int), rem l 0 0 = exp false l := fun l => by unfold rem; simp
  have HI : Aside0 (Canon [] ∧ exp false [] ++ List.zipWith f (rem la 0 0) (rem lb 0 0) = List.zipWith f (exp false la) (exp false lb) ∧ (rem la 0 0).length + (rem lb 0 0).length ≤ (exp false la).length + (exp false lb).length) :=
    ⟨trivial, by rw [R0, R0]; rfl, by rw [R0, R0]; exact Nat.le_refl _⟩
  clear hgp hbp hb1 hgq hbq hb2 hpq R0 HP1 HP2 HJ
  go_loopg [] ((exp false la).length + (exp false lb).length) (fun k wr => ∃ (p : Nat) (x : Int) (q : Nat) (y : Int) (R : List Int), Aside0 (p ≤ la.length ∧ 0 ≤ x ∧ x ≤ 1048576 ∧ q ≤ lb.length ∧ 0 ≤ y ∧ y ≤ 1048576) ∧ Aside0 (Canon R ∧ exp false R ++ List.zipWith f (rem la p x) (rem lb q y) = List.zipWith f (exp false la) (exp false lb) ∧ (rem la p x).length + (rem lb q y).length ≤ k) ∧ Aside0 (JP w0 go gi s F wr R) ∧ Aside0 (Cur wr gp A la ca p x) ∧ Aside0 (Cur wr gq B lb cb q y) ∧ Aside0 (Others w wr go))
  case atStart => exact ⟨0, 0, 0, 0, [], ⟨by omega⟩, HI, J2, BP0, BQ0, OT0⟩
  case round =>
    clear HI J2 BP0 BQ0 OT0
    obtain ⟨p, x, q, y, R, HX, HI, HJ, BP, BQ, OT⟩ := hrel
    by_cases c1 : rem la p x = []
    · have C1 := Aside0.mk c1
      clear c1
      go_wp2_with (go_at_call 58; refine calls_of_args (args' := #[.pointer (some ⟨gp, 0, none⟩)]) (by first | rfl | simp) ?_; refine (next_calls la A ca HLA.out.1 HLA.out.2 gp w0 _ p x HX.out.2.1 HX.out.2.2.1 HX.out.1 GP.out BP.out HA.out (by obtain ⟨v, _, _, _, h4, _⟩ := HJ.out; exact h4)).mono ?_; rintro e w1 ⟨b, p1, x1, rfl, hP⟩; have J1 := Aside0.mk (jp_keep HJ.out hP.2.2.2 BP.out hP.2.2.1); have OT1 := Aside0.mk (oth_keep OT.out hP.2.2.2 GWP.out); obtain rfl : b = false := (by have h1 := hP.1; rw [C1.out] at h1; exact nx_false h1); clear hP)
      go_end0
      exact ⟨rfl, by rw [fin_R HI.out.1 HI.out.2.1 (.inl C1.out)]; exact J1.out, OT1.out⟩
    · have C1 := Aside0.mk c1
      clear c1
      by_cases c2 : rem lb q y = []
      · have C2 := Aside0.mk c2
        clear c2
        go_wp2_with (first | (go_at_call 58; refine calls_of_args (args' := #[.pointer (some ⟨gp, 0, none⟩)]) (by with_reducible rfl) ?_; refine (next_calls la A ca HLA.out.1 HLA.out.2 gp w0 _ p x HX.out.2.1 HX.out.2.2.1 HX.out.1 GP.out BP.out HA.out (by obtain ⟨v, _, _, _, h4, _⟩ := HJ.out; exact h4)).mono ?_; rintro e w1 ⟨b, p1, x1, rfl, hP⟩; have J1 := Aside0.mk (jp_keep HJ.out hP.2.2.2 BP.out hP.2.2.1); have OT1 := Aside0.mk (oth_keep OT.out hP.2.2.2 GWP.out); have BQ1 : Aside0 (Cur w1 gq B lb cb q y) := ⟨KeepBut.blk hP.2.2.2 BQ.out HN.out.symm (by simp)⟩; have P1 := Aside0.mk hP; obtain rfl : b = true := nx_true C1.out hP.1; clear hP) | (go_at_call 58; refine calls_of_args (args' := #[.pointer (some ⟨gq, 0, none⟩)]) (by with_reducible rfl) ?_; refine (next_calls lb B cb HLB.out.1 HLB.out.2 gq w0 _ q y HX.out.2.2.2.2.1 HX.out.2.2.2.2.2 HX.out.2.2.2.1 GQ.out BQ1.out HBb.out P1.out.2.2.1).mono ?_; rintro e w2 ⟨b, q1, y1, rfl, hQ⟩; have J2 := Aside0.mk (jp_keep J1.out hQ.2.2.2 BQ1.out hQ.2.2.1); have OT2 := Aside0.mk (oth_keep OT1.out hQ.2.2.2 GWQ.out); obtain rfl : b = false := (by have h1 := hQ.1; rw [C2.out] at h1; exact nx_false h1); clear hQ))
        go_end0
        exact ⟨rfl, by rw [fin_R HI.out.1 HI.out.2.1 (.inr C2.out)]; exact J2.out, OT2.out⟩
      · have C2 := Aside0.mk c2
        clear c2
        go_wp2_with (first | (go_at_call 58; refine calls_of_args (args' := #[.pointer (some ⟨gp, 0, none⟩)]) (by with_reducible rfl) ?_; refine (next_calls la A ca HLA.out.1 HLA.out.2 gp w0 _ p x HX.out.2.1 HX.out.2.2.1 HX.out.1 GP.out BP.out HA.out (by obtain ⟨v, _, _, _, h4, _⟩ := HJ.out; exact h4)).mono ?_; rintro e w1 ⟨b, p1, x1, rfl, hP⟩; have J1 := Aside0.mk (jp_keep HJ.out hP.2.2.2 BP.out hP.2.2.1); have OT1 := Aside0.mk (oth_keep OT.out hP.2.2.2 GWP.out); have BQ1 : Aside0 (Cur w1 gq B lb cb q y) := ⟨KeepBut.blk hP.2.2.2 BQ.out HN.out.symm (by simp)⟩; have P1 := Aside0.mk hP; obtain rfl : b = true := nx_true C1.out hP.1; clear hP) | (go_at_call 58; refine calls_of_args (args' := #[.pointer (some ⟨gq, 0, none⟩)]) (by with_reducible rfl) ?_; refine (next_calls lb B cb HLB.out.1 HLB.out.2 gq w0 _ q y HX.out.2.2.2.2.1 HX.out.2.2.2.2.2 HX.out.2.2.2.1 GQ.out BQ1.out HBb.out P1.out.2.2.1).mono ?_; rintro e w2 ⟨b, q1, y1, rfl, hQ⟩; have J2 := Aside0.mk (jp_keep J1.out hQ.2.2.2 BQ1.out hQ.2.2.1); have OT2 := Aside0.mk (oth_keep OT1.out hQ.2.2.2 GWQ.out); have Q1 := Aside0.mk hQ; obtain rfl : b = true := nx_true C2.out hQ.1; have BP2 : Aside0 (Cur w2 gp A la ca p1 x1) := ⟨KeepBut.blk hQ.2.2.2 P1.out.2.1 HN.out (by simp)⟩; have hca : w2.cell? ⟨gp, 2, none⟩ = some (.int .i64 x1) := (blk_cell BP2.out 2).trans rfl; have hcb : w2.cell? ⟨gq, 2, none⟩ = some (.int .i64 y1) := (blk_cell Q1.out.2.1 2).trans rfl; clear hQ))
        go_region
        obtain ⟨n, hn⟩ : ∃ n, (if y1 < x1 then y1 else x1) = n := ⟨_, rfl⟩
        rw [hn]
        obtain ⟨ha1, ha2, ha3, ha4, ha5, ha6⟩ := P1.out.1
        obtain ⟨hb1, hb2, hb3, hb4, hb5, hb6⟩ := Q1.out.1
        have ha7 := ha5 rfl
        have hb7 := hb5 rfl
        have HNN : Aside0 (1 ≤ n ∧ n ≤ x1 ∧ n ≤ y1 ∧ n ≤ 1048576 ∧ p1 ≤ la.length ∧ x1 ≤ 1048576 ∧ q1 ≤ lb.length ∧ y1 ≤ 1048576) := ⟨by rw [← hn]; split <;> omega⟩
        have hwx : wrap64 (x1 - n) = x1 - n := by have := HNN.out; exact wrap_id (by omega) (by omega)
        have hwy : wrap64 (y1 - n) = y1 - n := by have := HNN.out; exact wrap_id (by omega) (by omega)
        have HRL : Aside0 (R.length ≤ 4194304 ∧ ∀ i : Nat, 0 ≤ R.getD i 0 ∧ R.getD i 0 ≤ 1048576) := ⟨by
          have h1 := exp_le HI.out.2.1
          have h2 := canon_len HI.out.1
          have h3 := HT.out
          refine ⟨by omega, fun i => ⟨rd_nonneg HI.out.1 i, ?_⟩⟩
          have := rd_le_exp HI.out.1 i
          omega⟩
        have HIN : Aside0 (Canon (push R (f (decide (p1 % 2 = 0)) (decide (q1 % 2 = 0))) n) ∧ exp false (push R (f (decide (p1 % 2 = 0)) (decide (q1 % 2 = 0))) n) ++ List.zipWith f (rem la p1 (x1 - n)) (rem lb q1 (y1 - n)) = List.zipWith f (exp false la) (exp false lb) ∧ (rem la p1 (x1 - n)).length + (rem lb q1 (y1 - n)).length < gk) := ⟨by
          have hN := HNN.out
          have h1 := HI.out.2.1
          rw [← ha4, ← hb4] at h1
          have h2 := both_step HI.out.1 hN.1 hN.2.1 hN.2.2.1 h1
          have h3 := HI.out.2.2
          rw [← ha4, ← hb4, rem_len (n := n) (by omega) hN.2.1, rem_len (l := lb) (n := n) (by omega) hN.2.2.1] at h3
          exact ⟨h2.1, h2.2, by omega⟩⟩
        have J3 := Aside0.mk (jp_drew J2.out)
        have OT3 := Aside0.mk (oth_drew OT2.out)
        have BP3 : Aside0 (Cur w2.drew gp A la ca p1 x1) := ⟨blk_drew BP2.out⟩
        have BQ3 : Aside0 (Cur w2.drew gq B lb cb q1 y1) := ⟨blk_drew Q1.out.2.1⟩
        clear hn ha1 ha2 ha3 ha4 ha5 ha6 ha7 hb1 hb2 hb3 hb4 hb5 hb6 hb7 hca hcb P1 Q1 BP2 J2 BQ1 J1 C1 C2 HX HJ BP BQ OT OT1 OT2
        generalize w2.drew = w3 at *
        have hnpq := HN.out
        have hnqp := HN.out.symm
        go_wp2_with (first | (go_at_call 59; refine calls_of_args (args' := #[.pointer (some ⟨gp, 0, none⟩)]) (by with_reducible rfl) ?_; refine (on_calls la A ca gp _ p1 x1 (by first | exact BP3.out | exact blk_drewN BP3.out _ | exact blk_drewN (blk_drewN BP3.out _) _)).mono ?_; rintro e w4 ⟨rfl, ⟨nd, rfl⟩⟩) | (go_at_call 59; refine calls_of_args (args' := #[.pointer (some ⟨gq, 0, none⟩)]) (by with_reducible rfl) ?_; refine (on_calls lb B cb gq _ q1 y1 (by first | exact BQ3.out | exact blk_drewN BQ3.out _ | exact blk_drewN (blk_drewN BQ3.out _) _)).mono ?_; rintro e w4 ⟨rfl, ⟨nd, rfl⟩⟩) | (go_at_call 45; refine calls_of_args (args' := #[.bool (decide (p1 % 2 = 0)), .bool (decide (q1 % 2 = 0)), .int .i64 n, .pointer (some ⟨gi, 0, none⟩), .pointer (some ⟨go, 0, none⟩)]) (by first | rfl | simp) ?_; refine (join1_calls F f eg hF w0 _ go gi s R _ _ n (by first | exact J3.out | exact jp_drewN J3.out _ | exact jp_drewN (jp_drewN J3.out _) _) HNN.out.1 HNN.out.2.2.2.1 HRL.out.1 HRL.out.2).mono ?_; rintro e w4 ⟨rfl, hJ4, hO4⟩; have J4 := Aside0.mk hJ4; have BP4 : Aside0 (Cur w4 gp A la ca p1 x1) := ⟨hO4 gp _ _ (by first | exact BP3.out | exact blk_drewN BP3.out _ | exact blk_drewN (blk_drewN BP3.out _) _) (by decide) (jp_ne J3.out BP3.out)⟩; have BQ4 : Aside0 (Cur w4 gq B lb cb q1 y1) := ⟨hO4 gq _ _ (by first | exact BQ3.out | exact blk_drewN BQ3.out _ | exact blk_drewN (blk_drewN BQ3.out _) _) (by decide) (jp_ne J3.out BQ3.out)⟩; have OT4 : Aside0 (Others w w4 go) := ⟨fun g' cs t h1 h2 h3 => hO4 g' cs t (by first | exact OT3.out g' cs t h1 h2 h3 | exact blk_drewN (OT3.out g' cs t h1 h2 h3) _ | exact blk_drewN (blk_drewN (OT3.out g' cs t h1 h2 h3) _) _) h2 h3⟩; clear hJ4 hO4; have hda : w4.cell? ⟨gp, 2, none⟩ = some (.int .i64 x1) := (blk_cell BP4.out 2).trans rfl; have hdb : w4.cell? ⟨gq, 2, none⟩ = some (.int .i64 y1) := (blk_cell BQ4.out 2).trans rfl; have hfa := blk_frozen BP4.out 2; have hfb := blk_frozen BQ4.out 2))
        obtain ⟨m, rfl⟩ : ∃ m, gk = m + 1 := ⟨gk - 1, by have := HIN.out.2.2; omega⟩
        go_roundg m
        case rel =>
          have hN := HNN.out
          refine ⟨p1, x1 - n, q1, y1 - n, push R (f (decide (p1 % 2 = 0)) (decide (q1 % 2 = 0))) n, ⟨by omega, by omega, by omega, by omega, by omega, by omega⟩, ⟨HIN.out.1, HIN.out.2.1, by have := HIN.out.2.2; omega⟩, ?_, ?_, ?_, ⟨oth_keep (oth_keep OT4.out ((KeepBut.refl _ _ _).set_ _ _) GWP.out) ((KeepBut.refl _ _ _).set_ _ _) GWQ.out⟩⟩
          · obtain ⟨v, _, _, _, h4, _⟩ := J4.out
            have k1 : KeepBut w4 (w4.setCell ⟨gp, 2, none⟩ (.int .i64 (x1 - n))) gp none := (KeepBut.refl _ _ _).set_ _ _
            have q4 := blk_far (p := ⟨gp, 2, none⟩) BQ4.out HN.out.symm (.int .i64 (x1 - n))
            have j1 := jp_keep J4.out k1 BP4.out (below_set h4 GP.out)
            exact ⟨jp_keep j1 ((KeepBut.refl _ _ _).set_ _ _) q4 (below_set (below_set h4 GP.out) GQ.out)⟩
          · have := blk_set BP4.out 2 (.int .i64 (x1 - n))
            exact ⟨blk_far (by simpa using this) HN.out _⟩
          · have q4 := blk_far (p := ⟨gp, 2, none⟩) BQ4.out HN.out.symm (.int .i64 (x1 - n))
            have := blk_set q4 2 (.int .i64 (y1 - n))
            exact ⟨by simpa using this⟩
        case measure => omega
end Go.Proofs.Ytibnkopdkfjgpaa.Q


/- bitmap.join by hand, third part: join; Or, And, AndNot. -/
namespace Go.Proofs.Ytibnkopdkfjgpaa.Q
open Go.RowKit Go.Proofs.YtibnkopdkfjgpaaW.PrintWords Go.Proofs.YtibnkopdkfjgpaaW.PrintLast Go.Proofs.YtibnkopdkfjgpaaW.PrintMore
open Bm
theorem exp_len {s : Int} {l : List Int} (h : vd s l = true) : ((exp false l).length : Int) = s := by
  obtain ⟨_, _, hc, ht⟩ := vd_iff.1 h
  have := exp_length l false (canon_nonneg hc)
  omega
def joinB (f : Bool → Bool → Bool) (s : Int) (a : List Int) (u : Int) (b : List Int) : Int × List Int :=
  if (vd s a && (vd u b && decide (s = u))) = true then (s, enc (List.zipWith f (exp false a) (exp false b))) else (0, [])
theorem vd_rd {s : Int} {l : List Int} (h : vd s l = true) : (∀ i : Nat, i < l.length → 0 ≤ rd l (i : Int) ∧ rd l (i : Int) ≤ 1048576) ∧ l.length ≤ 1099511627776 ∧ (exp false l).length ≤ 1048576 := by
  have h1 := exp_len h
  obtain ⟨_, h2, hc, _⟩ := vd_iff.1 h
  have h3 := canon_len hc
  refine ⟨fun i hi => ?_, by omega, by omega⟩
  have e : rd l (i : Int) = l.getD i 0 := by unfold rd; simp
  have h4 := rd_nonneg hc i
  have h5 := rd_le_exp hc i
  rw [e]; omega
set_option maxHeartbeats 8000000 in
set_option maxRecDepth 100000 in
theorem join_calls (F : FuncId) (f : Bool → Bool → Bool) (eg : ∀ args w, (callFunc F args).run Try.prog w = .ok (.enter F args) w) (hF : ∀ x y w, Calls Try.prog F #[.bool x, .bool y] w fun e w' => e = .returned (.bool (f x y)) ∧ Drawn0 w w')
    (w : World) (s u : Int) (la lb : List Int) (A B : Option Addr) (ca cb : Nat) (hA : Kd.C (Kd.int .i64) w A la.length la) (hca : la.length ≤ ca) (hB : Kd.C (Kd.int .i64) w B lb.length lb) (hcb : lb.length ≤ cb) (hLa : la.length ≤ 1099511627776) (hLb : lb.length ≤ 1099511627776) :
    Calls Try.prog 29 #[.agg #[.int .i64 s, .slice A la.length ca], .agg #[.int .i64 u, .slice B lb.length cb], .func (.func F) #[] #[]] w fun e w' => ∃ v, e = .returned (.agg #[.int .i64 (joinB f s la u lb).1, v]) ∧ Kd.R (Kd.int .i64) 3 w' w.heap.size (fun _ => True) v (joinB f s la u lb).2 ∧ Below w.heap.size w w' := by
  obtain ⟨k1, hv1⟩ := Valid_ev s la hLa
  obtain ⟨k2, hv2⟩ := Valid_ev u lb hLb
  have V1 := Aside0.mk (hv1 _ (Nat.le_refl _))
  have V2 := Aside0.mk (hv2 _ (Nat.le_refl _))
  have HA := Aside0.mk (And.intro hA hca)
  have HBb := Aside0.mk (And.intro hB hcb)
  clear hv1 hv2 hA hca hB hcb hLa hLb
  have hu25 := Try.underlying25
  by_cases h1 : vd s la = true
  · rw [h1] at V1
    by_cases h2 : vd u lb = true
    · rw [h2] at V2
      by_cases h3 : s = u
      · subst h3
        have e : joinB f s la s lb = (s, enc (List.zipWith f (exp false la) (exp false lb))) := by unfold joinB; rw [if_pos (by simp [h1, h2])]
        have R1 := Aside0.mk (vd_rd h1)
        have R2 := Aside0.mk (vd_rd h2)
        rw [e]
        clear e h1 h2
        go_enter Try.func29, Try.ntmps29
        go_wp2_with (first | ((with_reducible refine gate_dst (N := 3) rfl ?_); refine box_event ?hg (N := 3) ?hd (cs := #[.int .i64 s, .slice A la.length ca]) (t := 25) ?hr ?_; (case hd => rfl); (case hg => rfl); (case hr => first | (go_simp; done) | (go_simp; rfl)); intro g3 hg w3 hb hbl; have H3 := Aside0.mk (And.intro hg (And.intro hb hbl)); clear hg hb hbl) | ((with_reducible refine gate_dst (N := 4) rfl ?_); refine box_event ?hg (N := 4) ?hd (cs := #[.int .i64 s, .slice B lb.length cb]) (t := 25) ?hr ?_; (case hd => rfl); (case hg => rfl); (case hr => first | (go_simp; done) | (go_simp; rfl)); intro g4 hg w4 hb hbl; have H4 := Aside0.mk (And.intro hg (And.intro hb hbl)); clear hg hb hbl) | ((with_reducible refine gate_dst (N := 5) rfl ?_); refine box_event ?hg (N := 5) ?hd (cs := #[.func (.func F) #[] #[]]) (t := 45) ?hr ?_; (case hd => rfl); (case hg => rfl); (case hr => first | (go_simp; done) | (go_simp; rfl)); intro g5 hg w5 hb hbl; have H5 := Aside0.mk (And.intro hg (And.intro hb hbl)); clear hg hb hbl) | ((with_reducible refine gate_dst (N := 6) rfl ?_); refine box_event ?hg (N := 6) ?hd (cs := #[.int .i64 0, .slice none 0 0]) (t := 25) ?hr ?_; (case hd => rfl); (case hg => rfl); (case hr => first | (go_simp; done) | (go_simp; rfl)); intro g6 hg w6 hb hbl; have H6 := Aside0.mk (And.intro hg (And.intro hb hbl)); clear hg hb hbl; have L3 := Aside0.mk (below_step (below_step H4.out.2.2 H5.out.2.2) H6.out.2.2); have L4 := Aside0.mk (below_step H5.out.2.2 H6.out.2.2); have B3 := Aside0.mk (blk_below H3.out.2.1 L3.out); have B4 := Aside0.mk (blk_below H4.out.2.1 L4.out); have B5 := Aside0.mk (blk_below H5.out.2.1 H6.out.2.2); have B6 := Aside0.mk H6.out.2.1; have HB := Aside0.mk (below_step H3.out.2.2 L3.out); have hc30 : w6.cell? ⟨g3, 0, none⟩ = some (.int .i64 s) := (blk_cell B3.out 0).trans rfl; have hc31 : w6.cell? ⟨g3, 1, none⟩ = some (.slice A la.length ca) := (blk_cell B3.out 1).trans rfl; have hc40 : w6.cell? ⟨g4, 0, none⟩ = some (.int .i64 s) := (blk_cell B4.out 0).trans rfl; have GE6 : Aside0 (w.heap.size ≤ g6) := ⟨by have := H6.out.1; have := (below_step (below_step H3.out.2.2 H4.out.2.2) H5.out.2.2).size; omega⟩; have hc41 : w6.cell? ⟨g4, 1, none⟩ = some (.slice B lb.length cb) := (blk_cell B4.out 1).trans rfl) | (go_at_call 15; refine calls_of_args (args' := #[.agg #[.int .i64 s, .slice A la.length ca]]) (by with_reducible rfl) ?_; refine (bitmap_Valid.calls k1 s A ca la true w6 (Kd.C_below HA.out.1 HB.out) HA.out.2 V1.out).mono ?_; rintro e w7 ⟨rfl, hb7⟩; have L7 := Aside0.mk hb7; have B3_7 := Aside0.mk (blk_below B3.out hb7); have B4_7 := Aside0.mk (blk_below B4.out hb7); have B5_7 := Aside0.mk (blk_below B5.out hb7); have B6_7 := Aside0.mk (blk_below B6.out hb7); have HB7 := Aside0.mk (below_step HB.out hb7); have c30_7 : w7.cell? ⟨g3, 0, none⟩ = some (.int .i64 s) := (blk_cell B3_7.out 0).trans rfl; have c31_7 : w7.cell? ⟨g3, 1, none⟩ = some (.slice A la.length ca) := (blk_cell B3_7.out 1).trans rfl; have c40_7 : w7.cell? ⟨g4, 0, none⟩ = some (.int .i64 s) := (blk_cell B4_7.out 0).trans rfl; have c41_7 : w7.cell? ⟨g4, 1, none⟩ = some (.slice B lb.length cb) := (blk_cell B4_7.out 1).trans rfl; have c50_7 : w7.cell? ⟨g5, 0, none⟩ = some (.func (.func F) #[] #[]) := (blk_cell B5_7.out 0).trans rfl; have c60_7 : w7.cell? ⟨g6, 0, none⟩ = some (.int .i64 0) := (blk_cell B6_7.out 0).trans rfl; have c61_7 : w7.cell? ⟨g6, 1, none⟩ = some (.slice none 0 0) := (blk_cell B6_7.out 1).trans rfl; have f60_7 := blk_frozen B6_7.out 0; have f61_7 := blk_frozen B6_7.out 1; clear hb7) | (go_at_call 15; refine calls_of_args (args' := #[.agg #[.int .i64 s, .slice B lb.length cb]]) (by with_reducible rfl) ?_; refine (bitmap_Valid.calls k2 s B cb lb true w7 (Kd.C_below HBb.out.1 HB7.out) HBb.out.2 V2.out).mono ?_; rintro e w8 ⟨rfl, hb8⟩; have L8 := Aside0.mk hb8; have B3_8 := Aside0.mk (blk_below B3_7.out hb8); have B4_8 := Aside0.mk (blk_below B4_7.out hb8); have B5_8 := Aside0.mk (blk_below B5_7.out hb8); have B6_8 := Aside0.mk (blk_below B6_7.out hb8); have HB8 := Aside0.mk (below_step HB7.out hb8); have c30_8 : w8.cell? ⟨g3, 0, none⟩ = some (.int .i64 s) := (blk_cell B3_8.out 0).trans rfl; have c31_8 : w8.cell? ⟨g3, 1, none⟩ = some (.slice A la.length ca) := (blk_cell B3_8.out 1).trans rfl; have c40_8 : w8.cell? ⟨g4, 0, none⟩ = some (.int .i64 s) := (blk_cell B4_8.out 0).trans rfl; have c41_8 : w8.cell? ⟨g4, 1, none⟩ = some (.slice B lb.length cb) := (blk_cell B4_8.out 1).trans rfl; have c50_8 : w8.cell? ⟨g5, 0, none⟩ = some (.func (.func F) #[] #[]) := (blk_cell B5_8.out 0).trans rfl; have c60_8 : w8.cell? ⟨g6, 0, none⟩ = some (.int .i64 0) := (blk_cell B6_8.out 0).trans rfl; have c61_8 : w8.cell? ⟨g6, 1, none⟩ = some (.slice none 0 0) := (blk_cell B6_8.out 1).trans rfl; have f60_8 := blk_frozen B6_8.out 0; have f61_8 := blk_frozen B6_8.out 1; clear hb8) | ((with_reducible refine gate_dst (N := 7) rfl ?_); refine box_event ?hg (N := 7) ?hd (cs := #[.int .i64 0, .slice none 0 0]) (t := 25) ?hr ?_; (case hd => rfl); (case hg => rfl); (case hr => first | (go_simp; done) | (go_simp; rfl)); intro g7 hg7 w9 hb9 hl9; have B7_9 : Aside0 (w9.heap[g7]? = some (.cells #[.int .i64 0, .slice none 0 0] 25 (0, 0))) := ⟨hb9⟩; have B3_9 := Aside0.mk (blk_below B3_8.out hl9); have B4_9 := Aside0.mk (blk_below B4_8.out hl9); have B5_9 := Aside0.mk (blk_below B5_8.out hl9); have B6_9 := Aside0.mk (blk_below B6_8.out hl9); have HB9 := Aside0.mk (below_step HB8.out hl9); have GE7 : Aside0 (w.heap.size ≤ g7) := ⟨by have := HB8.out.size; omega⟩; have N67 : Aside0 (g6 ≠ g7) := ⟨by have := blk_lt B6_8.out; omega⟩; have N37 : Aside0 (g3 ≠ g7) := ⟨by have := blk_lt B3_8.out; omega⟩; have N47 : Aside0 (g4 ≠ g7) := ⟨by have := blk_lt B4_8.out; omega⟩; have n37 := N37.out; have n47 := N47.out; have n73 := N37.out.symm; have n74 := N47.out.symm; have c70_9 : w9.cell? ⟨g7, 0, none⟩ = some (.int .i64 0) := (blk_cell B7_9.out 0).trans rfl; have c71_9 : w9.cell? ⟨g7, 1, none⟩ = some (.slice none 0 0) := (blk_cell B7_9.out 1).trans rfl; have f70_9 := blk_frozen B7_9.out 0; have f71_9 := blk_frozen B7_9.out 1; have c31_9 : w9.cell? ⟨g3, 1, none⟩ = some (.slice A la.length ca) := (blk_cell B3_9.out 1).trans rfl; have c41_9 : w9.cell? ⟨g4, 1, none⟩ = some (.slice B lb.length cb) := (blk_cell B4_9.out 1).trans rfl; clear hg7 hb9 hl9) | ((go_at_call 44; refine calls_of_args (args' := #[.slice A la.length ca, .slice B lb.length cb, .func (.func 45) #[] #[.pointer (some ⟨g5, 0, none⟩), .pointer (some ⟨g7, 0, none⟩)]]) (by first | rfl | simp) ?_; have N57 := Aside0.mk (ty_ne B5_9.out B7_9.out (by decide)); have bW : Aside0 (((w9.setCell ⟨g7, 0, none⟩ (.int .i64 s)).setCell ⟨g7, 1, none⟩ (.slice none 0 0)).heap[g7]? = some (.cells #[.int .i64 s, .slice none 0 0] 25 (0, 0))) := ⟨(by have := blk_set (blk_set B7_9.out 0 (.int .i64 s)) 1 (.slice none 0 0); simpa using this)⟩; have b5W := Aside0.mk (blk_far (p := ⟨g7, 1, none⟩) (blk_far (p := ⟨g7, 0, none⟩) B5_9.out N57.out (.int .i64 s)) N57.out (.slice none 0 0)); have b6W := Aside0.mk (blk_far (p := ⟨g7, 1, none⟩) (blk_far (p := ⟨g7, 0, none⟩) B6_9.out N67.out (.int .i64 s)) N67.out (.slice none 0 0)); refine (both_calls F f eg hF w _ g7 g5 s la lb A B ca cb HA.out.1 HBb.out.1 R1.out.1 R2.out.1 R1.out.2.1 R2.out.2.1 R1.out.2.2 ⟨.slice none 0 0, Kd.R_nil _ _ _ _ _, bW.out, b5W.out, below_set (below_set HB9.out GE7.out) GE7.out, GE7.out⟩).mono ?_; rintro e w10 ⟨rfl, ⟨v, hR, b7, _, hBl, _⟩, hO⟩; have B6_10 : Aside0 (w10.heap[g6]? = some (.cells #[.int .i64 0, .slice none 0 0] 25 (0, 0))) := ⟨hO g6 _ _ b6W.out (by decide) N67.out⟩; obtain ⟨A2, c2, rfl⟩ := Kd.R_slice hR; have HR := Aside0.mk hR; have B7_10 := Aside0.mk b7; have HB10 := Aside0.mk hBl; clear hR b7 hBl hO; have c70_10 : w10.cell? ⟨g7, 0, none⟩ = some (.int .i64 s) := (blk_cell B7_10.out 0).trans rfl; have c71_10 : w10.cell? ⟨g7, 1, none⟩ = some (.slice A2 (enc (List.zipWith f (exp false la) (exp false lb))).length c2) := (blk_cell B7_10.out 1).trans rfl; have c60_10 : w10.cell? ⟨g6, 0, none⟩ = some (.int .i64 0) := (blk_cell B6_10.out 0).trans rfl; have c61_10 : w10.cell? ⟨g6, 1, none⟩ = some (.slice none 0 0) := (blk_cell B6_10.out 1).trans rfl; have f60_10 := blk_frozen B6_10.out 0; have f61_10 := blk_frozen B6_10.out 1)))
        have hq : ∀ q, q ∈ 3 :: (Kd.int .i64).E → q ≠ 25 := fun q hq => by
          have : q = 3 := by simpa [Kd.int, Kd.scalar] using hq
          rw [this]; decide
        have bF : ((w10.setCell ⟨g6, 0, none⟩ (.int .i64 s)).setCell ⟨g6, 1, none⟩ (.slice A2 (enc (List.zipWith f (exp false la) (exp false lb))).length c2)).heap[g6]? = some (.cells #[.int .i64 s, .slice A2 (enc (List.zipWith f (exp false la) (exp false lb))).length c2] 25 (0, 0)) := by
          have := blk_set (blk_set B6_10.out 0 (.int .i64 s)) 1 (.slice A2 (enc (List.zipWith f (exp false la) (exp false lb))).length c2)
          simpa using this
        refine bodyPost_ret (results_cell_row rfl _ _ g6 25 #[.int .i64 s, .slice A2 (enc (List.zipWith f (exp false la) (exp false lb))).length c2] (0, 0) _ rfl bF Try.underlying25 rfl (by kernel_rfl)) rfl ?_
        exact ⟨_, rfl, Kd.R_set (Kd.R_set HR.out B6_10.out hq 0 _) (blk_set B6_10.out 0 _) hq 1 _, below_set (below_set HB10.out GE6.out) GE6.out⟩
      · have e : joinB f s la u lb = (0, []) := by unfold joinB; rw [if_neg (by simp [h3])]
        have h3b : (s == u) = false := by simpa using h3
        rw [e]
        clear e h1 h2 h3
        go_enter Try.func29, Try.ntmps29
        go_wp2_with (first | ((with_reducible refine gate_dst (N := 3) rfl ?_); refine box_event ?hg (N := 3) ?hd (cs := #[.int .i64 s, .slice A la.length ca]) (t := 25) ?hr ?_; (case hd => rfl); (case hg => rfl); (case hr => first | (go_simp; done) | (go_simp; rfl)); intro g3 hg w3 hb hbl; have H3 := Aside0.mk (And.intro hg (And.intro hb hbl)); clear hg hb hbl) | ((with_reducible refine gate_dst (N := 4) rfl ?_); refine box_event ?hg (N := 4) ?hd (cs := #[.int .i64 u, .slice B lb.length cb]) (t := 25) ?hr ?_; (case hd => rfl); (case hg => rfl); (case hr => first | (go_simp; done) | (go_simp; rfl)); intro g4 hg w4 hb hbl; have H4 := Aside0.mk (And.intro hg (And.intro hb hbl)); clear hg hb hbl) | ((with_reducible refine gate_dst (N := 5) rfl ?_); refine box_event ?hg (N := 5) ?hd (cs := #[.func (.func F) #[] #[]]) (t := 45) ?hr ?_; (case hd => rfl); (case hg => rfl); (case hr => first | (go_simp; done) | (go_simp; rfl)); intro g5 hg w5 hb hbl; have H5 := Aside0.mk (And.intro hg (And.intro hb hbl)); clear hg hb hbl) | ((with_reducible refine gate_dst (N := 6) rfl ?_); refine box_event ?hg (N := 6) ?hd (cs := #[.int .i64 0, .slice none 0 0]) (t := 25) ?hr ?_; (case hd => rfl); (case hg => rfl); (case hr => first | (go_simp; done) | (go_simp; rfl)); intro g6 hg w6 hb hbl; have H6 := Aside0.mk (And.intro hg (And.intro hb hbl)); clear hg hb hbl; have L3 := Aside0.mk (below_step (below_step H4.out.2.2 H5.out.2.2) H6.out.2.2); have L4 := Aside0.mk (below_step H5.out.2.2 H6.out.2.2); have B3 := Aside0.mk (blk_below H3.out.2.1 L3.out); have B4 := Aside0.mk (blk_below H4.out.2.1 L4.out); have B5 := Aside0.mk (blk_below H5.out.2.1 H6.out.2.2); have B6 := Aside0.mk H6.out.2.1; have HB := Aside0.mk (below_step H3.out.2.2 L3.out); have hc30 : w6.cell? ⟨g3, 0, none⟩ = some (.int .i64 s) := (blk_cell B3.out 0).trans rfl; have hc31 : w6.cell? ⟨g3, 1, none⟩ = some (.slice A la.length ca) := (blk_cell B3.out 1).trans rfl; have hc40 : w6.cell? ⟨g4, 0, none⟩ = some (.int .i64 u) := (blk_cell B4.out 0).trans rfl; have GE6 : Aside0 (w.heap.size ≤ g6) := ⟨by have := H6.out.1; have := (below_step (below_step H3.out.2.2 H4.out.2.2) H5.out.2.2).size; omega⟩; have hc41 : w6.cell? ⟨g4, 1, none⟩ = some (.slice B lb.length cb) := (blk_cell B4.out 1).trans rfl) | (go_at_call 15; refine calls_of_args (args' := #[.agg #[.int .i64 s, .slice A la.length ca]]) (by with_reducible rfl) ?_; refine (bitmap_Valid.calls k1 s A ca la true w6 (Kd.C_below HA.out.1 HB.out) HA.out.2 V1.out).mono ?_; rintro e w7 ⟨rfl, hb7⟩; have L7 := Aside0.mk hb7; have B3_7 := Aside0.mk (blk_below B3.out hb7); have B4_7 := Aside0.mk (blk_below B4.out hb7); have B5_7 := Aside0.mk (blk_below B5.out hb7); have B6_7 := Aside0.mk (blk_below B6.out hb7); have HB7 := Aside0.mk (below_step HB.out hb7); have c30_7 : w7.cell? ⟨g3, 0, none⟩ = some (.int .i64 s) := (blk_cell B3_7.out 0).trans rfl; have c31_7 : w7.cell? ⟨g3, 1, none⟩ = some (.slice A la.length ca) := (blk_cell B3_7.out 1).trans rfl; have c40_7 : w7.cell? ⟨g4, 0, none⟩ = some (.int .i64 u) := (blk_cell B4_7.out 0).trans rfl; have c41_7 : w7.cell? ⟨g4, 1, none⟩ = some (.slice B lb.length cb) := (blk_cell B4_7.out 1).trans rfl; have c50_7 : w7.cell? ⟨g5, 0, none⟩ = some (.func (.func F) #[] #[]) := (blk_cell B5_7.out 0).trans rfl; have c60_7 : w7.cell? ⟨g6, 0, none⟩ = some (.int .i64 0) := (blk_cell B6_7.out 0).trans rfl; have c61_7 : w7.cell? ⟨g6, 1, none⟩ = some (.slice none 0 0) := (blk_cell B6_7.out 1).trans rfl; have f60_7 := blk_frozen B6_7.out 0; have f61_7 := blk_frozen B6_7.out 1; clear hb7) | (go_at_call 15; refine calls_of_args (args' := #[.agg #[.int .i64 u, .slice B lb.length cb]]) (by with_reducible rfl) ?_; refine (bitmap_Valid.calls k2 u B cb lb true w7 (Kd.C_below HBb.out.1 HB7.out) HBb.out.2 V2.out).mono ?_; rintro e w8 ⟨rfl, hb8⟩; have L8 := Aside0.mk hb8; have B3_8 := Aside0.mk (blk_below B3_7.out hb8); have B4_8 := Aside0.mk (blk_below B4_7.out hb8); have B5_8 := Aside0.mk (blk_below B5_7.out hb8); have B6_8 := Aside0.mk (blk_below B6_7.out hb8); have HB8 := Aside0.mk (below_step HB7.out hb8); have c30_8 : w8.cell? ⟨g3, 0, none⟩ = some (.int .i64 s) := (blk_cell B3_8.out 0).trans rfl; have c31_8 : w8.cell? ⟨g3, 1, none⟩ = some (.slice A la.length ca) := (blk_cell B3_8.out 1).trans rfl; have c40_8 : w8.cell? ⟨g4, 0, none⟩ = some (.int .i64 u) := (blk_cell B4_8.out 0).trans rfl; have c41_8 : w8.cell? ⟨g4, 1, none⟩ = some (.slice B lb.length cb) := (blk_cell B4_8.out 1).trans rfl; have c50_8 : w8.cell? ⟨g5, 0, none⟩ = some (.func (.func F) #[] #[]) := (blk_cell B5_8.out 0).trans rfl; have c60_8 : w8.cell? ⟨g6, 0, none⟩ = some (.int .i64 0) := (blk_cell B6_8.out 0).trans rfl; have c61_8 : w8.cell? ⟨g6, 1, none⟩ = some (.slice none 0 0) := (blk_cell B6_8.out 1).trans rfl; have f60_8 := blk_frozen B6_8.out 0; have f61_8 := blk_frozen B6_8.out 1; clear hb8))
        refine bodyPost_ret (results_cell_row rfl _ _ g6 25 #[.int .i64 0, .slice none 0 0] (0, 0) _ rfl (by (with_reducible repeat (first | refine blk_drewN ?_ _ | refine blk_drew ?_)); refine blk_put (cs := #[.int .i64 0, .slice none 0 0]) ?_ 1 _ rfl; refine blk_put (cs := #[.int .i64 0, .slice none 0 0]) ?_ 0 _ rfl; (with_reducible repeat (first | refine blk_drewN ?_ _ | refine blk_drew ?_)); exact B6_8.out) Try.underlying25 rfl (by kernel_rfl)) rfl ?_
        exact ⟨_, rfl, Kd.R_nil _ _ _ _ _, by repeat (first | (with_reducible first | exact HB8.out | apply pw_below_drewN | apply below_drew1 | refine below_set ?_ GE6.out) | exact HB8.out)⟩
    · rw [Bool.not_eq_true] at h2
      rw [h2] at V2
      have e : joinB f s la u lb = (0, []) := by unfold joinB; rw [if_neg (by simp [h2])]
      rw [e]
      clear e h1 h2
      go_enter Try.func29, Try.ntmps29
      go_wp2_with (first | ((with_reducible refine gate_dst (N := 3) rfl ?_); refine box_event ?hg (N := 3) ?hd (cs := #[.int .i64 s, .slice A la.length ca]) (t := 25) ?hr ?_; (case hd => rfl); (case hg => rfl); (case hr => first | (go_simp; done) | (go_simp; rfl)); intro g3 hg w3 hb hbl; have H3 := Aside0.mk (And.intro hg (And.intro hb hbl)); clear hg hb hbl) | ((with_reducible refine gate_dst (N := 4) rfl ?_); refine box_event ?hg (N := 4) ?hd (cs := #[.int .i64 u, .slice B lb.length cb]) (t := 25) ?hr ?_; (case hd => rfl); (case hg => rfl); (case hr => first | (go_simp; done) | (go_simp; rfl)); intro g4 hg w4 hb hbl; have H4 := Aside0.mk (And.intro hg (And.intro hb hbl)); clear hg hb hbl) | ((with_reducible refine gate_dst (N := 5) rfl ?_); refine box_event ?hg (N := 5) ?hd (cs := #[.func (.func F) #[] #[]]) (t := 45) ?hr ?_; (case hd => rfl); (case hg => rfl); (case hr => first | (go_simp; done) | (go_simp; rfl)); intro g5 hg w5 hb hbl; have H5 := Aside0.mk (And.intro hg (And.intro hb hbl)); clear hg hb hbl) | ((with_reducible refine gate_dst (N := 6) rfl ?_); refine box_event ?hg (N := 6) ?hd (cs := #[.int .i64 0, .slice none 0 0]) (t := 25) ?hr ?_; (case hd => rfl); (case hg => rfl); (case hr => first | (go_simp; done) | (go_simp; rfl)); intro g6 hg w6 hb hbl; have H6 := Aside0.mk (And.intro hg (And.intro hb hbl)); clear hg hb hbl; have L3 := Aside0.mk (below_step (below_step H4.out.2.2 H5.out.2.2) H6.out.2.2); have L4 := Aside0.mk (below_step H5.out.2.2 H6.out.2.2); have B3 := Aside0.mk (blk_below H3.out.2.1 L3.out); have B4 := Aside0.mk (blk_below H4.out.2.1 L4.out); have B5 := Aside0.mk (blk_below H5.out.2.1 H6.out.2.2); have B6 := Aside0.mk H6.out.2.1; have HB := Aside0.mk (below_step H3.out.2.2 L3.out); have hc30 : w6.cell? ⟨g3, 0, none⟩ = some (.int .i64 s) := (blk_cell B3.out 0).trans rfl; have hc31 : w6.cell? ⟨g3, 1, none⟩ = some (.slice A la.length ca) := (blk_cell B3.out 1).trans rfl; have hc40 : w6.cell? ⟨g4, 0, none⟩ = some (.int .i64 u) := (blk_cell B4.out 0).trans rfl; have GE6 : Aside0 (w.heap.size ≤ g6) := ⟨by have := H6.out.1; have := (below_step (below_step H3.out.2.2 H4.out.2.2) H5.out.2.2).size; omega⟩; have hc41 : w6.cell? ⟨g4, 1, none⟩ = some (.slice B lb.length cb) := (blk_cell B4.out 1).trans rfl) | (go_at_call 15; refine calls_of_args (args' := #[.agg #[.int .i64 s, .slice A la.length ca]]) (by with_reducible rfl) ?_; refine (bitmap_Valid.calls k1 s A ca la true w6 (Kd.C_below HA.out.1 HB.out) HA.out.2 V1.out).mono ?_; rintro e w7 ⟨rfl, hb7⟩; have L7 := Aside0.mk hb7; have B3_7 := Aside0.mk (blk_below B3.out hb7); have B4_7 := Aside0.mk (blk_below B4.out hb7); have B5_7 := Aside0.mk (blk_below B5.out hb7); have B6_7 := Aside0.mk (blk_below B6.out hb7); have HB7 := Aside0.mk (below_step HB.out hb7); have c30_7 : w7.cell? ⟨g3, 0, none⟩ = some (.int .i64 s) := (blk_cell B3_7.out 0).trans rfl; have c31_7 : w7.cell? ⟨g3, 1, none⟩ = some (.slice A la.length ca) := (blk_cell B3_7.out 1).trans rfl; have c40_7 : w7.cell? ⟨g4, 0, none⟩ = some (.int .i64 u) := (blk_cell B4_7.out 0).trans rfl; have c41_7 : w7.cell? ⟨g4, 1, none⟩ = some (.slice B lb.length cb) := (blk_cell B4_7.out 1).trans rfl; have c50_7 : w7.cell? ⟨g5, 0, none⟩ = some (.func (.func F) #[] #[]) := (blk_cell B5_7.out 0).trans rfl; have c60_7 : w7.cell? ⟨g6, 0, none⟩ = some (.int .i64 0) := (blk_cell B6_7.out 0).trans rfl; have c61_7 : w7.cell? ⟨g6, 1, none⟩ = some (.slice none 0 0) := (blk_cell B6_7.out 1).trans rfl; have f60_7 := blk_frozen B6_7.out 0; have f61_7 := blk_frozen B6_7.out 1; clear hb7) | (go_at_call 15; refine calls_of_args (args' := #[.agg #[.int .i64 u, .slice B lb.length cb]]) (by with_reducible rfl) ?_; refine (bitmap_Valid.calls k2 u B cb lb false w7 (Kd.C_below HBb.out.1 HB7.out) HBb.out.2 V2.out).mono ?_; rintro e w8 ⟨rfl, hb8⟩; have L8 := Aside0.mk hb8; have B6_8 := Aside0.mk (blk_below B6_7.out hb8); have HB8 := Aside0.mk (below_step HB7.out hb8); have c60_8 : w8.cell? ⟨g6, 0, none⟩ = some (.int .i64 0) := (blk_cell B6_8.out 0).trans rfl; have c61_8 : w8.cell? ⟨g6, 1, none⟩ = some (.slice none 0 0) := (blk_cell B6_8.out 1).trans rfl; have f60_8 := blk_frozen B6_8.out 0; have f61_8 := blk_frozen B6_8.out 1; clear hb8))
      refine bodyPost_ret (results_cell_row rfl _ _ g6 25 #[.int .i64 0, .slice none 0 0] (0, 0) _ rfl (by (with_reducible repeat (first | refine blk_drewN ?_ _ | refine blk_drew ?_)); refine blk_put (cs := #[.int .i64 0, .slice none 0 0]) ?_ 1 _ rfl; refine blk_put (cs := #[.int .i64 0, .slice none 0 0]) ?_ 0 _ rfl; (with_reducible repeat (first | refine blk_drewN ?_ _ | refine blk_drew ?_)); exact B6_8.out) Try.underlying25 rfl (by kernel_rfl)) rfl ?_
      exact ⟨_, rfl, Kd.R_nil _ _ _ _ _, by repeat (first | (with_reducible first | exact HB8.out | apply pw_below_drewN | apply below_drew1 | refine below_set ?_ GE6.out) | exact HB8.out)⟩
  · rw [Bool.not_eq_true] at h1
    rw [h1] at V1
    have e : joinB f s la u lb = (0, []) := by unfold joinB; rw [if_neg (by simp [h1])]
    rw [e]
    clear e h1
    go_enter Try.func29, Try.ntmps29
    go_wp2_with (first | ((with_reducible refine gate_dst (N := 3) rfl ?_); refine box_event ?hg (N := 3) ?hd (cs := #[.int .i64 s, .slice A la.length ca]) (t := 25) ?hr ?_; (case hd => rfl); (case hg => rfl); (case hr => first | (go_simp; done) | (go_simp; rfl)); intro g3 hg w3 hb hbl; have H3 := Aside0.mk (And.intro hg (And.intro hb hbl)); clear hg hb hbl) | ((with_reducible refine gate_dst (N := 4) rfl ?_); refine box_event ?hg (N := 4) ?hd (cs := #[.int .i64 u, .slice B lb.length cb]) (t := 25) ?hr ?_; (case hd => rfl); (case hg => rfl); (case hr => first | (go_simp; done) | (go_simp; rfl)); intro g4 hg w4 hb hbl; have H4 := Aside0.mk (And.intro hg (And.intro hb hbl)); clear hg hb hbl) | ((with_reducible refine gate_dst (N := 5) rfl ?_); refine box_event ?hg (N := 5) ?hd (cs := #[.func (.func F) #[] #[]]) (t := 45) ?hr ?_; (case hd => rfl); (case hg => rfl); (case hr => first | (go_simp; done) | (go_simp; rfl)); intro g5 hg w5 hb hbl; have H5 := Aside0.mk (And.intro hg (And.intro hb hbl)); clear hg hb hbl) | ((with_reducible refine gate_dst (N := 6) rfl ?_); refine box_event ?hg (N := 6) ?hd (cs := #[.int .i64 0, .slice none 0 0]) (t := 25) ?hr ?_; (case hd => rfl); (case hg => rfl); (case hr => first | (go_simp; done) | (go_simp; rfl)); intro g6 hg w6 hb hbl; have H6 := Aside0.mk (And.intro hg (And.intro hb hbl)); clear hg hb hbl; have L3 := Aside0.mk (below_step (below_step H4.out.2.2 H5.out.2.2) H6.out.2.2); have L4 := Aside0.mk (below_step H5.out.2.2 H6.out.2.2); have B3 := Aside0.mk (blk_below H3.out.2.1 L3.out); have B4 := Aside0.mk (blk_below H4.out.2.1 L4.out); have B5 := Aside0.mk (blk_below H5.out.2.1 H6.out.2.2); have B6 := Aside0.mk H6.out.2.1; have HB := Aside0.mk (below_step H3.out.2.2 L3.out); have hc30 : w6.cell? ⟨g3, 0, none⟩ = some (.int .i64 s) := (blk_cell B3.out 0).trans rfl; have hc31 : w6.cell? ⟨g3, 1, none⟩ = some (.slice A la.length ca) := (blk_cell B3.out 1).trans rfl; have hc40 : w6.cell? ⟨g4, 0, none⟩ = some (.int .i64 u) := (blk_cell B4.out 0).trans rfl; have GE6 : Aside0 (w.heap.size ≤ g6) := ⟨by have := H6.out.1; have := (below_step (below_step H3.out.2.2 H4.out.2.2) H5.out.2.2).size; omega⟩; have hc41 : w6.cell? ⟨g4, 1, none⟩ = some (.slice B lb.length cb) := (blk_cell B4.out 1).trans rfl) | (go_at_call 15; refine calls_of_args (args' := #[.agg #[.int .i64 s, .slice A la.length ca]]) (by with_reducible rfl) ?_; refine (bitmap_Valid.calls k1 s A ca la false w6 (Kd.C_below HA.out.1 HB.out) HA.out.2 V1.out).mono ?_; rintro e w7 ⟨rfl, hb7⟩; have L7 := Aside0.mk hb7; have B6_7 := Aside0.mk (blk_below B6.out hb7); have HB7 := Aside0.mk (below_step HB.out hb7); have c60_7 : w7.cell? ⟨g6, 0, none⟩ = some (.int .i64 0) := (blk_cell B6_7.out 0).trans rfl; have c61_7 : w7.cell? ⟨g6, 1, none⟩ = some (.slice none 0 0) := (blk_cell B6_7.out 1).trans rfl; have f60_7 := blk_frozen B6_7.out 0; have f61_7 := blk_frozen B6_7.out 1; clear hb7))
    refine bodyPost_ret (results_cell_row rfl _ _ g6 25 #[.int .i64 0, .slice none 0 0] (0, 0) _ rfl (by (with_reducible repeat (first | refine blk_drewN ?_ _ | refine blk_drew ?_)); refine blk_put (cs := #[.int .i64 0, .slice none 0 0]) ?_ 1 _ rfl; refine blk_put (cs := #[.int .i64 0, .slice none 0 0]) ?_ 0 _ rfl; (with_reducible repeat (first | refine blk_drewN ?_ _ | refine blk_drew ?_)); exact B6_7.out) Try.underlying25 rfl (by kernel_rfl)) rfl ?_
    exact ⟨_, rfl, Kd.R_nil _ _ _ _ _, by repeat (first | (with_reducible first | exact HB7.out | apply pw_below_drewN | apply below_drew1 | refine below_set ?_ GE6.out) | exact HB7.out)⟩
/-- Or: the answer of join -/
def bitmap_Or.f (a0_0 : Int) (l0_1 : List Int) (a1_0 : Int) (l1_1 : List Int) : Option (Int × List Int) := if l0_1.length ≤ 1099511627776 ∧ l1_1.length ≤ 1099511627776 then some (joinB (fun x y => x || y) a0_0 l0_1 a1_0 l1_1) else none
set_option maxHeartbeats 8000000 in
theorem bitmap_Or_1_at (x y : Bool) (w : World) : Calls Try.prog 30 #[.bool x, .bool y] w fun e w' => e = .returned (.bool ((fun x y => x || y) x y)) ∧ Drawn0 w w' := by
  refine bitmap_Or_1.calls x y _ w ?_
  cases x <;> cases y <;> rfl
set_option maxHeartbeats 8000000 in
set_option maxRecDepth 100000 in
theorem bitmap_Or.calls (a0_0 : Int) (A0_1 : Option Addr) (c0_1 : Nat) (l0_1 : List Int) (a1_0 : Int) (A1_1 : Option Addr) (c1_1 : Nat) (l1_1 : List Int) (r1 : Int) (r2 : List Int) (w : World) (hr0_1 : Kd.C (Kd.int .i64) w A0_1 l0_1.length l0_1) (hc0_1 : l0_1.length ≤ c0_1) (hr1_1 : Kd.C (Kd.int .i64) w A1_1 l1_1.length l1_1) (hc1_1 : l1_1.length ≤ c1_1) (h : bitmap_Or.f a0_0 l0_1 a1_0 l1_1 = some (r1, r2)) :
    Calls Try.prog 17 #[.agg #[.int .i64 a0_0, .slice A0_1 l0_1.length c0_1], .agg #[.int .i64 a1_0, .slice A1_1 l1_1.length c1_1]] w fun e w' => ∃ v1_ : Value, e = .returned (.agg #[.int .i64 r1, v1_]) ∧ Kd.R (Kd.int .i64) 3 w' w.heap.size (fun _ => True) v1_ r2 ∧ Below w.heap.size w w' := by
  unfold bitmap_Or.f at h
  by_cases hl : l0_1.length ≤ 1099511627776 ∧ l1_1.length ≤ 1099511627776
  · rw [if_pos hl] at h
    have e1 := Option.some.inj h
    obtain ⟨h1, h2⟩ := Prod.mk.inj (show ((joinB (fun x y => x || y) a0_0 l0_1 a1_0 l1_1).1, (joinB (fun x y => x || y) a0_0 l0_1 a1_0 l1_1).2) = (r1, r2) from e1)
    have HJ : Aside0 (∀ W, Below w.heap.size w W → Calls Try.prog 29 #[.agg #[.int .i64 a0_0, .slice A0_1 l0_1.length c0_1], .agg #[.int .i64 a1_0, .slice A1_1 l1_1.length c1_1], .func (.func 30) #[] #[]] W fun e w' => ∃ v, e = .returned (.agg #[.int .i64 r1, v]) ∧ Kd.R (Kd.int .i64) 3 w' W.heap.size (fun _ => True) v r2 ∧ Below W.heap.size W w') := ⟨fun W hb => by
      have := join_calls 30 (fun x y => x || y) (fun args w => enters_ Try.func30 rfl rfl args w) bitmap_Or_1_at W a0_0 a1_0 l0_1 l1_1 A0_1 A1_1 c0_1 c1_1 (Kd.C_below hr0_1 hb) hc0_1 (Kd.C_below hr1_1 hb) hc1_1 hl.1 hl.2
      rw [h1, h2] at this
      exact this⟩
    clear hr0_1 hc0_1 hr1_1 hc1_1 h hl e1 h1 h2
    have hu25 := Try.underlying25
    go_enter Try.func17, Try.ntmps17
    go_wp2_with (first | ((with_reducible refine gate_dst (N := 2) rfl ?_); refine box_event ?hg (N := 2) ?hd (cs := #[.int .i64 a0_0, .slice A0_1 l0_1.length c0_1]) (t := 25) ?hr ?_; (case hd => rfl); (case hg => rfl); (case hr => first | (go_simp; done) | (go_simp; rfl)); intro g2 hg w2 hb hbl; have H2 := Aside0.mk (And.intro hg (And.intro hb hbl)); clear hg hb hbl) | ((with_reducible refine gate_dst (N := 3) rfl ?_); refine box_event ?hg (N := 3) ?hd (cs := #[.int .i64 a1_0, .slice A1_1 l1_1.length c1_1]) (t := 25) ?hr ?_; (case hd => rfl); (case hg => rfl); (case hr => first | (go_simp; done) | (go_simp; rfl)); intro g3 hg w3 hb hbl; have H3 := Aside0.mk (And.intro hg (And.intro hb hbl)); clear hg hb hbl) | ((with_reducible refine gate_dst (N := 4) rfl ?_); refine box_event ?hg (N := 4) ?hd (cs := #[.int .i64 0, .slice none 0 0]) (t := 25) ?hr ?_; (case hd => rfl); (case hg => rfl); (case hr => first | (go_simp; done) | (go_simp; rfl)); intro g4 hg w4 hb hbl; have H4 := Aside0.mk (And.intro hg (And.intro hb hbl)); clear hg hb hbl; have HB := Aside0.mk (below_step (below_step H2.out.2.2 H3.out.2.2) H4.out.2.2); have GE4 : Aside0 (w.heap.size ≤ g4) := ⟨by have := H4.out.1; have := (below_step H2.out.2.2 H3.out.2.2).size; omega⟩; have B2 := Aside0.mk (blk_below H2.out.2.1 (below_step H3.out.2.2 H4.out.2.2)); have B3 := Aside0.mk (blk_below H3.out.2.1 H4.out.2.2); have c20 : w4.cell? ⟨g2, 0, none⟩ = some (.int .i64 a0_0) := (blk_cell B2.out 0).trans rfl; have c21 : w4.cell? ⟨g2, 1, none⟩ = some (.slice A0_1 l0_1.length c0_1) := (blk_cell B2.out 1).trans rfl; have c30 : w4.cell? ⟨g3, 0, none⟩ = some (.int .i64 a1_0) := (blk_cell B3.out 0).trans rfl; have c31 : w4.cell? ⟨g3, 1, none⟩ = some (.slice A1_1 l1_1.length c1_1) := (blk_cell B3.out 1).trans rfl) | (go_at_call 29; refine calls_of_args (args' := #[.agg #[.int .i64 a0_0, .slice A0_1 l0_1.length c0_1], .agg #[.int .i64 a1_0, .slice A1_1 l1_1.length c1_1], .func (.func 30) #[] #[]]) (by first | rfl | simp) ?_; refine (HJ.out w4 HB.out).mono ?_; rintro e w5 ⟨v, rfl, hR, hb5⟩; obtain ⟨A2, c2, rfl⟩ := Kd.R_slice hR; have HR := Aside0.mk hR; have HB5 := Aside0.mk hb5; have B4 : Aside0 (w5.heap[g4]? = some (.cells #[.int .i64 0, .slice none 0 0] 25 (0, 0))) := ⟨blk_below H4.out.2.1 hb5⟩; clear hR hb5; have c40 : w5.cell? ⟨g4, 0, none⟩ = some (.int .i64 0) := (blk_cell B4.out 0).trans rfl; have c41 : w5.cell? ⟨g4, 1, none⟩ = some (.slice none 0 0) := (blk_cell B4.out 1).trans rfl; have f40 := blk_frozen B4.out 0; have f41 := blk_frozen B4.out 1))
    have hq : ∀ q, q ∈ 3 :: (Kd.int .i64).E → q ≠ 25 := fun q hq => by
      have : q = 3 := by simpa [Kd.int, Kd.scalar] using hq
      rw [this]; decide
    have bF : ((w5.setCell ⟨g4, 0, none⟩ (.int .i64 r1)).setCell ⟨g4, 1, none⟩ (.slice A2 r2.length c2)).heap[g4]? = some (.cells #[.int .i64 r1, .slice A2 r2.length c2] 25 (0, 0)) := by
      have := blk_set (blk_set B4.out 0 (.int .i64 r1)) 1 (.slice A2 r2.length c2)
      simpa using this
    refine bodyPost_ret (results_cell_row rfl _ _ g4 25 #[.int .i64 r1, .slice A2 r2.length c2] (0, 0) _ rfl bF Try.underlying25 rfl (by kernel_rfl)) rfl ?_
    exact ⟨_, rfl, Kd.R_lower (Kd.R_set (Kd.R_set HR.out B4.out hq 0 _) (blk_set B4.out 0 _) hq 1 _) HB.out.size, below_set (below_set (below_step HB.out HB5.out) GE4.out) GE4.out⟩
  · rw [if_neg hl] at h; cases h
/-- AndNot: the answer of join -/
def bitmap_AndNot.f (a0_0 : Int) (l0_1 : List Int) (a1_0 : Int) (l1_1 : List Int) : Option (Int × List Int) := if l0_1.length ≤ 1099511627776 ∧ l1_1.length ≤ 1099511627776 then some (joinB (fun x y => x && !y) a0_0 l0_1 a1_0 l1_1) else none
set_option maxHeartbeats 8000000 in
theorem bitmap_AndNot_1_at (x y : Bool) (w : World) : Calls Try.prog 34 #[.bool x, .bool y] w fun e w' => e = .returned (.bool ((fun x y => x && !y) x y)) ∧ Drawn0 w w' := by
  refine bitmap_AndNot_1.calls x y _ w ?_
  cases x <;> cases y <;> rfl
set_option maxHeartbeats 8000000 in
set_option maxRecDepth 100000 in
theorem bitmap_AndNot.calls (a0_0 : Int) (A0_1 : Option Addr) (c0_1 : Nat) (l0_1 : List Int) (a1_0 : Int) (A1_1 : Option Addr) (c1_1 : Nat) (l1_1 : List Int) (r1 : Int) (r2 : List Int) (w : World) (hr0_1 : Kd.C (Kd.int .i64) w A0_1 l0_1.length l0_1) (hc0_1 : l0_1.length ≤ c0_1) (hr1_1 : Kd.C (Kd.int .i64) w A1_1 l1_1.length l1_1) (hc1_1 : l1_1.length ≤ c1_1) (h : bitmap_AndNot.f a0_0 l0_1 a1_0 l1_1 = some (r1, r2)) :
    Calls Try.prog 21 #[.agg #[.int .i64 a0_0, .slice A0_1 l0_1.length c0_1], .agg #[.int .i64 a1_0, .slice A1_1 l1_1.length c1_1]] w fun e w' => ∃ v1_ : Value, e = .returned (.agg #[.int .i64 r1, v1_]) ∧ Kd.R (Kd.int .i64) 3 w' w.heap.size (fun _ => True) v1_ r2 ∧ Below w.heap.size w w' := by
  unfold bitmap_AndNot.f at h
  by_cases hl : l0_1.length ≤ 1099511627776 ∧ l1_1.length ≤ 1099511627776
  · rw [if_pos hl] at h
    have e1 := Option.some.inj h
    obtain ⟨h1, h2⟩ := Prod.mk.inj (show ((joinB (fun x y => x && !y) a0_0 l0_1 a1_0 l1_1).1, (joinB (fun x y => x && !y) a0_0 l0_1 a1_0 l1_1).2) = (r1, r2) from e1)
    have HJ : Aside0 (∀ W, Below w.heap.size w W → Calls Try.prog 29 #[.agg #[.int .i64 a0_0, .slice A0_1 l0_1.length c0_1], .agg #[.int .i64 a1_0, .slice A1_1 l1_1.length c1_1], .func (.func 34) #[] #[]] W fun e w' => ∃ v, e = .returned (.agg #[.int .i64 r1, v]) ∧ Kd.R (Kd.int .i64) 3 w' W.heap.size (fun _ => True) v r2 ∧ Below W.heap.size W w') := ⟨fun W hb => by
      have := join_calls 34 (fun x y => x && !y) (fun args w => enters_ Try.func34 rfl rfl args w) bitmap_AndNot_1_at W a0_0 a1_0 l0_1 l1_1 A0_1 A1_1 c0_1 c1_1 (Kd.C_below hr0_1 hb) hc0_1 (Kd.C_below hr1_1 hb) hc1_1 hl.1 hl.2
      rw [h1, h2] at this
      exact this⟩
    clear hr0_1 hc0_1 hr1_1 hc1_1 h hl e1 h1 h2
    have hu25 := Try.underlying25
    go_enter Try.func21, Try.ntmps21
    go_wp2_with (first | ((with_reducible refine gate_dst (N := 2) rfl ?_); refine box_event ?hg (N := 2) ?hd (cs := #[.int .i64 a0_0, .slice A0_1 l0_1.length c0_1]) (t := 25) ?hr ?_; (case hd => rfl); (case hg => rfl); (case hr => first | (go_simp; done) | (go_simp; rfl)); intro g2 hg w2 hb hbl; have H2 := Aside0.mk (And.intro hg (And.intro hb hbl)); clear hg hb hbl) | ((with_reducible refine gate_dst (N := 3) rfl ?_); refine box_event ?hg (N := 3) ?hd (cs := #[.int .i64 a1_0, .slice A1_1 l1_1.length c1_1]) (t := 25) ?hr ?_; (case hd => rfl); (case hg => rfl); (case hr => first | (go_simp; done) | (go_simp; rfl)); intro g3 hg w3 hb hbl; have H3 := Aside0.mk (And.intro hg (And.intro hb hbl)); clear hg hb hbl) | ((with_reducible refine gate_dst (N := 4) rfl ?_); refine box_event ?hg (N := 4) ?hd (cs := #[.int .i64 0, .slice none 0 0]) (t := 25) ?hr ?_; (case hd => rfl); (case hg => rfl); (case hr => first | (go_simp; done) | (go_simp; rfl)); intro g4 hg w4 hb hbl; have H4 := Aside0.mk (And.intro hg (And.intro hb hbl)); clear hg hb hbl; have HB := Aside0.mk (below_step (below_step H2.out.2.2 H3.out.2.2) H4.out.2.2); have GE4 : Aside0 (w.heap.size ≤ g4) := ⟨by have := H4.out.1; have := (below_step H2.out.2.2 H3.out.2.2).size; omega⟩; have B2 := Aside0.mk (blk_below H2.out.2.1 (below_step H3.out.2.2 H4.out.2.2)); have B3 := Aside0.mk (blk_below H3.out.2.1 H4.out.2.2); have c20 : w4.cell? ⟨g2, 0, none⟩ = some (.int .i64 a0_0) := (blk_cell B2.out 0).trans rfl; have c21 : w4.cell? ⟨g2, 1, none⟩ = some (.slice A0_1 l0_1.length c0_1) := (blk_cell B2.out 1).trans rfl; have c30 : w4.cell? ⟨g3, 0, none⟩ = some (.int .i64 a1_0) := (blk_cell B3.out 0).trans rfl; have c31 : w4.cell? ⟨g3, 1, none⟩ = some (.slice A1_1 l1_1.length c1_1) := (blk_cell B3.out 1).trans rfl) | (go_at_call 29; refine calls_of_args (args' := #[.agg #[.int .i64 a0_0, .slice A0_1 l0_1.length c0_1], .agg #[.int .i64 a1_0, .slice A1_1 l1_1.length c1_1], .func (.func 34) #[] #[]]) (by first | rfl | simp) ?_; refine (HJ.out w4 HB.out).mono ?_; rintro e w5 ⟨v, rfl, hR, hb5⟩; obtain ⟨A2, c2, rfl⟩ := Kd.R_slice hR; have HR := Aside0.mk hR; have HB5 := Aside0.mk hb5; have B4 : Aside0 (w5.heap[g4]? = some (.cells #[.int .i64 0, .slice none 0 0] 25 (0, 0))) := ⟨blk_below H4.out.2.1 hb5⟩; clear hR hb5; have c40 : w5.cell? ⟨g4, 0, none⟩ = some (.int .i64 0) := (blk_cell B4.out 0).trans rfl; have c41 : w5.cell? ⟨g4, 1, none⟩ = some (.slice none 0 0) := (blk_cell B4.out 1).trans rfl; have f40 := blk_frozen B4.out 0; have f41 := blk_frozen B4.out 1))
    have hq : ∀ q, q ∈ 3 :: (Kd.int .i64).E → q ≠ 25 := fun q hq => by
      have : q = 3 := by simpa [Kd.int, Kd.scalar] using hq
      rw [this]; decide
    have bF : ((w5.setCell ⟨g4, 0, none⟩ (.int .i64 r1)).setCell ⟨g4, 1, none⟩ (.slice A2 r2.length c2)).heap[g4]? = some (.cells #[.int .i64 r1, .slice A2 r2.length c2] 25 (0, 0)) := by
      have := blk_set (blk_set B4.out 0 (.int .i64 r1)) 1 (.slice A2 r2.length c2)
      simpa using this
    refine bodyPost_ret (results_cell_row rfl _ _ g4 25 #[.int .i64 r1, .slice A2 r2.length c2] (0, 0) _ rfl bF Try.underlying25 rfl (by kernel_rfl)) rfl ?_
    exact ⟨_, rfl, Kd.R_lower (Kd.R_set (Kd.R_set HR.out B4.out hq 0 _) (blk_set B4.out 0 _) hq 1 _) HB.out.size, below_set (below_set (below_step HB.out HB5.out) GE4.out) GE4.out⟩
  · rw [if_neg hl] at h; cases h
end Go.Proofs.Ytibnkopdkfjgpaa.Q


namespace Go.Proofs.Ytibnkopdkfjgpaa.Q
open Go.RowKit Go.Proofs.YtibnkopdkfjgpaaW.PrintWords Go.Proofs.YtibnkopdkfjgpaaW.PrintLast Go.Proofs.YtibnkopdkfjgpaaW.PrintMore
attribute [local go_sem] max2_int min2_int max_two min_two max_three min_three max_four min_four   -- for this text's walks alone

end Go.Proofs.Ytibnkopdkfjgpaa.Q


/- Bitmaps: the sets that two of them make, and their reference's. -/
namespace Go.Proofs.Ytibnkopdkfjgpaa.Q
open Go.RowKit Go.Proofs.YtibnkopdkfjgpaaW.PrintWords Go.Proofs.YtibnkopdkfjgpaaW.PrintLast Go.Proofs.YtibnkopdkfjgpaaW.PrintMore
open Bm
theorem lst_len {s : Int} {l : List Int} : (lst s l).length ≤ 1048576 := by
  unfold lst bitsOf
  split
  · rename_i h
    have h1 := exp_len h
    have h2 := pos_length (exp false l) 0
    have h3 := List.count_le_length (a := true) (l := exp false l)
    have := (vd_iff.1 h).2.1
    omega
  · simp
theorem mem_posB {m : List Bool} {j : Nat} (h : j < m.length) : decide ((j : Int) ∈ pos 0 m) = m.getD j false := by
  rw [Bool.eq_iff_iff, decide_eq_true_eq, mem_pos]
  simp
  omega
theorem zip_getD {f : Bool → Bool → Bool} {a b : List Bool} (h : a.length = b.length) {j : Nat} (hj : j < a.length) : (List.zipWith f a b).getD j false = f (a.getD j false) (b.getD j false) := by
  rw [List.getD_eq_getElem?_getD, List.getD_eq_getElem?_getD, List.getD_eq_getElem?_getD, List.getElem?_zipWith, List.getElem?_eq_getElem hj, List.getElem?_eq_getElem (by omega)]
  rfl
theorem Has_l0 (l : List Int) (x : Int) (hL : l.length ≤ 1099511627776) : ∀ (t : List Int) (i : Nat), l.drop i = t → Ev (fun k => graftageref27_Has.l0 k l x i) (decide (x ∈ t))
  | [], i, ht => by
    have := drop_end ht
    exact Ev.step (f := ?_) (fun k => by rw [graftageref27_Has.l0, if_neg (by omega)]) (ev_eq (Ev.now _) (by simp))
  | r :: t, i, ht => by
    obtain ⟨hlt, hr, ht2⟩ := drop_at ht
    have e1 : wrap64 ((i : Int) + 1) = ((i + 1 : Nat) : Int) := by rw [wrap_id (by omega) (by omega)]; omega
    refine Ev.step (f := ?_) (fun k => by rw [graftageref27_Has.l0, if_pos (by omega), if_pos (by omega), hr, e1]) ?_
    refine ev_ite (fun g => ev_eq (Ev.now _) (by simp [g])) (fun g => ?_)
    refine ev_eq (Has_l0 l x hL t (i + 1) ht2) ?_
    rw [Bool.eq_iff_iff]
    simp
    intro e; exact absurd e.symm g
theorem Has_ev (l : List Int) (x : Int) (hL : l.length ≤ 1099511627776) : Ev (fun k => graftageref27_Has.f k l x) (decide (x ∈ l)) := by
  exact_mod_cast Has_l0 l x hL l 0 rfl
end Go.Proofs.Ytibnkopdkfjgpaa.Q


namespace Go.Proofs.Ytibnkopdkfjgpaa.Q
open Go.RowKit Go.Proofs.YtibnkopdkfjgpaaW.PrintWords Go.Proofs.YtibnkopdkfjgpaaW.PrintLast Go.Proofs.YtibnkopdkfjgpaaW.PrintMore
attribute [local go_sem] max2_int min2_int max_two min_two max_three min_three max_four min_four   -- for this text's walks alone

def slices_Index_string_string.l0 : Nat → List ByteArray → ByteArray → Int → Int → Option (Int)
 | 0, _, _, _, _ => none
 | k + 1, x0, x1, x7, x8 => if x8 < x7 then (if 0 ≤ x8 then (if x8 < (x0.length : Int) then (if x1.toList = (rdOf ByteArray.empty x0 x8).toList then (some x8) else (slices_Index_string_string.l0 k x0 x1 x7 (wrap64 (x8 + 1)))) else (none)) else (none)) else (some (-1))
def slices_Index_string_string.f (k : Nat) (l0 : List ByteArray) (a1 : ByteArray) : Option (Int) := slices_Index_string_string.l0 k l0 a1 (l0.length : Int) 0
set_option maxHeartbeats 8000000 in
set_option maxRecDepth 100000 in
theorem slices_Index_string_string.calls (k : Nat) (A0 : Option Addr) (c0 : Nat) (l0 : List ByteArray) (a1 : ByteArray) (r : Int) (w : World) (hr0 : Kd.C Kd.string w A0 l0.length l0) (hc0 : l0.length ≤ c0) (h : slices_Index_string_string.f k l0 a1 = some r) :
  Calls Try.prog 40 #[.slice A0 l0.length c0, .string a1] w fun e w' => e = .returned (.int .i64 r) ∧ Drawn0 w w' := by
 have HR0 := Aside0.mk hr0; have HC0 := Aside0.mk hc0; clear hr0 hc0; unfold slices_Index_string_string.f at h; have H := h; clear h; have H' := Aside0.mk H; clear H; go_enter Try.func40, Try.ntmps40; go_wp2
 go_loopg [8] k (fun kq v8 w' => ∃ (x8_1 : Int), v8 = .int .i64 x8_1 ∧ Aside0 (slices_Index_string_string.l0 kq l0 a1 (l0.length : Int) x8_1 = some r) ∧ Aside0 (kq ≤ k) ∧ Drawn0 w w')
 case atStart => exact ⟨(0), z0_, H', ⟨Nat.le_refl _⟩, z3_⟩
 case round =>
  clear H'; try clear p2
  obtain ⟨x8_1, rfl, HA, HK1, ⟨m1, rfl⟩⟩ := hrel
  cases gk with
  | zero => exact absurd HA.out (by simp [slices_Index_string_string.l0])
  | succ k1 =>
   have H := HA.out; clear HA; simp only [slices_Index_string_string.l0] at H; by_cases c3 : x8_1 < (l0.length : Int); rotate_left
   ·rw [if_neg c3] at H; have c3b0 := df_ c3; clear c3; obtain rfl := oi_ H; go_wp2
    go_ret
    exact ⟨z0_, z3_⟩
   rw [if_pos c3] at H; have c3b0 := dt_ c3; clear c3; by_cases c4 : 0 ≤ x8_1; rotate_left
   ·rw [if_neg c4] at H; exact no_ H
   rw [if_pos c4] at H; have c4b0 := dt_ c4; clear c4; by_cases c5 : x8_1 < (l0.length : Int); rotate_left
   ·rw [if_neg c5] at H; exact no_ H
   rw [if_pos c5] at H; have c5b0 := dt_ c5; clear c5; by_cases c6 : a1.toList = (rdOf ByteArray.empty l0 x8_1).toList
   ·rw [if_pos c6] at H; have c6b0 := et_ c6; have c6b1 := nf_ c6; clear c6; obtain rfl := oi_ H; have p126 : 0 ≤ (x8_1 : Int) := y0_; have q126 : x8_1 < (l0.length : Int) := y0_; obtain ⟨ad126, e126, hx126_0⟩ := Kd.at_string HR0.out x8_1 p126 q126
    cases e126
    replace p126 := eq_true p126; replace q126 := eq_true q126; go_wp2
    go_ret
    exact ⟨z0_, z3_⟩
   rw [if_neg c6] at H; have c6b0 := ef_ c6; have c6b1 := nt_ c6; have H' := Aside0.mk H; clear H; have p126 : 0 ≤ (x8_1 : Int) := y0_; have q126 : x8_1 < (l0.length : Int) := y0_; obtain ⟨ad126, e126, hx126_0⟩ := Kd.at_string HR0.out x8_1 p126 q126
   cases e126
   replace p126 := eq_true p126; replace q126 := eq_true q126; go_wp2
   go_roundg k1
   case measure => have := HK1.out; omega
   case rel => exact ⟨(wrap64 (x8_1 + 1)), z0_, H', ⟨by have := HK1.out; omega⟩, z3_⟩


def slices_Index_int_int.l0 : Nat → List Int → Int → Int → Int → Option (Int)
 | 0, _, _, _, _ => none
 | k + 1, x0, x1, x7, x8 => if x8 < x7 then (if 0 ≤ x8 then (if x8 < (x0.length : Int) then (if x1 = (rd x0 x8) then (some x8) else (slices_Index_int_int.l0 k x0 x1 x7 (wrap64 (x8 + 1)))) else (none)) else (none)) else (some (-1))
def slices_Index_int_int.f (k : Nat) (l0 : List Int) (a1 : Int) : Option (Int) := slices_Index_int_int.l0 k l0 a1 (l0.length : Int) 0
set_option maxHeartbeats 8000000 in
set_option maxRecDepth 100000 in
theorem slices_Index_int_int.calls (k : Nat) (A0 : Option Addr) (c0 : Nat) (l0 : List Int) (a1 : Int) (r : Int) (w : World) (hr0 : Kd.C (Kd.int .i64) w A0 l0.length l0) (hc0 : l0.length ≤ c0) (h : slices_Index_int_int.f k l0 a1 = some r) :
  Calls Try.prog 64 #[.slice A0 l0.length c0, .int .i64 a1] w fun e w' => e = .returned (.int .i64 r) ∧ Drawn0 w w' := by
 have HR0 := Aside0.mk hr0; have HC0 := Aside0.mk hc0; clear hr0 hc0; unfold slices_Index_int_int.f at h; have H := h; clear h; have H' := Aside0.mk H; clear H; go_enter Try.func64, Try.ntmps64; go_wp2
 go_loopg [8] k (fun kq v8 w' => ∃ (x8_1 : Int), v8 = .int .i64 x8_1 ∧ Aside0 (slices_Index_int_int.l0 kq l0 a1 (l0.length : Int) x8_1 = some r) ∧ Aside0 (kq ≤ k) ∧ Drawn0 w w')
 case atStart => exact ⟨(0), z0_, H', ⟨Nat.le_refl _⟩, z3_⟩
 case round =>
  clear H'; try clear p2
  obtain ⟨x8_1, rfl, HA, HK1, ⟨m1, rfl⟩⟩ := hrel
  cases gk with
  | zero => exact absurd HA.out (by simp [slices_Index_int_int.l0])
  | succ k1 =>
   have H := HA.out; clear HA; simp only [slices_Index_int_int.l0] at H; by_cases c3 : x8_1 < (l0.length : Int); rotate_left
   ·rw [if_neg c3] at H; have c3b0 := df_ c3; clear c3; obtain rfl := oi_ H; go_wp2
    go_ret
    exact ⟨z0_, z3_⟩
   rw [if_pos c3] at H; have c3b0 := dt_ c3; clear c3; by_cases c4 : 0 ≤ x8_1; rotate_left
   ·rw [if_neg c4] at H; exact no_ H
   rw [if_pos c4] at H; have c4b0 := dt_ c4; clear c4; by_cases c5 : x8_1 < (l0.length : Int); rotate_left
   ·rw [if_neg c5] at H; exact no_ H
   rw [if_pos c5] at H; have c5b0 := dt_ c5; clear c5; by_cases c6 : a1 = (rd l0 x8_1)
   ·rw [if_pos c6] at H; have c6b0 := et_ c6; have c6b1 := nf_ c6; clear c6; obtain rfl := oi_ H; have p101 : 0 ≤ (x8_1 : Int) := y0_; have q101 : x8_1 < (l0.length : Int) := y0_; obtain ⟨ad101, e101, hx101_0⟩ := Kd.at_int HR0.out x8_1 p101 q101
    cases e101
    replace p101 := eq_true p101; replace q101 := eq_true q101; go_wp2
    go_ret
    exact ⟨z0_, z3_⟩
   rw [if_neg c6] at H; have c6b0 := ef_ c6; have c6b1 := nt_ c6; have H' := Aside0.mk H; clear H; have p101 : 0 ≤ (x8_1 : Int) := y0_; have q101 : x8_1 < (l0.length : Int) := y0_; obtain ⟨ad101, e101, hx101_0⟩ := Kd.at_int HR0.out x8_1 p101 q101
   cases e101
   replace p101 := eq_true p101; replace q101 := eq_true q101; go_wp2
   go_roundg k1
   case measure => have := HK1.out; omega
   case rel => exact ⟨(wrap64 (x8_1 + 1)), z0_, H', ⟨by have := HK1.out; omega⟩, z3_⟩


def slices_Contains_int_int.f (k : Nat) (l0 : List Int) (a1 : Int) : Option (Bool) := (slices_Index_int_int.f k l0 a1).bind fun t101 => (some (decide (t101 ≥ 0)))
set_option maxHeartbeats 8000000 in
set_option maxRecDepth 100000 in
theorem slices_Contains_int_int.calls (k : Nat) (A0 : Option Addr) (c0 : Nat) (l0 : List Int) (a1 : Int) (r : Bool) (w : World) (hr0 : Kd.C (Kd.int .i64) w A0 l0.length l0) (hc0 : l0.length ≤ c0) (h : slices_Contains_int_int.f k l0 a1 = some r) :
  Calls Try.prog 51 #[.slice A0 l0.length c0, .int .i64 a1] w fun e w' => e = .returned (.bool r) ∧ Drawn0 w w' := by
 have HR0 := Aside0.mk hr0; have HC0 := Aside0.mk hc0; clear hr0 hc0; unfold slices_Contains_int_int.f at h; have H := h; clear h; obtain ⟨t101, A3, H⟩ := bx_ H; obtain rfl := oi_ H; go_enter Try.func51, Try.ntmps51; go_wp2_with (first | ((with_reducible refine gate_callee (f := 64) rfl ?_); refine gl_ (some 7) Try.func64 #[.slice A0 l0.length c0, .int .i64 a1] ?_; (with_reducible refine (slices_Index_int_int.calls k _ _ l0 a1 t101 _ ?side1 ?side2 A3.out).mono ?_); (case side1 => repeat (first | exact HR0.out | (with_reducible refine Kd.C_alloc ?_ _) | (with_reducible refine Kd.C_drewN ?_ _) | (with_reducible refine Kd.C_drew ?_))); (case side2 => exact HC0.out); rintro e w' ⟨rfl, ⟨nd, rfl⟩⟩; refine ⟨_, rfl, ?_⟩)); go_ret
 exact ⟨z0_, z3_⟩

end Go.Proofs.Ytibnkopdkfjgpaa.Q


/- Query of bitmaps, third part: what a file holds, told over the bytes that are left. -/
namespace Go.Proofs.Ytibnkopdkfjgpaa.Q
open Go.RowKit Go.Proofs.YtibnkopdkfjgpaaW.PrintWords Go.Proofs.YtibnkopdkfjgpaaW.PrintLast Go.Proofs.YtibnkopdkfjgpaaW.PrintMore
open Bm
def hx (n : Int) : Int := bt (⟨#[48, 49, 50, 51, 52, 53, 54, 55, 56, 57, 97, 98, 99, 100, 101, 102]⟩ : ByteArray) n
def hexL (s : ByteArray) : Nat → List Int
  | 0 => []
  | n + 1 => hexL s n ++ [hx (bt s n / 16), hx (bt s n % 16)]
theorem hexL_len (s : ByteArray) : ∀ n, (hexL s n).length = 2 * n
  | 0 => rfl
  | n + 1 => by rw [hexL, List.length_append, hexL_len s n]; simp; omega
def hexB (s : ByteArray) : ByteArray := strOfNums (hexL s s.size)
theorem and_table : ∀ n : Fin 256, Go.bits .and .u8 (n.val : Int) 15 = (n.val : Int) % 16 := by decide +kernel
theorem and_bt (s : ByteArray) (i : Int) : Go.bits .and .u8 (bt s i) 15 = bt s i % 16 := by
  obtain ⟨n, hn⟩ := bt_fin s i
  rw [hn]; exact and_table n
theorem Hex_l0 (s : ByteArray) (hs : s.size ≤ 4294967296) : ∀ (d k i : Nat), i + d = s.size → d < k → ident_Hex.l0 k s (hexL s i) s.size i = some (hexB s) := by
  intro d
  induction d with
  | zero =>
    intro k i hi hk
    obtain ⟨k, rfl⟩ : ∃ m, k = m + 1 := ⟨k - 1, by omega⟩
    obtain rfl : i = s.size := by omega
    simp only [ident_Hex.l0]
    rw [if_neg (by omega)]; rfl
  | succ d ih =>
    intro k i hi hk
    obtain ⟨k, rfl⟩ : ∃ m, k = m + 1 := ⟨k - 1, by omega⟩
    have := ih k (i + 1) (by omega) (by omega)
    have hr := bt_range s i
    simp only [ident_Hex.l0]
    rw [if_pos (by omega), if_pos (by omega), if_pos (by omega), if_pos (by omega), if_pos (by omega), and_bt, if_pos (by omega), if_pos (by omega)]
    simp only [Option.bind_some]
    rw [if_pos (by rw [hexL_len]; simp; omega), wrap_id (by omega) (by omega)]
    exact_mod_cast this
theorem ident_Hex_ev (s : ByteArray) (hs : s.size ≤ 4294967296) : Ev (fun k => ident_Hex.f k s) (hexB s) := by
  refine Ev.of (fun k => ident_Hex.mono s k) (k := s.size + 1) ?_
  unfold ident_Hex.f
  rw [wrap_id (by omega) (by omega), if_pos (by omega), if_pos (by omega)]
  exact_mod_cast Hex_l0 s hs s.size _ 0 (by omega) (by omega)
theorem ref_Hex_l0 (s : ByteArray) (hs : s.size ≤ 4294967296) : ∀ (d k i : Nat), i + d = s.size → d < k → graftageref02_Hex.l0 k s ⟨#[48, 49, 50, 51, 52, 53, 54, 55, 56, 57, 97, 98, 99, 100, 101, 102]⟩ (hexL s i) i = some (hexB s) := by
  intro d
  induction d with
  | zero =>
    intro k i hi hk
    obtain ⟨k, rfl⟩ : ∃ m, k = m + 1 := ⟨k - 1, by omega⟩
    obtain rfl : i = s.size := by omega
    simp only [graftageref02_Hex.l0]
    rw [if_neg (by omega)]; rfl
  | succ d ih =>
    intro k i hi hk
    obtain ⟨k, rfl⟩ : ∃ m, k = m + 1 := ⟨k - 1, by omega⟩
    have := ih k (i + 1) (by omega) (by omega)
    have hr := bt_range s i
    have e1 : Int.tdiv (bt s i) 16 % 256 = bt s i / 16 := by rw [Int.tdiv_eq_ediv_of_nonneg hr.1]; omega
    have e2 : Int.tmod (bt s i) 16 = bt s i % 16 := by rw [Int.tmod_eq_emod_of_nonneg hr.1]
    have hsz : ((⟨#[48, 49, 50, 51, 52, 53, 54, 55, 56, 57, 97, 98, 99, 100, 101, 102]⟩ : ByteArray).size : Int) = 16 := rfl
    simp only [graftageref02_Hex.l0]
    rw [if_pos (by omega), if_pos (by omega), e1, e2, hsz, if_pos (by omega), if_pos (by omega), if_pos (by omega), if_pos (by omega)]
    simp only [Option.bind_some]
    rw [if_pos (by rw [hexL_len]; simp; omega), wrap_id (by omega) (by omega)]
    exact_mod_cast this
theorem ref_Hex_ev (s : ByteArray) (hs : s.size ≤ 4294967296) : Ev (fun k => graftageref02_Hex.f k s) (hexB s) := by
  refine Ev.of (fun k => graftageref02_Hex.mono s k) (k := s.size + 1) ?_
  unfold graftageref02_Hex.f
  exact_mod_cast ref_Hex_l0 s hs s.size _ 0 (by omega) (by omega)
/-- the digits of bytes, told over the bytes -/
def hxL (l : List Int) : ByteArray := strOfNums (l.flatMap fun b => [hx (b / 16), hx (b % 16)])
theorem hexL_eq (s : ByteArray) : ∀ n : Nat, n ≤ s.size → hexL s n = ((bytesOf s).take n).flatMap fun b => [hx (b / 16), hx (b % 16)]
  | 0, _ => rfl
  | n + 1, h => by
    rw [hexL, hexL_eq s n (by omega), List.take_add_one, bytesOf_get s n (by omega), List.flatMap_append]
    rfl
theorem hexB_eq (s : ByteArray) : hexB s = hxL (bytesOf s) := by
  unfold hexB hxL
  rw [hexL_eq s s.size (Nat.le_refl _), List.take_of_length_le (by rw [bytesOf_length]; exact Nat.le_refl _)]
theorem hexB_at (s : ByteArray) (a : Nat) : hexB (s.extract a (a + 20)) = hxL ((lf s a).take 20) := by
  rw [hexB_eq, lf_extract]
  congr 2
  omega
theorem hexB_size (s : ByteArray) : (hexB s).size = 2 * s.size := by unfold hexB; rw [strOfNums_size, hexL_len]
theorem toList_inj {a b : ByteArray} : a.toList = b.toList ↔ a = b := by
  constructor
  · intro h
    rw [ByteArray.toList_eq, ByteArray.toList_eq] at h
    have := Array.toList_inj.1 h
    cases a; cases b
    exact congrArg _ this
  · intro h; rw [h]
def plc (x : ByteArray) : Nat → List ByteArray → Int
  | _, [] => -1
  | i, y :: t => if y = x then i else plc x (i + 1) t
theorem drop_at' {α : Type} {d : α} {l : List α} {i : Nat} {r : α} {t : List α} (h : l.drop i = r :: t) : i < l.length ∧ rdOf d l (i : Int) = r ∧ l.drop (i + 1) = t := by
  have hlt : i < l.length := by
    rcases Nat.lt_or_ge i l.length with h1 | h1
    · exact h1
    · rw [List.drop_eq_nil_of_le h1] at h; cases h
  rw [List.drop_eq_getElem_cons hlt] at h
  obtain ⟨h1, h2⟩ := List.cons.inj h
  refine ⟨hlt, ?_, h2⟩
  unfold rdOf
  rw [Int.toNat_natCast, List.getD_eq_getElem?_getD, List.getElem?_eq_getElem hlt]
  exact h1
theorem place_l0 (O : List ByteArray) (x : ByteArray) (hO : O.length ≤ 1099511627776) : ∀ (t : List ByteArray) (i : Nat), O.drop i = t → Ev (fun k => graftageref27_place.l0 k O x i) (plc x i t)
  | [], i, h => by
    have := drop_end h
    exact Ev.step (f := ?_) (fun k => by rw [graftageref27_place.l0, if_neg (by omega)]) (Ev.now _)
  | y :: t, i, h => by
    obtain ⟨hi, hr, ht⟩ := drop_at' (d := ByteArray.empty) h
    have e1 : wrap64 ((i : Int) + 1) = ((i + 1 : Nat) : Int) := by rw [wrap_id (by omega) (by omega)]; omega
    rw [plc]
    by_cases g : y = x
    · rw [if_pos g]
      exact Ev.step (f := ?_) (fun k => by rw [graftageref27_place.l0, if_pos (by omega), if_pos (by omega), hr, if_pos (toList_inj.2 g)]) (Ev.now _)
    · rw [if_neg g]
      refine Ev.step (f := ?_) (fun k => by rw [graftageref27_place.l0, if_pos (by omega), if_pos (by omega), hr, if_neg (fun h => g (toList_inj.1 h)), e1]) ?_
      exact place_l0 O x hO t (i + 1) ht
theorem place_ev (O : List ByteArray) (x : ByteArray) (hO : O.length ≤ 1099511627776) : Ev (fun k => graftageref27_place.f k O x) (plc x 0 O) := place_l0 O x hO O 0 rfl
theorem Index_l0 (O : List ByteArray) (x : ByteArray) (hO : O.length ≤ 1099511627776) : ∀ (t : List ByteArray) (i : Nat), O.drop i = t → Ev (fun k => slices_Index_string_string.l0 k O x O.length i) (plc x i t)
  | [], i, h => by
    have := drop_end h
    exact Ev.step (f := ?_) (fun k => by rw [slices_Index_string_string.l0, if_neg (by omega)]) (Ev.now _)
  | y :: t, i, h => by
    obtain ⟨hi, hr, ht⟩ := drop_at' (d := ByteArray.empty) h
    have e1 : wrap64 ((i : Int) + 1) = ((i + 1 : Nat) : Int) := by rw [wrap_id (by omega) (by omega)]; omega
    rw [plc]
    by_cases g : y = x
    · rw [if_pos g]
      exact Ev.step (f := ?_) (fun k => by rw [slices_Index_string_string.l0, if_pos (by omega), if_pos (by omega), if_pos (by omega), hr, if_pos (toList_inj.2 g.symm)]) (Ev.now _)
    · rw [if_neg g]
      refine Ev.step (f := ?_) (fun k => by rw [slices_Index_string_string.l0, if_pos (by omega), if_pos (by omega), if_pos (by omega), hr, if_neg (fun h => g (toList_inj.1 h).symm), e1]) ?_
      exact Index_l0 O x hO t (i + 1) ht
theorem Index_ev (O : List ByteArray) (x : ByteArray) (hO : O.length ≤ 1099511627776) : Ev (fun k => slices_Index_string_string.f k O x) (plc x 0 O) := Index_l0 O x hO O 0 rfl
theorem plc_ge (x : ByteArray) : ∀ (t : List ByteArray) (i : Nat), (0 ≤ plc x i t ↔ x ∈ t) ∧ (-1 ≤ plc x i t) ∧ (plc x i t < i + t.length)
  | [], i => by simp [plc]; omega
  | y :: t, i => by
    rw [plc]
    have := plc_ge x t (i + 1)
    by_cases g : y = x
    · rw [if_pos g]
      refine ⟨⟨fun _ => by simp [g], fun _ => by omega⟩, by omega, by simp only [List.length_cons]; omega⟩
    · rw [if_neg g]
      refine ⟨?_, this.2.1, by have := this.2.2; simp only [List.length_cons]; omega⟩
      rw [this.1, List.mem_cons]
      exact ⟨fun h => .inr h, fun h => h.resolve_left (fun e => g e.symm)⟩
def plcI (x : Int) : Nat → List Int → Int
  | _, [] => -1
  | i, y :: t => if x = y then i else plcI x (i + 1) t
theorem IndexI_l0 (O : List Int) (x : Int) (hO : O.length ≤ 1099511627776) : ∀ (t : List Int) (i : Nat), O.drop i = t → Ev (fun k => slices_Index_int_int.l0 k O x O.length i) (plcI x i t)
  | [], i, h => by
    have := drop_end h
    exact Ev.step (f := ?_) (fun k => by rw [slices_Index_int_int.l0, if_neg (by omega)]) (Ev.now _)
  | y :: t, i, h => by
    obtain ⟨hi, hr, ht⟩ := drop_at h
    have e1 : wrap64 ((i : Int) + 1) = ((i + 1 : Nat) : Int) := by rw [wrap_id (by omega) (by omega)]; omega
    rw [plcI]
    by_cases g : x = y
    · rw [if_pos g]
      exact Ev.step (f := ?_) (fun k => by rw [slices_Index_int_int.l0, if_pos (by omega), if_pos (by omega), if_pos (by omega), hr, if_pos g]) (Ev.now _)
    · rw [if_neg g]
      refine Ev.step (f := ?_) (fun k => by rw [slices_Index_int_int.l0, if_pos (by omega), if_pos (by omega), if_pos (by omega), hr, if_neg g, e1]) ?_
      exact IndexI_l0 O x hO t (i + 1) ht
theorem plcI_ge (x : Int) : ∀ (t : List Int) (i : Nat), 0 ≤ plcI x i t ↔ x ∈ t
  | [], i => by simp [plcI]
  | y :: t, i => by
    rw [plcI]
    by_cases g : x = y
    · rw [if_pos g]
      exact ⟨fun _ => by simp [g], fun _ => by omega⟩
    · rw [if_neg g, plcI_ge x t (i + 1), List.mem_cons]
      exact ⟨fun h => .inr h, fun h => h.resolve_left g⟩
theorem Contains_ev (l : List Int) (x : Int) (hl : l.length ≤ 1099511627776) : Ev (fun k => slices_Contains_int_int.f k l x) (decide (x ∈ l)) := by
  refine Ev.bind (IndexI_l0 l x hl l 0 rfl) ?_
  rw [show decide (plcI x 0 l ≥ 0) = decide (x ∈ l) from by rw [Bool.eq_iff_iff, decide_eq_true_eq, decide_eq_true_eq]; exact plcI_ge x l 0]
  exact Ev.now _
def idsL : Nat → List Int → List ByteArray → Option (List ByteArray × List Int)
  | 0, l, O => some (O, l)
  | n + 1, l, O => if l.length < 20 then none else if 0 ≤ plc (hxL (l.take 20)) 0 O then none else idsL n (l.drop 20) (O ++ [hxL (l.take 20)])
def runsL : Nat → Int → List Int → List Int → Option (List Int × List Int)
  | 0, s, l, o => some (o, l)
  | k + 1, s, l, o => (numL l s).bind fun p => runsL k s (l.drop p.2) (o ++ [p.1])
def pickL (s : Int) (l : List Int) : Option (Int × List Int × List Int) :=
  (numL l (s - 1)).bind fun p => (numL (l.drop p.2) (s + 1)).bind fun q => (runsL q.1.toNat s ((l.drop p.2).drop q.2) []).bind fun r => if vd s r.1 = true ∧ p.1 ∈ lst s r.1 then some (p.1, r.1, r.2) else none
def picksL : Nat → Int → List Int → List (Int × List Int) → Option (List (Int × List Int) × List Int)
  | 0, s, l, o => some (o, l)
  | m + 1, s, l, o => (pickL s l).bind fun p => if p.1 ∈ o.map Prod.fst then none else picksL m s p.2.2 (o ++ [(p.1, p.2.1)])
/-- the commits that a reader finds -/
def idsP (s : ByteArray) (a : Nat) (bad : Bool) : Option (List ByteArray × List Int) := if bad = true then none else (numL (lf s a) 65536).bind fun p => idsL p.1.toNat ((lf s a).drop p.2) []
def picksP (s : ByteArray) (a : Nat) (bad : Bool) (n : Int) : Option (List (Int × List Int) × List Int) := if bad = true then none else (numL (lf s a) n).bind fun p => picksL p.1.toNat n ((lf s a).drop p.2) []
end Go.Proofs.Ytibnkopdkfjgpaa.Q


/- The laws of set algebra over lists of bits, and over joinB. -/
namespace Go.Proofs.Ytibnkopdkfjgpaa.Q
open Go.RowKit Go.Proofs.YtibnkopdkfjgpaaW.PrintWords Go.Proofs.YtibnkopdkfjgpaaW.PrintLast Go.Proofs.YtibnkopdkfjgpaaW.PrintMore
open Bm
/-- the runs of a list of bits are right -/
theorem vd_enc {s : Int} {Z : List Bool} (h : (Z.length : Int) = s) (h1 : s ≤ 1048576) : vd s (enc Z) = true := by
  refine vd_iff.2 ⟨by omega, h1, enc_canon Z, ?_⟩
  have := exp_length (enc Z) false (canon_nonneg (enc_canon Z))
  rw [exp_enc] at this
  omega
theorem joinB_eq (f : Bool → Bool → Bool) {s : Int} {a b : List Int} (ha : vd s a = true) (hb : vd s b = true) : joinB f s a s b = (s, enc (List.zipWith f (exp false a) (exp false b))) := by
  unfold joinB; rw [if_pos (by simp [ha, hb])]
theorem lst_enc {s : Int} {Z : List Bool} (h : (Z.length : Int) = s) (h1 : s ≤ 1048576) : lst s (enc Z) = pos 0 Z := by
  unfold lst bitsOf; rw [if_pos (vd_enc h h1), exp_enc]
end Go.Proofs.Ytibnkopdkfjgpaa.Q


/- Query of bitmaps, fourth part: the answer, told over what a file holds. -/
namespace Go.Proofs.Ytibnkopdkfjgpaa.Q
open Go.RowKit Go.Proofs.YtibnkopdkfjgpaaW.PrintWords Go.Proofs.YtibnkopdkfjgpaaW.PrintLast Go.Proofs.YtibnkopdkfjgpaaW.PrintMore
open Bm
def lookL (P : List (Int × List Int)) (k : Int) : Option (List Int) := (P.find? (fun x => decide (x.1 = k))).map Prod.snd
theorem lookL_none {P : List (Int × List Int)} {k : Int} : lookL P k = none ↔ k ∉ P.map Prod.fst := by
  unfold lookL
  rw [Option.map_eq_none_iff, List.find?_eq_none]
  constructor
  · intro h hk
    obtain ⟨x, hx, rfl⟩ := List.mem_map.1 hk
    exact h x hx (by simp)
  · intro h x hx
    simp only [decide_eq_true_eq]
    intro e
    exact h (e ▸ List.mem_map.2 ⟨x, hx, rfl⟩)
theorem lookL_some {P : List (Int × List Int)} {k : Int} {r : List Int} (h : lookL P k = some r) : (k, r) ∈ P := by
  unfold lookL at h
  obtain ⟨⟨k1, r1⟩, h1, h2⟩ := Option.map_eq_some_iff.1 h
  have h3 := List.find?_some h1
  have h4 := List.mem_of_find?_eq_some h1
  simp only [decide_eq_true_eq] at h3
  subst h3
  obtain rfl : r1 = r := h2
  exact h4
def gotL (O : List ByteArray) (P : List (Int × List Int)) : List ByteArray → List Bool → Option (List Bool)
  | [], X => some X
  | id :: t, X => (lookL P (plc id 0 O)).bind fun r => gotL O P t (List.zipWith (fun x y => x || y) X (exp false r))
def resL (O : List ByteArray) (A B : List Bool) : List ByteArray := (pos 0 (List.zipWith (fun x y => x && !y) A B)).map (fun i => rdOf ByteArray.empty O i)
def fileL (b : List Int) : Option (List ByteArray × List (Int × List Int)) :=
  if b.take 4 = [66, 77, 80, 49] then (numL (b.drop 4) 65536).bind fun p => (idsL p.1.toNat ((b.drop 4).drop p.2) []).bind fun q => (numL q.2 q.1.length).bind fun r => (picksL r.1.toNat q.1.length (q.2.drop r.2) []).bind fun t => if t.2 = [] then some (q.1, t.1) else none
  else none
def ansL (q : List ByteArray × List (Int × List Int)) (W H : List ByteArray) : List ByteArray × Int :=
  match gotL q.1 q.2 W (List.replicate q.1.length false) with
  | none => ([], 5)
  | some A => match gotL q.1 q.2 H (List.replicate q.1.length false) with
    | none => ([], 5)
    | some B => (resL q.1 A B, 0)
def askB (s : ByteArray) (W H : List ByteArray) : List ByteArray × Int :=
  if (openB s).2 = true then (match fileL (bytesOf (openB s).1) with | none => ([], 2) | some q => ansL q W H) else ([], 7)
theorem idsL_len : ∀ (n : Nat) (l : List Int) (O O' : List ByteArray) (l' : List Int), idsL n l O = some (O', l') → O'.length = O.length + n
  | 0, l, O, O', l', h => by
    have := Option.some.inj h
    obtain ⟨rfl, _⟩ := Prod.mk.inj this
    rfl
  | n + 1, l, O, O', l', h => by
    rw [idsL] at h
    split at h
    · cases h
    · split at h
      · cases h
      · have := idsL_len n _ _ _ _ h
        rw [List.length_append, List.length_singleton] at this
        omega
theorem pickL_vd {n : Int} {l : List Int} {p : Int × List Int × List Int} (h : pickL n l = some p) : vd n p.2.1 = true ∧ p.1 ∈ lst n p.2.1 := by
  unfold pickL at h
  obtain ⟨a, _, h⟩ := Option.bind_eq_some_iff.1 h
  obtain ⟨b, _, h⟩ := Option.bind_eq_some_iff.1 h
  obtain ⟨c, _, h⟩ := Option.bind_eq_some_iff.1 h
  split at h
  · rename_i hg
    have := Option.some.inj h
    subst this
    exact hg
  · cases h
theorem picksL_vd (n : Int) : ∀ (m : Nat) (l : List Int) (o P : List (Int × List Int)) (l' : List Int), picksL m n l o = some (P, l') → (∀ x ∈ o, vd n x.2 = true) → ∀ x ∈ P, vd n x.2 = true
  | 0, l, o, P, l', h, ho => by
    have := Option.some.inj h
    obtain ⟨rfl, _⟩ := Prod.mk.inj this
    exact ho
  | m + 1, l, o, P, l', h, ho => by
    rw [picksL] at h
    obtain ⟨p, hp, h⟩ := Option.bind_eq_some_iff.1 h
    split at h
    · cases h
    · refine picksL_vd n m _ _ _ _ h (fun x hx => ?_)
      rcases List.mem_append.1 hx with hx | hx
      · exact ho x hx
      · rw [List.mem_singleton] at hx
        subst hx
        exact (pickL_vd hp).1
theorem picksL_len (n : Int) : ∀ (m : Nat) (l : List Int) (o P : List (Int × List Int)) (l' : List Int), picksL m n l o = some (P, l') → P.length = o.length + m
  | 0, l, o, P, l', h => by
    have := Option.some.inj h
    obtain ⟨rfl, _⟩ := Prod.mk.inj this
    rfl
  | m + 1, l, o, P, l', h => by
    rw [picksL] at h
    obtain ⟨p, hp, h⟩ := Option.bind_eq_some_iff.1 h
    split at h
    · cases h
    · have := picksL_len n m _ _ _ _ h
      rw [List.length_append, List.length_singleton] at this
      omega
/-- Or of what has been got, and one bitmap more -/
theorem or_step {n : Int} {X : List Bool} {r : List Int} (hX : (X.length : Int) = n) (hn : n ≤ 1048576) (hr : vd n r = true) :
    joinB (fun x y => x || y) n (enc X) n r = (n, enc (List.zipWith (fun x y => x || y) X (exp false r))) ∧ ((List.zipWith (fun x y => x || y) X (exp false r)).length : Int) = n := by
  refine ⟨?_, ?_⟩
  · rw [joinB_eq _ (vd_enc hX hn) hr, exp_enc]
  · have := exp_len hr
    rw [List.length_zipWith]
    omega
theorem file_of {s rest : ByteArray} {is b1 b2 : Bool} {O : List ByteArray} {P : List (Int × List Int)} {n : Int} {a1 a2 : Nat}
    (hr : (is = true → (bytesOf s).take 4 = [66, 77, 80, 49] ∧ lf rest 0 = (bytesOf s).drop 4) ∧ (is = false → ¬ (bytesOf s).take 4 = [66, 77, 80, 49]))
    (h4 : (b1 = true → idsP rest 0 (!is) = none) ∧ (b1 = false → idsP rest 0 (!is) = some (O, lf rest a1))) (hn : (O.length : Int) = n)
    (h9 : (b2 = true → picksP rest a1 b1 n = none) ∧ (b2 = false → picksP rest a1 b1 n = some (P, lf rest a2))) : fileL (bytesOf s) = if b2 = false ∧ lf rest a2 = [] then some (O, P) else none := by
  have bad : b1 = true → b2 = true := fun hb => by
    cases b2
    · have := h9.2 rfl
      rw [hb] at this
      unfold picksP at this
      rw [if_pos rfl] at this
      cases this
    · rfl
  cases is
  · have hb1 : b1 = true := by
      cases b1
      · have := h4.2 rfl
        unfold idsP at this
        rw [if_pos (by rfl)] at this
        cases this
      · rfl
    rw [bad hb1, if_neg (by simp)]
    unfold fileL
    rw [if_neg (hr.2 rfl)]
  · obtain ⟨ht, hd⟩ := hr.1 rfl
    have e1 : fileL (bytesOf s) = (idsP rest 0 (!true)).bind fun q => (numL q.2 q.1.length).bind fun r => (picksL r.1.toNat q.1.length (q.2.drop r.2) []).bind fun t => if t.2 = [] then some (q.1, t.1) else none := by
      unfold fileL idsP
      rw [if_pos ht, if_neg (by decide), ← hd, Option.bind_assoc]
    rw [e1]
    cases b1
    · rw [h4.2 rfl, Option.bind_some]
      have e2 : ((numL (lf rest a1) O.length).bind fun r => (picksL r.1.toNat O.length ((lf rest a1).drop r.2) []).bind fun t => if t.2 = [] then some (O, t.1) else none) = (picksP rest a1 false n).bind fun t => if t.2 = [] then some (O, t.1) else none := by
        unfold picksP
        rw [if_neg (by decide), hn, Option.bind_assoc]
      show ((numL (lf rest a1) O.length).bind fun r => (picksL r.1.toNat O.length ((lf rest a1).drop r.2) []).bind fun t => if t.2 = [] then some (O, t.1) else none) = _
      rw [e2]
      cases b2
      · rw [h9.2 rfl, Option.bind_some]
        by_cases g : lf rest a2 = []
        · rw [if_pos g, if_pos ⟨rfl, g⟩]
        · rw [if_neg g, if_neg (fun h => g h.2)]
      · rw [h9.1 rfl, if_neg (by simp)]; rfl
    · rw [h4.1 rfl, bad rfl, if_neg (by simp)]; rfl
theorem picksP_vd {s : ByteArray} {a : Nat} {b : Bool} {n : Int} {P : List (Int × List Int)} {l : List Int} (h : picksP s a b n = some (P, l)) : ∀ x ∈ P, vd n x.2 = true := by
  unfold picksP at h
  split at h
  · cases h
  · obtain ⟨p, _, h⟩ := Option.bind_eq_some_iff.1 h
    exact picksL_vd n _ _ _ _ _ h (fun x hx => by cases hx)
end Go.Proofs.Ytibnkopdkfjgpaa.Q


/- A map from strings to ints that the call makes, as a state: how often it was written, and what stands at a key. -/
namespace Go.Proofs.Ytibnkopdkfjgpaa.Q
open Go.RowKit Go.Maps Go.Proofs.YtibnkopdkfjgpaaW.PrintWords Go.Proofs.YtibnkopdkfjgpaaW.PrintLast Go.Proofs.YtibnkopdkfjgpaaW.PrintMore
structure MSI where
  n : Nat
  f : List UInt8 → Option Int
def MSI.nil : MSI := ⟨0, fun _ => none⟩
def MSI.get (m : MSI) (k : ByteArray) : Int := (m.f k.data.toList).getD 0
def MSI.has (m : MSI) (k : ByteArray) : Bool := (m.f k.data.toList).isSome
def MSI.put (m : MSI) (k : ByteArray) (v : Int) : MSI := ⟨m.n + 1, fun x => if x = k.data.toList then some v else m.f x⟩
def IsS70 (w0 W : World) (g : Nat) (f0 : MSI) : Prop := w0.heap.size ≤ g ∧ ∃ D : DataW Unit, W.ownsMap Try.prog 9 (plainElem Try.prog 3) g f0.n D ∧
  ∀ s : List UInt8, s.length ≤ maxLen → D.atKey (.string s) (.lit (.int .i64 0)) = .lit (.int .i64 ((f0.f s).getD 0)) ∧ Maps.has D (.string s) = (f0.f s).isSome
theorem mapLaw : Keyed Try.prog 9 := string_keyed Try.underlying9
theorem mapZero (w : World) : (zeroValue 3).run Try.prog w = .ok (.int .i64 0) w := by kernel_rfl
section
variable {w0 W W1 : World} {g : Nat} {f0 : MSI}
theorem IsS70.block (h : IsS70 w0 W g f0) : ∃ es clock, W.heap[g]? = some (.map es clock) := by
  obtain ⟨_, D, ⟨es, c, hb, _⟩, _⟩ := h
  exact ⟨es, c, hb⟩
theorem IsS70.grown {row : Option Nat} (h : IsS70 w0 W g f0) (hw : W.grownBy W1 row) (hne : some g ≠ row) : IsS70 w0 W1 g f0 := by
  obtain ⟨h0, D, h1, h2⟩ := h
  exact ⟨h0, D, h1.kept hw hne, h2⟩
theorem IsS70.below (h : IsS70 w0 W g f0) (hw : Below W.heap.size W W1) : IsS70 w0 W1 g f0 := h.grown (grown_of_below hw none) (by simp)
theorem IsS70.alloc (h : IsS70 w0 W g f0) (o : Obj) : IsS70 w0 (W.alloc o) g f0 := h.below (below_alloc (Below.refl _ _) o)
theorem IsS70.drewN (h : IsS70 w0 W g f0) (m : Nat) : IsS70 w0 (W.drewN m) g f0 := h
theorem IsS70.drew (h : IsS70 w0 W g f0) : IsS70 w0 W.drew g f0 := h
theorem IsS70.at_ {m : Nat} (hq : W.drewN m = W1) (h : IsS70 w0 W g f0) : IsS70 w0 W1 g f0 := by subst hq; exact h
theorem IsS70.ge (h : IsS70 w0 W g f0) : w0.heap.size ≤ g := h.1
theorem IsS70.lt (h : IsS70 w0 W g f0) : g < W.heap.size := by
  obtain ⟨_, D, h1, _⟩ := h
  exact h1.lt
theorem IsS70.far {p : Addr} (h : IsS70 w0 W g f0) (hne : g ≠ p.block) (u : Value) : IsS70 w0 (W.setCell p u) g f0 := by
  obtain ⟨h0, D, h1, h2⟩ := h
  exact ⟨h0, D, h1.setCell hne u, h2⟩
theorem IsS70.apart {α : Type} {d : Kd α} {e : Nat} {base : Nat} {ok : Nat → Prop} {v : Value} {xs : List α} (h : IsS70 w0 W g f0) (ho : d.R e W base ok v xs) (ht : ∀ q, q ∈ e :: d.E → q ≠ 70) : d.R e W base (fun k => ok k ∧ k ≠ g) v xs := by
  obtain ⟨es, c, hb⟩ := h.block
  refine Kd.R_mono (Kd.R_bound ho) (fun k hk => ⟨hk.1, ?_⟩)
  rintro rfl
  obtain ⟨_, _, _, q, _, cells, hc⟩ := hk
  rw [hc] at hb
  cases hb
theorem IsS70.own_ne {α : Type} {d : Kd α} {e : Nat} {base : Nat} {ok : Nat → Prop} {v : Value} {xs : List α} (h : IsS70 w0 W g f0) (ho : d.R e W base ok v xs) (ht : e ≠ 70) : some g ≠ v.ownBlock := by
  obtain ⟨es, c, hb⟩ := h.block
  intro he
  obtain ⟨_, _, _, q, _, cells, hc⟩ := (Kd.R_bound ho).1 g he.symm
  rw [hc] at hb
  cases hb
theorem IsS70.made (hb : W.ownsMap Try.prog 9 (plainElem (H := Unit) Try.prog 3) g 0 (.map [])) (hg : w0.heap.size ≤ g) : IsS70 w0 W g MSI.nil :=
  ⟨hg, .map [], hb, fun s hs => ⟨by simp [DataW.atKey, MSI.nil], by simp [Maps.has, MSI.nil]⟩⟩
end
section
variable {ops : Array Oper} {rest : List Oper} {o : Oper} {a : Act} {Q : Exit → Act → World → Prop} {w0 W : World} {g : Nat} {f0 : MSI}
theorem mkmap_event (hgd : o.guard = none) {N : Tmp} (hd : o.dst = some N) (hop : o.op = .makeMap 70 none)
    (h : ∀ g, g = W.heap.size → ∀ w1, w1.ownsMap Try.prog 9 (plainElem (H := Unit) Try.prog 3) g 0 (.map []) → Below W.heap.size W w1 → wpList Try.prog ops Q rest (a.put o.dst (.map (some g))) w1) : wpList Try.prog ops Q (o :: rest) a W := by
  have hmm := @run_makeMap Try.prog
  refine Kd.event_run hgd (v := .map (some W.heap.size)) (w1 := W.alloc (.map #[] 0)) ?_ (h _ rfl _ (World.ownsMap_made _ _ _ _) (below_alloc (Below.refl _ _) _))
  simp [execOp, hop, hmm, Result.andThen]
theorem IsS70.look {m x : Operand} {k : ByteArray} (h : IsS70 w0 W g f0) (hgd : o.guard = none) (hop : o.op = .lookup 70 m x false) (hm : a.eval m = .map (some g)) (hx : a.eval x = .string k) (hs : k.size ≤ 9223372036854775807)
    (K : wpList Try.prog ops Q rest (a.put o.dst (.int .i64 (MSI.get f0 k))) W) : wpList Try.prog ops Q (o :: rest) a W := by
  obtain ⟨h0, D, h1, h2⟩ := h
  refine wpList_lookup_own_int _ hgd m x 70 hop 9 3 .i64 mapLaw Try.underlying70 Try.underlying3 (mapZero _) g f0.n D hm h1 _ _ hx (WideMaps.keyOf_string_mk Try.underlying9 (by unfold maxLen; exact hs)) ?_
  intro c hat hwc
  have := (h2 k.data.toList (by unfold maxLen; exact hs)).1
  rw [this] at hat
  have e : c = MSI.get f0 k := by
    injection hat with hat
    injection hat with _ hat
    exact hat.symm
  rw [e]
  exact K
theorem IsS70.look_ok {m x : Operand} {k : ByteArray} (h : IsS70 w0 W g f0) (hgd : o.guard = none) (hop : o.op = .lookup 70 m x true) (hm : a.eval m = .map (some g)) (hx : a.eval x = .string k) (hs : k.size ≤ 9223372036854775807)
    (K : wpList Try.prog ops Q rest (a.put o.dst (.tuple #[.int .i64 (MSI.get f0 k), .bool (MSI.has f0 k)])) W) : wpList Try.prog ops Q (o :: rest) a W := by
  obtain ⟨h0, D, h1, h2⟩ := h
  refine wpList_lookup_own_ok_int _ hgd m x 70 hop 9 3 .i64 mapLaw Try.underlying70 Try.underlying3 (mapZero _) g f0.n D hm h1 _ _ hx (WideMaps.keyOf_string_mk Try.underlying9 (by unfold maxLen; exact hs)) ?_
  intro c hat hwc
  have := h2 k.data.toList (by unfold maxLen; exact hs)
  rw [this.1] at hat
  have e : c = MSI.get f0 k := by
    injection hat with hat
    injection hat with _ hat
    exact hat.symm
  rw [e, this.2]
  exact K
theorem IsS70.put_ {m x v : Operand} {k : ByteArray} {n : Int} (h : IsS70 w0 W g f0) (hgd : o.guard = none) (hop : o.op = .mapUpdate 70 m x v) (hm : a.eval m = .map (some g)) (hx : a.eval x = .string k) (hv : a.eval v = .int .i64 n) (hs : k.size ≤ 9223372036854775807) (hn : f0.n < 4611686018427387904) (hw : (Lit.int .i64 n).wf = true)
    (K : ∀ w1, IsS70 w0 w1 g (MSI.put f0 k n) → W.grownBy w1 (some g) → wpList Try.prog ops Q rest (a.put o.dst undef) w1) : wpList Try.prog ops Q (o :: rest) a W := by
  obtain ⟨h0, D, h1, h2⟩ := h
  have hk : keyOf Try.prog 9 (.string k) = some (.string k.data.toList) := WideMaps.keyOf_string_mk Try.underlying9 (by unfold maxLen; exact hs)
  refine wpList_mapUpdate_own _ hgd m x v 70 hop 9 3 mapLaw Try.underlying70 _ g f0.n D hm h1 (by unfold maxLen; omega) _ _ _ hx hv hk _ [] (plainElem_int Try.underlying3 hw) ?_
  intro w1 hown hg
  refine K w1 ⟨h0, _, hown, fun s hl => ?_⟩ hg
  have hD : IsMap D := by
    obtain ⟨es, c, _, _, _, rfl⟩ := h1
    exact ⟨_, rfl⟩
  have hkl : WideAt.IsKeyLit (.string k.data.toList) := trivial
  by_cases e : s = k.data.toList
  · subst e
    refine ⟨?_, ?_⟩
    · rw [atKey_put_same hD hkl]; simp [MSI.put]
    · rw [has_put_same hD hkl]; simp [MSI.put]
  · have hne : (Lit.string s) ≠ .string k.data.toList := fun h => e (by injection h)
    have := h2 s hl
    refine ⟨?_, ?_⟩
    · rw [atKey_put_other hne, this.1]; simp [MSI.put, e]
    · rw [has_put_other hne, this.2]; simp [MSI.put, e]
end
end Go.Proofs.Ytibnkopdkfjgpaa.Q


/- The reader's commits by hand: a state that came in, a map that the call makes, a row that it makes. -/
namespace Go.Proofs.Ytibnkopdkfjgpaa.Q
open Go.RowKit Go.Proofs.YtibnkopdkfjgpaaW.PrintWords Go.Proofs.YtibnkopdkfjgpaaW.PrintLast Go.Proofs.YtibnkopdkfjgpaaW.PrintMore
open Bm
/-- what holds at each place of the walk: the reader's state, the map, the row, and all else as it was -/
structure IdsI (w0 w W : World) (g gm : Nat) (v : Value) (s : ByteArray) (a : Int) (b : Bool) (m : MSI) (O : List ByteArray) : Prop where
  st : IsS52 w0 W g s a b
  mp : IsS70 w W gm m
  ro : Kd.R Kd.string 9 W w.heap.size (fun _ => True) v O
  hb : Below w0.heap.size w0 W
  kp : KeepBut w W g none
theorem mapsame {w W W1 : World} {gm : Nat} {m : MSI} (h : IsS70 w W gm m) (e : W1.heap[gm]? = W.heap[gm]?) : IsS70 w W1 gm m := by
  obtain ⟨h0, D, ⟨es, c, hb, hr⟩, h2⟩ := h
  exact ⟨h0, D, ⟨es, c, e.trans hb, hr⟩, h2⟩
theorem keep_grown {w W W1 : World} {g : Nat} {row : Option Nat} (h : KeepBut w W g none) (hg : W.grownBy W1 row) (hr : ∀ k, row = some k → w.heap.size ≤ k) : KeepBut w W1 g none := by
  refine ⟨Nat.le_trans h.1 hg.size, fun i hi hne _ => ?_⟩
  rw [hg.block i (Nat.lt_of_lt_of_le hi h.1) (fun e => by have := hr i e.symm; omega)]
  exact h.2 i hi hne (by simp)
section
variable {w0 w W W1 : World} {g gm : Nat} {v : Value} {s : ByteArray} {a : Int} {b : Bool} {m : MSI} {O : List ByteArray}
theorem IdsI.ne (h : IdsI w0 w W g gm v s a b m O) : g ≠ gm := by
  obtain ⟨es, c, hb⟩ := h.mp.block
  rintro rfl
  have := h.st.1
  rw [hb] at this
  cases this
theorem IdsI.below (h : IdsI w0 w W g gm v s a b m O) (hb : Below W.heap.size W W1) : IdsI w0 w W1 g gm v s a b m O :=
  ⟨h.st.below hb, h.mp.below hb, Kd.R_below h.ro hb, below_step h.hb hb, keep_grown h.kp (grown_of_below hb none) (by simp)⟩
theorem IdsI.drewN (h : IdsI w0 w W g gm v s a b m O) (n : Nat) : IdsI w0 w (W.drewN n) g gm v s a b m O :=
  ⟨h.st.drewN n, h.mp.drewN n, Kd.R_drewN h.ro n, pw_below_drewN h.hb n, keep_drewN h.kp n⟩
theorem IdsI.drew (h : IdsI w0 w W g gm v s a b m O) : IdsI w0 w W.drew g gm v s a b m O :=
  ⟨h.st.drew, h.mp.drew, Kd.R_drew h.ro, below_drew1 h.hb, keep_drew h.kp⟩
theorem IdsI.alloc (h : IdsI w0 w W g gm v s a b m O) (o : Obj) : IdsI w0 w (W.alloc o) g gm v s a b m O := h.below (below_alloc (Below.refl _ _) o)
theorem IdsI.ro_ne (h : IdsI w0 w W g gm v s a b m O) : Kd.R Kd.string 9 W w.heap.size (fun k => True ∧ k ≠ g) v O := h.st.apart h.ro (fun q hq => by
  have : q = 9 := by simpa [Kd.string, Kd.scalar] using hq
  rw [this]; decide)
theorem IdsI.ro_nm (h : IdsI w0 w W g gm v s a b m O) : Kd.R Kd.string 9 W w.heap.size (fun k => True ∧ k ≠ gm) v O := h.mp.apart h.ro (fun q hq => by
  have : q = 9 := by simpa [Kd.string, Kd.scalar] using hq
  rw [this]; decide)
theorem IdsI.set1 (h : IdsI w0 w W g gm v s a b m O) (a1 : Int) : IdsI w0 w (W.setCell ⟨g, 1, none⟩ (.int .i64 a1)) g gm v s a1 b m O :=
  ⟨h.st.set_1 a1, h.mp.far h.ne.symm _, Kd.R_mono (Kd.R_far h.ro_ne (fun k hk => hk.2) _) (fun _ _ => trivial), below_set h.hb h.st.ge, h.kp.set_ _ _⟩
theorem IdsI.set2 (h : IdsI w0 w W g gm v s a b m O) (b1 : Bool) : IdsI w0 w (W.setCell ⟨g, 2, none⟩ (.bool b1)) g gm v s a b1 m O :=
  ⟨h.st.set_2 b1, h.mp.far h.ne.symm _, Kd.R_mono (Kd.R_far h.ro_ne (fun k hk => hk.2) _) (fun _ _ => trivial), below_set h.hb h.st.ge, h.kp.set_ _ _⟩
theorem IdsI.put (h : IdsI w0 w W g gm v s a b m O) (hw : w0.heap.size ≤ w.heap.size) {m1 : MSI} (hm : IsS70 w W1 gm m1) (hg : W.grownBy W1 (some gm)) : IdsI w0 w W1 g gm v s a b m1 O :=
  ⟨h.st.grown hg (fun e => h.ne (by injection e)), hm, Kd.R_mono (Kd.R_grown h.ro_nm hg (fun k hk e => hk.2 (by injection e))) (fun _ _ => trivial), h.hb.grown hg h.hb.size (fun k hk => by injection hk with hk; subst hk; have := h.mp.ge; omega), keep_grown h.kp hg (fun k hk => by injection hk with hk; subst hk; exact h.mp.ge)⟩
theorem IdsI.app (h : IdsI w0 w W g gm v s a b m O) (hw : w0.heap.size ≤ w.heap.size) {v1 : Value} {O1 : List ByteArray} (hr : Kd.R Kd.string 9 W1 w.heap.size (fun _ => True) v1 O1) (hg : W.grownBy W1 v.ownBlock) : IdsI w0 w W1 g gm v1 s a b m O1 :=
  ⟨h.st.grown hg (h.st.own_ne h.ro (by decide)), h.mp.grown hg (h.mp.own_ne h.ro (by decide)), hr, h.hb.grown hg h.hb.size (fun k hk => by have := Kd.R_base h.ro k hk; omega), keep_grown h.kp hg (fun k hk => Kd.R_base h.ro k hk)⟩
end
/-- what the map says of the commits that were met -/
def MetOf (m : MSI) (O : List ByteArray) : Prop := m.n = O.length ∧ ∀ x : ByteArray, m.f x.data.toList = if 0 ≤ plc x 0 O then some 1 else none
theorem metOf_nil : MetOf MSI.nil [] := ⟨rfl, fun x => by simp [MSI.nil, plc]⟩
theorem MetOf.get {m : MSI} {O : List ByteArray} (h : MetOf m O) (x : ByteArray) : MSI.get m x = if 0 ≤ plc x 0 O then 1 else 0 := by
  unfold MSI.get
  rw [h.2]
  split <;> rfl
theorem data_inj {a b : ByteArray} : a.data.toList = b.data.toList ↔ a = b := by rw [← ByteArray.toList_eq, ← ByteArray.toList_eq]; exact toList_inj
theorem MetOf.put {m : MSI} {O : List ByteArray} (h : MetOf m O) {x : ByteArray} (hx : ¬ 0 ≤ plc x 0 O) : MetOf (MSI.put m x 1) (O ++ [x]) := by
  refine ⟨by simp [MSI.put, h.1], fun y => ?_⟩
  simp only [MSI.put]
  have e : (0 ≤ plc y 0 (O ++ [x])) ↔ (y = x ∨ 0 ≤ plc y 0 O) := by
    rw [(plc_ge y (O ++ [x]) 0).1, (plc_ge y O 0).1, List.mem_append, List.mem_singleton]
    exact Or.comm
  by_cases g : y = x
  · rw [if_pos (data_inj.2 g), if_pos (e.2 (.inl g))]
  · rw [if_neg (fun hh => g (data_inj.1 hh)), h.2 y]
    by_cases g2 : 0 ≤ plc y 0 O
    · rw [if_pos g2, if_pos (e.2 (.inr g2))]
    · rw [if_neg g2, if_neg (fun hh => (e.1 hh).elim g g2)]
end Go.Proofs.Ytibnkopdkfjgpaa.Q


/- A map from ints to bitmaps that the call makes, as a state: how often it was written, and the value that stands at a key. -/
namespace Go.Proofs.Ytibnkopdkfjgpaa.Q
open Go.RowKit Go.Maps Go.Proofs.YtibnkopdkfjgpaaW.PrintWords Go.Proofs.YtibnkopdkfjgpaaW.PrintLast Go.Proofs.YtibnkopdkfjgpaaW.PrintMore
structure MIV where
  n : Nat
  f : Int → Option Value
def MIV.nil : MIV := ⟨0, fun _ => none⟩
def zeroBm : Value := .agg #[.int .i64 0, .slice none 0 0]
def MIV.get (m : MIV) (k : Int) : Value := (m.f k).getD zeroBm
def MIV.has (m : MIV) (k : Int) : Bool := (m.f k).isSome
def MIV.put (m : MIV) (k : Int) (v : Value) : MIV := ⟨m.n + 1, fun x => if x = k then some v else m.f x⟩
def heldR (v : Value) : Option (DataW Value × List MemPlace) := some (.held v, [])
def IsMV (w0 W : World) (g : Nat) (f0 : MIV) : Prop := w0.heap.size ≤ g ∧ ∃ D : DataW Value, W.ownsMap Try.prog 3 heldR g f0.n D ∧
  ∀ k : Int, D.atKey (.int .i64 k) (.held zeroBm) = .held ((f0.f k).getD zeroBm) ∧ Maps.has D (.int .i64 k) = (f0.f k).isSome
theorem mapLawV : Keyed Try.prog 3 := int_keyed Try.underlying3
theorem mapZeroV (w : World) : (zeroValue 25).run Try.prog w = .ok zeroBm w := by kernel_rfl
section
variable {w0 W W1 : World} {g : Nat} {f0 : MIV}
theorem IsMV.block (h : IsMV w0 W g f0) : ∃ es clock, W.heap[g]? = some (.map es clock) := by
  obtain ⟨_, D, ⟨es, c, hb, _⟩, _⟩ := h
  exact ⟨es, c, hb⟩
theorem IsMV.same (h : IsMV w0 W g f0) (e : W1.heap[g]? = W.heap[g]?) : IsMV w0 W1 g f0 := by
  obtain ⟨h0, D, ⟨es, c, hb, hr⟩, h2⟩ := h
  exact ⟨h0, D, ⟨es, c, e.trans hb, hr⟩, h2⟩
theorem IsMV.ge (h : IsMV w0 W g f0) : w0.heap.size ≤ g := h.1
theorem IsMV.lt (h : IsMV w0 W g f0) : g < W.heap.size := by
  obtain ⟨_, D, h1, _⟩ := h
  exact h1.lt
theorem IsMV.made (hb : W.ownsMap Try.prog 3 heldR g 0 (.map [])) (hg : w0.heap.size ≤ g) : IsMV w0 W g MIV.nil :=
  ⟨hg, .map [], hb, fun s => ⟨by simp [DataW.atKey, MIV.nil], by simp [Maps.has, MIV.nil]⟩⟩
end
section
variable {ops : Array Oper} {rest : List Oper} {o : Oper} {a : Act} {Q : Exit → Act → World → Prop} {w0 W : World} {g : Nat} {f0 : MIV}
theorem mkmapV_event (hgd : o.guard = none) {N : Tmp} (hd : o.dst = some N) (hop : o.op = .makeMap 54 none)
    (h : ∀ g, g = W.heap.size → ∀ w1, w1.ownsMap Try.prog 3 heldR g 0 (.map []) → Below W.heap.size W w1 → wpList Try.prog ops Q rest (a.put o.dst (.map (some g))) w1) : wpList Try.prog ops Q (o :: rest) a W := by
  have hmm := @run_makeMap Try.prog
  refine Kd.event_run hgd (v := .map (some W.heap.size)) (w1 := W.alloc (.map #[] 0)) ?_ (h _ rfl _ (World.ownsMap_made _ _ _ _) (below_alloc (Below.refl _ _) _))
  simp [execOp, hop, hmm, Result.andThen]
theorem IsMV.run_ok {k : Int} (h : IsMV w0 W g f0) (hk : (Lit.int .i64 k).wf = true) : (Instr.lookup 54 (.map (some g)) (.int .i64 k) true).run Try.prog W = .ok (.tuple #[MIV.get f0 k, .bool (MIV.has f0 k)]) W := by
  obtain ⟨h0, D, h1, h2⟩ := h
  obtain ⟨v, ps, hrun, hv⟩ := h1.look_ok mapLawV Try.underlying54 (mapZeroV _) (zd := .held zeroBm) (zp := []) rfl (keyOf_int_mk Try.underlying3 hk)
  rw [hrun, (h2 k).2]
  have e : v = MIV.get f0 k := by
    have h3 := congrArg Prod.fst (Option.some.inj hv)
    rw [(h2 k).1] at h3
    injection h3
  rw [e]
  rfl
theorem IsMV.look_ok {m x : Operand} {k : Int} (h : IsMV w0 W g f0) (hgd : o.guard = none) (hop : o.op = .lookup 54 m x true) (hm : a.eval m = .map (some g)) (hx : a.eval x = .int .i64 k) (hk : (Lit.int .i64 k).wf = true)
    (K : wpList Try.prog ops Q rest (a.put o.dst (.tuple #[MIV.get f0 k, .bool (MIV.has f0 k)])) W) : wpList Try.prog ops Q (o :: rest) a W := by
  have hrun := h.run_ok hk
  refine wpList_plain hgd fun K' hK' => ?_
  unfold Oper.wp
  simp [execOp, hop, hm, hx, hrun, Result.andThen]
  exact hK' _ _ K
theorem IsMV.look_is {m x : Operand} {k : Int} {u : Value} {tw : Bool} (h : IsMV w0 W g f0) (hu : MIV.get f0 k = u) (ht : MIV.has f0 k = tw) (hgd : o.guard = none) (hop : o.op = .lookup 54 m x true) (hm : a.eval m = .map (some g)) (hx : a.eval x = .int .i64 k) (hk : (Lit.int .i64 k).wf = true)
    (K : wpList Try.prog ops Q rest (a.put o.dst (.tuple #[u, .bool tw])) W) : wpList Try.prog ops Q (o :: rest) a W := by
  subst hu ht
  exact h.look_ok hgd hop hm hx hk K
theorem IsMV.put_ {m x v : Operand} {k : Int} {u : Value} (h : IsMV w0 W g f0) (hgd : o.guard = none) (hop : o.op = .mapUpdate 54 m x v) (hm : a.eval m = .map (some g)) (hx : a.eval x = .int .i64 k) (hv : a.eval v = u) (hk : (Lit.int .i64 k).wf = true) (hn : f0.n < 4611686018427387904)
    (K : ∀ w1, IsMV w0 w1 g (MIV.put f0 k u) → W.grownBy w1 (some g) → wpList Try.prog ops Q rest (a.put o.dst undef) w1) : wpList Try.prog ops Q (o :: rest) a W := by
  obtain ⟨h0, D, h1, h2⟩ := h
  refine wpList_mapUpdate_own _ hgd m x v 54 hop 3 25 mapLawV Try.underlying54 _ g f0.n D hm h1 (by unfold maxLen; omega) _ _ _ hx hv (keyOf_int_mk Try.underlying3 hk) (.held u) [] rfl ?_
  intro w1 hown hg
  refine K w1 ⟨h0, _, hown, fun s => ?_⟩ hg
  have hD : IsMap D := by
    obtain ⟨es, c, _, _, _, rfl⟩ := h1
    exact ⟨_, rfl⟩
  have hkl : WideAt.IsKeyLit (.int .i64 k) := trivial
  by_cases e : s = k
  · subst e
    refine ⟨?_, ?_⟩
    · rw [atKey_put_same hD hkl]; simp [MIV.put]
    · rw [has_put_same hD hkl]; simp [MIV.put]
  · have hne : (Lit.int .i64 s) ≠ .int .i64 k := fun h => e (by injection h)
    have := h2 s
    refine ⟨?_, ?_⟩
    · rw [atKey_put_other hne, this.1]; simp [MIV.put, e]
    · rw [has_put_other hne, this.2]; simp [MIV.put, e]
end
end Go.Proofs.Ytibnkopdkfjgpaa.Q


/- The reader's bitmaps by hand: what holds at each place of the walk. -/
namespace Go.Proofs.Ytibnkopdkfjgpaa.Q
open Go.RowKit Go.Proofs.YtibnkopdkfjgpaaW.PrintWords Go.Proofs.YtibnkopdkfjgpaaW.PrintLast Go.Proofs.YtibnkopdkfjgpaaW.PrintMore
open Bm
/-- one number more, told for the walk -/
theorem num_at (s : ByteArray) (hs : s.size ≤ 4294967296) (a : Int) (b : Bool) (m : Int) (h0 : 0 ≤ a) (ha : a.toNat ≤ s.size) (hm0 : 0 ≤ m) (hm1 : m ≤ 4294967296) :
    ∃ (K : Nat) (v a2 : Int) (b2 : Bool), bitmap_reader_num.f K s a b m = some (v, s, a2, b2) ∧ 0 ≤ v ∧ v ≤ m ∧ 0 ≤ a2 ∧ a2.toNat ≤ s.size ∧ (b2 = true → b = true ∨ numL (lf s a.toNat) m = none) ∧ (b2 = false → b = false ∧ ∃ c, numL (lf s a.toNat) m = some (v, c) ∧ lf s a2.toNat = (lf s a.toNat).drop c) := by
  obtain ⟨an, rfl⟩ := Int.eq_ofNat_of_zero_le h0
  rw [Int.toNat_natCast] at ha ⊢
  obtain ⟨K, hK⟩ := num_ev s hs an ha b m hm0 hm1
  refine ⟨K, (numP s an b m).1, (((numP s an b m).2.1 : Nat) : Int), (numP s an b m).2.2, hK K (Nat.le_refl _), ?_⟩
  rw [Int.toNat_natCast]
  unfold numP
  have hlr := lf_range s an
  have hll := lf_length s an
  cases b
  · rw [if_neg (by decide)]
    cases hn : numL (lf s an) m with
    | none => exact ⟨by simp, hm0, by simp, ha, fun _ => .inr rfl, fun h => by cases h⟩
    | some p =>
      obtain ⟨v, c⟩ := p
      have hr := numL_range hlr hn
      exact ⟨hr.1, hr.2.1, by simp; omega, by simp; omega, (fun h => by cases h), fun _ => ⟨rfl, c, rfl, (lf_drop s an c).symm⟩⟩
  · rw [if_pos rfl]
    exact ⟨by simp, hm0, by simp, ha, fun _ => .inl rfl, fun h => by cases h⟩
/-- the reader's state, and all else as it was -/
structure RdI (w0 w W : World) (g : Nat) (s : ByteArray) (a : Int) (b : Bool) : Prop where
  st : IsS52 w0 W g s a b
  hb : Below w0.heap.size w0 W
  kp : KeepBut w W g none
section
variable {w0 w W W1 : World} {g gm : Nat} {s : ByteArray} {a : Int} {b : Bool}
theorem RdI.below (h : RdI w0 w W g s a b) (hb : Below W.heap.size W W1) : RdI w0 w W1 g s a b := ⟨h.st.below hb, below_step h.hb hb, keep_grown h.kp (grown_of_below hb none) (by simp)⟩
theorem RdI.drewN (h : RdI w0 w W g s a b) (n : Nat) : RdI w0 w (W.drewN n) g s a b := ⟨h.st.drewN n, pw_below_drewN h.hb n, keep_drewN h.kp n⟩
theorem RdI.drew (h : RdI w0 w W g s a b) : RdI w0 w W.drew g s a b := ⟨h.st.drew, below_drew1 h.hb, keep_drew h.kp⟩
theorem RdI.alloc (h : RdI w0 w W g s a b) (o : Obj) : RdI w0 w (W.alloc o) g s a b := h.below (below_alloc (Below.refl _ _) o)
theorem RdI.num (h : RdI w0 w W g s a b) {a1 : Int} {b1 : Bool} (hs : IsS52 w0 W1 g s a1 b1) (hb : Below w0.heap.size w0 W1) (hk : KeepBut W W1 g none) : RdI w0 w W1 g s a1 b1 := ⟨hs, hb, h.kp.trans hk (.inl rfl)⟩
theorem RdI.far (h : RdI w0 w W g s a b) {gb j : Nat} (hp : w.heap.size ≤ gb) (hg : g < w.heap.size) (hw : w0.heap.size ≤ w.heap.size) (u : Value) : RdI w0 w (W.setCell ⟨gb, j, none⟩ u) g s a b := by
  refine ⟨h.st.far (p := ⟨gb, j, none⟩) (show g ≠ gb by omega) u, below_set h.hb (by omega), ⟨?_, fun i hi hne _ => ?_⟩⟩
  · exact Nat.le_trans h.kp.1 ((KeepBut.refl W gb none).set_ j u).1
  · rw [Below.heap_setCell _ _ _ _ (show i ≠ gb by omega)]
    exact h.kp.2 i hi hne (by simp)
theorem RdI.set2 (h : RdI w0 w W g s a b) (b1 : Bool) : RdI w0 w (W.setCell ⟨g, 2, none⟩ (.bool b1)) g s a b1 := ⟨h.st.set_2 b1, below_set h.hb h.st.ge, h.kp.set_ _ _⟩
theorem RdI.own (h : RdI w0 w W g s a b) {row : Option Nat} (hg : W.grownBy W1 row) (hr : ∀ k, row = some k → w.heap.size ≤ k) (hgl : g < w.heap.size) (hw : w0.heap.size ≤ w.heap.size) : RdI w0 w W1 g s a b :=
  ⟨h.st.grown hg (fun e => by have := hr g e.symm; omega), h.hb.grown hg h.hb.size (fun k hk => by have := hr k hk; omega), keep_grown h.kp hg hr⟩
end
/-- the bitmap that is read: its cell and its runs -/
structure RnI (w0 w W : World) (g gb : Nat) (v : Value) (s : ByteArray) (a : Int) (b : Bool) (n : Int) (r : List Int) : Prop where
  rd : RdI w0 w W g s a b
  cl : W.heap[gb]? = some (.cells #[.int .i64 n, v] 25 (0, 0))
  ge : w.heap.size ≤ gb
  ro : Kd.R (Kd.int .i64) 3 W w.heap.size (fun _ => True) v r
section
variable {w0 w W W1 : World} {g gb : Nat} {v : Value} {s : ByteArray} {a n : Int} {b : Bool} {r : List Int}
theorem Kd.int_apart {W : World} {base : Nat} {ok : Nat → Prop} {v : Value} {xs : List Int} {g : Nat} {cs : Array Value} {t : TypeId} {fr : Nat × Nat} (h : Kd.R (Kd.int .i64) 3 W base ok v xs) (hb : W.heap[g]? = some (.cells cs t fr)) (ht : 3 ≠ t) : Kd.R (Kd.int .i64) 3 W base (fun k => ok k ∧ k ≠ g) v xs := by
  refine Kd.R_mono (Kd.R_bound h) (fun k hk => ⟨hk.1, ?_⟩)
  rintro rfl
  obtain ⟨_, _, _, q, hq, cells, hc⟩ := hk
  rw [hb] at hc
  injection hc with hc
  injection hc with _ hc2 _
  have : q = 3 := by simpa [Kd.int, Kd.scalar] using hq
  exact ht (by rw [hc2, this])
theorem RnI.below (h : RnI w0 w W g gb v s a b n r) (hb : Below W.heap.size W W1) : RnI w0 w W1 g gb v s a b n r := ⟨h.rd.below hb, blk_below h.cl hb, h.ge, Kd.R_below h.ro hb⟩
theorem RnI.drewN (h : RnI w0 w W g gb v s a b n r) (m : Nat) : RnI w0 w (W.drewN m) g gb v s a b n r := ⟨h.rd.drewN m, blk_drewN h.cl m, h.ge, Kd.R_drewN h.ro m⟩
theorem RnI.drew (h : RnI w0 w W g gb v s a b n r) : RnI w0 w W.drew g gb v s a b n r := ⟨h.rd.drew, blk_drew h.cl, h.ge, Kd.R_drew h.ro⟩
theorem RnI.num (h : RnI w0 w W g gb v s a b n r) (hgl : g < w.heap.size) {a1 : Int} {b1 : Bool} (hs : IsS52 w0 W1 g s a1 b1) (hb : Below w0.heap.size w0 W1) (hk : KeepBut W W1 g none) : RnI w0 w W1 g gb v s a1 b1 n r :=
  ⟨h.rd.num hs hb hk, hk.blk h.cl (by have := h.ge; omega) (by simp), h.ge, Kd.R_mono (Kd.R_keep (h.rd.st.apart h.ro (fun q hq => by
    have : q = 3 := by simpa [Kd.int, Kd.scalar] using hq
    rw [this]; decide)) hk (fun _ hk => hk.2)) (fun _ _ => trivial)⟩
theorem RnI.app (h : RnI w0 w W g gb v s a b n r) (hgl : g < w.heap.size) (hw : w0.heap.size ≤ w.heap.size) {v1 : Value} {r1 : List Int} (hr : Kd.R (Kd.int .i64) 3 W1 w.heap.size (fun _ => True) v1 r1) (hg : W.grownBy W1 v.ownBlock) : RdI w0 w W1 g s a b ∧ W1.heap[gb]? = some (.cells #[.int .i64 n, v] 25 (0, 0)) :=
  ⟨h.rd.own hg (fun k hk => Kd.R_base h.ro k hk) hgl hw, blk_grown h.cl hg (Kd.R_ne h.ro h.cl (by decide))⟩
end
/-- the bitmaps that a map holds -/
def Vals (w W : World) (n : Int) (F : MIV) (P : List (Int × List Int)) : Prop :=
  ∀ k : Int, (k ∉ P.map Prod.fst → F.f k = none) ∧ ∀ r, (k, r) ∈ P → ∃ A c, F.f k = some (.agg #[.int .i64 n, .slice A r.length c]) ∧ Kd.R (Kd.int .i64) 3 W w.heap.size (fun _ => True) (.slice A r.length c) r
theorem Vals.nil (w W : World) (n : Int) : Vals w W n MIV.nil [] := fun k => ⟨fun _ => rfl, fun r h => by cases h⟩
theorem Vals.keep {w W W1 : World} {n : Int} {F : MIV} {P : List (Int × List Int)} {g : Nat} {cs : Array Value} {t : TypeId} {fr : Nat × Nat} (h : Vals w W n F P) (hb : W.heap[g]? = some (.cells cs t fr)) (ht : 3 ≠ t) (hk : KeepBut W W1 g none) : Vals w W1 n F P := fun k => ⟨(h k).1, fun r hr => by
  obtain ⟨A, c, h1, h2⟩ := (h k).2 r hr
  exact ⟨A, c, h1, Kd.R_mono (Kd.R_keep (Kd.int_apart h2 hb ht) hk (fun _ hk => hk.2)) (fun _ _ => trivial)⟩⟩
theorem IsMV.apart {w0 W : World} {g : Nat} {f0 : MIV} {base : Nat} {ok : Nat → Prop} {v : Value} {xs : List Int} (h : IsMV w0 W g f0) (ho : Kd.R (Kd.int .i64) 3 W base ok v xs) : Kd.R (Kd.int .i64) 3 W base (fun k => ok k ∧ k ≠ g) v xs := by
  obtain ⟨es, c, hb⟩ := h.block
  refine Kd.R_mono (Kd.R_bound ho) (fun k hk => ⟨hk.1, ?_⟩)
  rintro rfl
  obtain ⟨_, _, _, q, _, cells, hc⟩ := hk
  rw [hc] at hb
  cases hb
theorem Vals.put {w W W1 : World} {n : Int} {F : MIV} {P : List (Int × List Int)} {gm : Nat} {p : Int} {r : List Int} {A : Option Addr} {c : Nat} (h : Vals w W n F P) (hm : IsMV w W gm F) (hg : W.grownBy W1 (some gm)) (hp : p ∉ P.map Prod.fst) (hr : Kd.R (Kd.int .i64) 3 W w.heap.size (fun _ => True) (.slice A r.length c) r) : Vals w W1 n (MIV.put F p (.agg #[.int .i64 n, .slice A r.length c])) (P ++ [(p, r)]) := by
  have mv : ∀ {v : Value} {xs : List Int}, Kd.R (Kd.int .i64) 3 W w.heap.size (fun _ => True) v xs → Kd.R (Kd.int .i64) 3 W1 w.heap.size (fun _ => True) v xs := fun hx => Kd.R_mono (Kd.R_grown (hm.apart hx) hg (fun k hk e => hk.2 (by injection e))) (fun _ _ => trivial)
  intro k
  rw [List.map_append]
  simp only [MIV.put, List.map_cons, List.map_nil, List.mem_append, List.mem_singleton]
  by_cases e : k = p
  · subst e
    refine ⟨fun hh => absurd (Or.inr rfl) hh, fun r2 hr2 => ?_⟩
    rcases hr2 with hr2 | hr2
    · exact absurd (List.mem_map.2 ⟨_, hr2, rfl⟩) hp
    · injection hr2 with _ e2
      subst e2
      exact ⟨A, c, if_pos rfl, mv hr⟩
  · rw [if_neg e]
    refine ⟨fun hh => (h k).1 (fun h2 => hh (.inl h2)), fun r2 hr2 => ?_⟩
    rcases hr2 with hr2 | hr2
    · obtain ⟨A2, c2, h3, h4⟩ := (h k).2 r2 hr2
      exact ⟨A2, c2, h3, mv h4⟩
    · injection hr2 with e1 _
      exact absurd e1 e
theorem Vals.has {w W : World} {n : Int} {F : MIV} {P : List (Int × List Int)} (h : Vals w W n F P) (k : Int) : MIV.has F k = decide (k ∈ P.map Prod.fst) := by
  unfold MIV.has
  by_cases g : k ∈ P.map Prod.fst
  · obtain ⟨⟨k1, r⟩, h1, rfl⟩ := List.mem_map.1 g
    obtain ⟨A, c, h2, _⟩ := (h k1).2 r h1
    rw [h2, decide_eq_true g]; rfl
  · rw [(h k).1 g, decide_eq_false g]; rfl
/-- what is left of one bitmap, and of the rest -/
def finL (n : Int) (j : Nat) (P : List (Int × List Int)) (p : Int) (r : List Int × List Int) : Option (List (Int × List Int) × List Int) :=
  if vd n r.1 = true ∧ p ∈ lst n r.1 then (if p ∈ P.map Prod.fst then none else picksL j n r.2 (P ++ [(p, r.1)])) else none
theorem picksL_succ (n : Int) (j : Nat) (l : List Int) (P : List (Int × List Int)) : picksL (j + 1) n l P = (numL l (n - 1)).bind fun p => (numL (l.drop p.2) (n + 1)).bind fun q => (runsL q.1.toNat n ((l.drop p.2).drop q.2) []).bind (finL n j P p.1) := by
  rw [picksL, pickL]
  cases numL l (n - 1) with
  | none => rfl
  | some p =>
    simp only [Option.bind_some]
    cases numL (l.drop p.2) (n + 1) with
    | none => rfl
    | some q =>
      simp only [Option.bind_some]
      cases runsL q.1.toNat n ((l.drop p.2).drop q.2) [] with
      | none => rfl
      | some r =>
        simp only [Option.bind_some, finL]
        split <;> rfl
end Go.Proofs.Ytibnkopdkfjgpaa.Q


/- Query's closure by hand: what is got of some commits. -/
namespace Go.Proofs.Ytibnkopdkfjgpaa.Q
open Go.RowKit Go.Proofs.YtibnkopdkfjgpaaW.PrintWords Go.Proofs.YtibnkopdkfjgpaaW.PrintLast Go.Proofs.YtibnkopdkfjgpaaW.PrintMore
open Bm
structure AllI (w W : World) (gr gq : Nat) (v : Value) (n : Int) (X : List Bool) : Prop where
  hb : Below w.heap.size w W
  rc : W.heap[gr]? = some (.cells #[.int .i64 0, .slice none 0 0] 25 (0, 0))
  rg : w.heap.size ≤ gr
  cl : W.heap[gq]? = some (.cells #[.int .i64 n, v] 25 (0, 0))
  cg : w.heap.size ≤ gq
  ne : gr ≠ gq
  ro : Kd.R (Kd.int .i64) 3 W w.heap.size (fun _ => True) v (enc X)
section
variable {w W W1 : World} {gr gq : Nat} {v : Value} {n : Int} {X : List Bool}
theorem AllI.below (h : AllI w W gr gq v n X) (hb : Below W.heap.size W W1) : AllI w W1 gr gq v n X := ⟨below_step h.hb hb, blk_below h.rc hb, h.rg, blk_below h.cl hb, h.cg, h.ne, Kd.R_below h.ro hb⟩
theorem AllI.drewN (h : AllI w W gr gq v n X) (m : Nat) : AllI w (W.drewN m) gr gq v n X := ⟨pw_below_drewN h.hb m, blk_drewN h.rc m, h.rg, blk_drewN h.cl m, h.cg, h.ne, Kd.R_drewN h.ro m⟩
theorem AllI.drew (h : AllI w W gr gq v n X) : AllI w W.drew gr gq v n X := ⟨below_drew1 h.hb, blk_drew h.rc, h.rg, blk_drew h.cl, h.cg, h.ne, Kd.R_drew h.ro⟩
theorem AllI.far (h : AllI w W gr gq v n X) {gc j : Nat} {cs : Array Value} {fr : Nat × Nat} (hc : W.heap[gc]? = some (.cells cs 25 fr)) (hw : w.heap.size ≤ gc) (h1 : gr ≠ gc) (h2 : gq ≠ gc) (u : Value) : AllI w (W.setCell ⟨gc, j, none⟩ u) gr gq v n X :=
  ⟨below_set h.hb hw, blk_far (p := ⟨gc, j, none⟩) h.rc h1 u, h.rg, blk_far (p := ⟨gc, j, none⟩) h.cl h2 u, h.cg, h.ne, Kd.R_mono (Kd.R_far (p := ⟨gc, j, none⟩) (Kd.int_apart h.ro hc (by decide)) (fun _ hk => hk.2) u) (fun _ _ => trivial)⟩
/-- what has been got is laid in its place -/
theorem AllI.lay (h : AllI w W gr gq v n X) {u : Value} {Y : List Bool} (hr : Kd.R (Kd.int .i64) 3 W w.heap.size (fun _ => True) u (enc Y)) : AllI w ((W.setCell ⟨gq, 0, none⟩ (.int .i64 n)).setCell ⟨gq, 1, none⟩ u) gr gq u n Y := by
  have hb1 := blk_set h.cl 0 (.int .i64 n)
  have hr1 := Kd.R_mono (ok' := fun _ => True) (Kd.R_far (p := ⟨gq, 0, none⟩) (Kd.int_apart hr h.cl (by decide)) (fun _ hk => hk.2) (.int .i64 n)) (fun _ _ => trivial)
  refine ⟨below_set (below_set h.hb h.cg) h.cg, blk_far (p := ⟨gq, 1, none⟩) (blk_far (p := ⟨gq, 0, none⟩) h.rc h.ne _) h.ne _, h.rg, ?_, h.cg, h.ne, Kd.R_mono (Kd.R_far (p := ⟨gq, 1, none⟩) (Kd.int_apart hr1 hb1 (by decide)) (fun _ hk => hk.2) u) (fun _ _ => trivial)⟩
  have := blk_set hb1 1 u
  simpa using this
end
/-- what the closure finds when it is called -/
structure AllP (wb w : World) (go gp gm : Nat) (Ao Al : Option Addr) (co cl : Nat) (O l : List ByteArray) (n : Int) (F : MIV) (P : List (Int × List Int)) : Prop where
  ho : w.heap[go]? = some (.cells #[.slice Ao O.length co] 35 (0, 0))
  hp : w.heap[gp]? = some (.cells #[.map (some gm)] 54 (0, 0))
  oc : Kd.C Kd.string w Ao O.length O
  ol : O.length ≤ co
  on : (O.length : Int) = n
  n1 : n ≤ 65536
  mp : IsMV wb w gm F
  vs : Vals wb w n F P
  vv : ∀ x ∈ P, vd n x.2 = true
  lc : Kd.C Kd.string w Al l.length l
  ll : l.length ≤ cl
  l1 : l.length ≤ 1099511627776
def AllPost (w : World) (n : Int) (R : Option (List Bool)) (e : Ending) (w' : World) : Prop :=
  ∃ (x : Int) (A : Option Addr) (len c : Nat) (ok : Bool), e = .returned (.tuple #[.agg #[.int .i64 x, .slice A len c], .bool ok]) ∧ Below w.heap.size w w' ∧ (ok = false → R = none) ∧ (ok = true → ∃ X : List Bool, R = some X ∧ (X.length : Int) = n ∧ x = n ∧ Kd.R (Kd.int .i64) 3 w' w.heap.size (fun _ => True) (.slice A len c) (enc X))
theorem ofB_nil {n : Int} (h0 : 0 ≤ n) (h1 : n ≤ 1048576) : ofB n [] = (n, enc (List.replicate n.toNat false), 0) := by
  unfold ofB
  rw [if_neg (by omega), if_pos (by rfl)]
  rfl
def all.T5 : Bool × List (List Nat × List Nat) := (true, [([], []), ([], []), ([], []), ([1, 2], [1, 2]), ([0, 3], [0, 3]), ([4], [4]), ([5], [5]), ([5], [5]), ([], []), ([8, 6, 3, 0, 1, 2, 3, 4, 5, 6, 8], [6, 8]), ([7, 9, 0, 1, 2, 3, 4, 5, 6, 7, 8, 9], [7])])
def all.B5 : List Nat := [0, 0, 0, 6, 15, 31, 63, 63, 0, 383, 1023]
theorem all.tab5 : rtab .any (opsOf Try.f39 5) = all.T5 := by kernel_rfl
theorem all.bits5 : waitsOk all.T5.2 all.B5 = true := by kernel_rfl
set_option maxHeartbeats 16000000 in
set_option maxRecDepth 100000 in
theorem all_calls (wb w : World) (go gp gm : Nat) (Ao Al : Option Addr) (co cl : Nat) (O l : List ByteArray) (n : Int) (F : MIV) (P : List (Int × List Int)) (hP : AllP wb w go gp gm Ao Al co cl O l n F P) :
    Calls Try.prog 39 #[.slice Al l.length cl, .pointer (some ⟨go, 0, none⟩), .pointer (some ⟨gp, 0, none⟩)] w (AllPost w n (gotL O P l (List.replicate O.length false))) := by
  have HP := Aside0.mk hP
  have hn0 : 0 ≤ n := by have := hP.on; omega
  have hn1 : n ≤ 1048576 := by have := hP.n1; omega
  obtain ⟨KO, hKO⟩ := Of_ev n [] (by simp)
  have hKO := hKO KO (Nat.le_refl _)
  rw [ofB_nil hn0 hn1] at hKO
  have HKO := Aside0.mk hKO
  have HN0 := Aside0.mk (And.intro hn0 hn1)
  obtain ⟨R, hR⟩ : ∃ R, gotL O P l (List.replicate O.length false) = R := ⟨_, rfl⟩
  have HRR := Aside0.mk hR
  have hcgo := blk_cell hP.ho 0
  have hcgp := blk_cell hP.hp 0
  have hon := hP.on
  rw [hR]
  clear hKO hn0 hn1 hR hP
  go_enter Try.func39, Try.ntmps39
  go_upto_region 2 with (first | ((with_reducible refine gate_dst (N := 4) rfl ?_); refine box_event ?hg (N := 4) ?hd (cs := #[.int .i64 0, .slice none 0 0]) (t := 25) ?hr ?_; (case hd => rfl); (case hg => rfl); (case hr => first | (go_simp; done) | (go_simp; rfl)); intro gr hgr w1 hbox hb1; have H1 := Aside0.mk (And.intro hgr (And.intro hbox hb1)); clear hgr; have hcgo := (hb1.cell (World.block_lt_of_cell? w _ hcgo)).trans hcgo; clear hbox hb1) | (go_at_call 8; refine calls_of_args (args' := #[.int .i64 n, .slice none 0 0]) (by with_reducible rfl) ?_; refine (bitmap_Of.calls KO n none 0 [] n (enc (List.replicate n.toNat false)) 0 _ (Kd.C_nil _ _) (Nat.zero_le _) HKO.out).mono ?_; rintro e w2 ⟨v1, rfl, ho, hb2⟩; have H2 := Aside0.mk (And.intro ho hb2); clear ho hb2; obtain ⟨A1, c1, e1⟩ := Kd.R_slice H2.out.1; subst e1) | ((with_reducible refine gate_dst (N := 6) rfl ?_); refine box_event ?hg (N := 6) ?hd (cs := #[.int .i64 0, .slice none 0 0]) (t := 25) ?hr ?_; (case hd => rfl); (case hg => rfl); (case hr => first | (go_simp; done) | (go_simp; rfl)); intro gq hgq w3 hbox hb3; have H3 := Aside0.mk (And.intro hgq (And.intro hbox hb3)); have hfz0 := blk_frozen hbox 0; have hfz1 := blk_frozen hbox 1; have hcc0 := blk_cell hbox 0; have hcc1 := blk_cell hbox 1; clear hgq hbox hb3))
  obtain ⟨hg1, hb1, hl1⟩ := H1.out
  obtain ⟨ho2, hl2⟩ := H2.out
  obtain ⟨hg3, hb3, hl3⟩ := H3.out
  have HA0 : Aside0 (AllI w ((w3.setCell ⟨gq, 0, none⟩ (.int .i64 n)).setCell ⟨gq, 1, none⟩ (.slice A1 (enc (List.replicate n.toNat false)).length c1)) gr gq (.slice A1 (enc (List.replicate n.toNat false)).length c1) n (List.replicate n.toNat false)) := ⟨by
    have e1 := hl1.size
    have e2 := hl2.size
    have hne : gr ≠ gq := by have h1 := blk_lt hb1; omega
    have hr0 := Kd.R_below (Kd.R_lower ho2 e1) hl3
    have hb1' := blk_set hb3 0 (.int .i64 n)
    have hr1 := Kd.R_mono (ok' := fun _ => True) (Kd.R_far (p := ⟨gq, 0, none⟩) (Kd.int_apart hr0 hb3 (by decide)) (fun _ hk => hk.2) (.int .i64 n)) (fun _ _ => trivial)
    refine ⟨below_set (below_set (below_step (below_step hl1 hl2) hl3) (by omega)) (by omega), blk_far (p := ⟨gq, 1, none⟩) (blk_far (p := ⟨gq, 0, none⟩) (blk_below (blk_below hb1 hl2) hl3) hne _) hne _, by omega, ?_, by omega, hne, Kd.R_mono (Kd.R_far (p := ⟨gq, 1, none⟩) (Kd.int_apart hr1 hb1' (by decide)) (fun _ hk => hk.2) _) (fun _ _ => trivial)⟩
    have := blk_set hb1' 1 (.slice A1 (enc (List.replicate n.toNat false)).length c1)
    simpa using this⟩
  clear hg1 hb1 hl1 ho2 hl2 hg3 hb3 hl3 H1 H2 H3 hfz0 hfz1 hcc0 hcc1
  generalize (w3.setCell ⟨gq, 0, none⟩ (.int .i64 n)).setCell ⟨gq, 1, none⟩ (.slice A1 (enc (List.replicate n.toNat false)).length c1) = w4 at HA0 ⊢
  have HX0 : Aside0 ((0 : Int) ≤ 0 ∧ (0 : Int) ≤ l.length ∧ ((l.length : Int) - 0).toNat ≤ l.length ∧ ((List.replicate n.toNat false).length : Int) = n ∧ gotL O P (l.drop (0 : Int).toNat) (List.replicate n.toNat false) = R) := ⟨by
    have h1 := HN0.out
    refine ⟨by omega, by omega, by omega, by rw [List.length_replicate]; omega, ?_⟩
    have e : n.toNat = O.length := by have := HP.out.on; omega
    rw [e]; exact HRR.out⟩
  clear hcgo hcgp HRR HKO
  go_wp2
  go_loopg [20] l.length (fun kq v20 wr => ∃ (i : Int) (X : List Bool) (v : Value), v20 = .int .i64 i ∧ Aside0 (AllI w wr gr gq v n X) ∧ Aside0 (0 ≤ i ∧ i ≤ l.length ∧ ((l.length : Int) - i).toNat ≤ kq ∧ (X.length : Int) = n ∧ gotL O P (l.drop i.toNat) X = R))
  case atStart => exact ⟨0, _, _, rfl, HA0, HX0⟩
  case round =>
    clear HA0 HX0
    obtain ⟨i, X, v, rfl, HA, HX⟩ := hrel
    obtain ⟨Aq, cq, eq⟩ := Kd.R_slice HA.out.ro
    subst eq
    by_cases hi : i < (l.length : Int)
    · have ht : decide (i < (l.length : Int)) = true := decide_eq_true hi
      have hi0 := HX.out.1
      obtain ⟨ad, ead, hx⟩ := Kd.at_string HP.out.lc i hi0 hi
      cases ead
      have hx2 := (HA.out.hb.cell (World.block_lt_of_cell? w _ hx)).trans hx
      obtain ⟨id, hid⟩ : ∃ id, rdOf ByteArray.empty l i = id := ⟨_, rfl⟩
      rw [hid] at hx2
      have HID := Aside0.mk hid
      have HLT := Aside0.mk hi
      have p0 := eq_true hi0
      have q0 := eq_true hi
      clear hx hid hi hi0
      go_upto_region 5 with (fail)
      clear hx2
      obtain ⟨kk, hkk⟩ : ∃ kk, plc id 0 O = kk := ⟨_, rfl⟩
      have hOl : O.length ≤ 1099511627776 := by have h1 := HP.out.on; have h2 := HP.out.n1; omega
      obtain ⟨KI, hKI⟩ := Index_ev O id hOl
      have hKI := hKI KI (Nat.le_refl _)
      rw [hkk] at hKI
      have HI := Aside0.mk hKI
      have HKK := Aside0.mk hkk
      have hwf : (Lit.int .i64 kk).wf = true := by
        have h1 := (plc_ge id O 0).2
        rw [hkk] at h1
        have e : wrap64 kk = kk := wrap_id (by omega) (by omega)
        rw [← e]; exact wrap64_wf _
      clear hKI hkk hOl
      have HGET : Aside0 (∃ (ux : Int) (uA : Option Addr) (ul uc : Nat) (tw : Bool), MIV.get F kk = .agg #[.int .i64 ux, .slice uA ul uc] ∧ MIV.has F kk = tw ∧ (tw = false → lookL P kk = none) ∧ (tw = true → ∃ r, lookL P kk = some r ∧ ux = n ∧ ul = r.length ∧ Kd.R (Kd.int .i64) 3 w wb.heap.size (fun _ => True) (.slice uA r.length uc) r)) := ⟨by
        cases hlk : lookL P kk with
        | none =>
          have h1 := (HP.out.vs kk).1 (lookL_none.1 hlk)
          exact ⟨0, none, 0, 0, false, by simp [MIV.get, h1, zeroBm], by simp [MIV.has, h1], fun _ => rfl, fun h => by cases h⟩
        | some r =>
          obtain ⟨A, c, h1, h2⟩ := (HP.out.vs kk).2 r (lookL_some hlk)
          exact ⟨n, A, r.length, c, true, by simp [MIV.get, h1], by simp [MIV.has, h1], (fun h => by cases h), fun _ => ⟨r, rfl, rfl, rfl, h2⟩⟩⟩
      obtain ⟨ux, uA, ul, uc, tw, hu, htw, hl1, hl2⟩ := HGET.out
      have HTW := Aside0.mk (And.intro hl1 hl2)
      have HMV : Aside0 (∀ W, Below w.heap.size w W → (Instr.lookup 54 (.map (some gm)) (.int .i64 kk) true).run Try.prog W = .ok (.tuple #[.agg #[.int .i64 ux, .slice uA ul uc], .bool tw]) W) := ⟨fun W h => by
        rw [← hu, ← htw]
        exact (HP.out.mp.same (h.block _ HP.out.mp.lt)).run_ok hwf⟩
      clear hu htw hl1 hl2 HGET hwf
      go_cut [10, 11] (fun v10 v11 wc => ∃ gc : Nat, v10 = .pointer (some ⟨gc, 0, none⟩) ∧ v11 = .bool tw ∧ Aside0 (AllI w wc gr gq (.slice Aq (enc X).length cq) n X) ∧ Aside0 (wc.heap[gc]? = some (.cells #[.int .i64 ux, .slice uA ul uc] 25 (0, 0)) ∧ gr ≠ gc ∧ gq ≠ gc))
      case first =>
        refine start_ (n := 11) (S := fun w' => w'.cell? ⟨gp, 0, none⟩ = some (.map (some gm)) ∧ w'.cell? ⟨go, 0, none⟩ = some (.slice Ao O.length co) ∧ Below w.heap.size w w') (ds := []) #[false, false, false, false, false, false, false, false, false, false, false] (by kernel_rfl) rfl rfl ⟨(blk_cell (blk_below HP.out.hp HA.out.hb) 0).trans rfl, (blk_cell (blk_below HP.out.ho HA.out.hb) 0).trans rfl, HA.out.drew.hb⟩ (fun hHeld => ?_); refine with_tabW all.tab5 all.bits5 (fun HT_ HW_ => ?_)
        have HA1 := Aside0.mk HA.out.drew
        clear HA
        generalize wr.drew = w5 at HA1 hHeld ⊢
        refine take_ (i := 0) (N := some 25) (v := ?_) (a' := ?_) #[true, false, false, false, false, false, false, false, false, false, false] rfl rfl (take_ofW HT_.out HW_.out (by kernel_rfl)) (fun _ _ _ h => h) (Or.inl ⟨by rfl, ?_⟩) hHeld ?_ ?_
        rotate_left
        · rintro w' ⟨s0, s1, s2⟩
          go_simp
          with_reducible rfl
        rotate_left
        · simp only [Act.put, List.setIfInBounds_toArray, List.set_cons_zero, List.set_cons_succ, i64_w, i32_w]
          rfl
        refine take_ (i := 1) (N := some 26) (v := ?_) (a' := ?_) #[true, true, false, false, false, false, false, false, false, false, false] rfl rfl (take_ofW HT_.out HW_.out (by kernel_rfl)) (fun _ _ _ h => h) (Or.inl ⟨by rfl, ?_⟩) hHeld ?_ ?_
        rotate_left
        · rintro w' ⟨s0, s1, s2⟩
          go_simp
          with_reducible rfl
        rotate_left
        · simp only [Act.put, List.setIfInBounds_toArray, List.set_cons_zero, List.set_cons_succ, i64_w, i32_w]
          rfl
        refine pure_ (i := 2) (N := some 27) (v := ?_) (a' := ?_) #[true, true, true, false, false, false, false, false, false, false, false] rfl rfl (any_of HT_.out (by kernel_rfl)) (fun _ _ _ h => h) (Or.inl ⟨by rfl, ?_⟩) ?_ ?_
        rotate_left
        · intro w'
          go_simp
          with_reducible rfl
        rotate_left
        · simp only [Act.put, List.setIfInBounds_toArray, List.set_cons_zero, List.set_cons_succ, i64_w, i32_w]
          rfl
        refine two_ (i := 3) (j := 8) (Ni := some 28) (Nj := some 10) #[true, true, true, true, false, false, false, false, false, false, false] #[true, true, true, false, false, false, false, false, true, false, false] rfl rfl rfl rfl (two_of HT_.out (by kernel_rfl)) (by decide) (by decide) (fun K hK => ?_) (fun K hK => ?_)
        · refine goes_ Try.func40 (by kernel_rfl) rfl #[.slice Ao O.length co, .string id] (by rfl) rfl rfl (by (try simp only [List.map_toArray, List.map_cons, List.map_nil]); first | done | rfl) ?_
          with_reducible refine (slices_Index_string_string.calls KI Ao co O id kk _ (Kd.C_below HP.out.oc HA1.out.hb) HP.out.ol HI.out).mono ?_
          rintro e w' ⟨rfl, ⟨nd, rfl⟩⟩
          refine ⟨_, rfl, ?_⟩
          have HA2 := Aside0.mk (HA1.out.drewN nd)
          clear HA1
          generalize w5.drewN nd = w6 at HA2 ⊢
          refine hK.out _ _ ⟨(blk_cell (blk_below HP.out.hp HA2.out.hb) 0).trans rfl, (blk_cell (blk_below HP.out.ho HA2.out.hb) 0).trans rfl, HA2.out.hb⟩ (fun hHeld => ?_)
          clear hK K
          refine norm_ (a' := ?_) ?_ ?_
          rotate_left
          · show Act.put _ (some 28) _ = _
            simp only [Act.put, List.setIfInBounds_toArray, List.set_cons_zero, List.set_cons_succ, i64_w, i32_w]
            rfl
          refine take_ (i := 4) (N := some 29) (v := ?_) (a' := ?_) #[true, true, true, true, true, false, false, false, false, false, false] rfl rfl (take_ofW HT_.out HW_.out (by kernel_rfl)) (fun _ _ _ h => h) (Or.inl ⟨by rfl, ?_⟩) hHeld ?_ ?_
          rotate_left
          · rintro w' ⟨s0, s1, s2⟩
            have hrun := HMV.out w' s2
            go_simp
            with_reducible rfl
          rotate_left
          · simp only [Act.put, List.setIfInBounds_toArray, List.set_cons_zero, List.set_cons_succ, i64_w, i32_w]
            rfl
          refine pure_ (i := 5) (N := some 24) (v := ?_) (a' := ?_) #[true, true, true, true, true, true, false, false, false, false, false] rfl rfl (any_of HT_.out (by kernel_rfl)) (fun _ _ _ h => h) (Or.inl ⟨by rfl, ?_⟩) ?_ ?_
          rotate_left
          · intro w'
            go_simp
            with_reducible rfl
          rotate_left
          · simp only [Act.put, List.setIfInBounds_toArray, List.set_cons_zero, List.set_cons_succ, i64_w, i32_w]
            rfl
          refine pure_ (i := 6) (N := some 30) (v := ?_) (a' := ?_) #[true, true, true, true, true, true, true, false, false, false, false] rfl rfl (any_of HT_.out (by kernel_rfl)) (fun _ _ _ h => h) (Or.inl ⟨by rfl, ?_⟩) ?_ ?_
          rotate_left
          · intro w'
            go_simp
            with_reducible rfl
          rotate_left
          · simp only [Act.put, List.setIfInBounds_toArray, List.set_cons_zero, List.set_cons_succ, i64_w, i32_w]
            rfl
          refine pure_ (i := 7) (N := some 31) (v := ?_) (a' := ?_) #[true, true, true, true, true, true, true, true, false, false, false] rfl rfl (any_of HT_.out (by kernel_rfl)) (fun _ _ _ h => h) (Or.inl ⟨by rfl, ?_⟩) ?_ ?_
          rotate_left
          · intro w'
            go_simp
            with_reducible rfl
          rotate_left
          · simp only [Act.put, List.setIfInBounds_toArray, List.set_cons_zero, List.set_cons_succ, i64_w, i32_w]
            rfl
          refine one_ (i := 8) (N := some 10) #[true, true, true, true, true, true, true, true, true, false, false] rfl rfl (one_of HT_.out (by kernel_rfl)) (by decide) (fun K hK => ?_)
          refine value_ (w1 := ?_) (v := ?_) (by rfl) rfl ?_ ?_
          rotate_left 2
          · go_simp
            constructor
            · rfl
            · rfl
          have HA3 : Aside0 (AllI w (w6.alloc (.cells #[.int .i64 0, .slice none 0 0] 25)) gr gq (.slice Aq (enc X).length cq) n X) := ⟨HA2.out.below (below_alloc (Below.refl _ _) _)⟩
          have HBX : Aside0 ((w6.alloc (.cells #[.int .i64 0, .slice none 0 0] 25)).heap[w6.heap.size]? = some (.cells #[.int .i64 0, .slice none 0 0] 25 (0, 0)) ∧ w.heap.size ≤ w6.heap.size ∧ gr ≠ w6.heap.size ∧ gq ≠ w6.heap.size) := ⟨heap_alloc_new w6 _, HA2.out.hb.size, by have h1 := blk_lt HA2.out.rc; omega, by have h1 := blk_lt HA2.out.cl; omega⟩
          clear HA2
          refine hK.out _ _ ⟨(blk_cell (blk_below HP.out.hp HA3.out.hb) 0).trans rfl, (blk_cell (blk_below HP.out.ho HA3.out.hb) 0).trans rfl, HA3.out.hb⟩ (fun hHeld => ?_)
          clear hK K
          refine norm_ (a' := ?_) ?_ ?_
          rotate_left
          · show Act.put _ (some 10) _ = _
            simp only [Act.put, List.setIfInBounds_toArray, List.set_cons_zero, List.set_cons_succ, i64_w, i32_w]
            rfl
          generalize w6.alloc (.cells #[.int .i64 0, .slice none 0 0] 25) = w7 at HA3 HBX hHeld ⊢
          generalize w6.heap.size = gc at HBX ⊢
          have hs0 : w7.cell? ⟨gc, 0, none⟩ = some (.int .i64 0) := (blk_cell HBX.out.1 0).trans rfl
          have hs1 : w7.cell? ⟨gc, 1, none⟩ = some (.slice none 0 0) := (blk_cell HBX.out.1 1).trans rfl
          have hf0 := blk_frozen HBX.out.1 0
          have hf1 := blk_frozen HBX.out.1 1
          refine one_ (i := 9) (N := none) #[true, true, true, true, true, true, true, true, true, true, false] rfl rfl (one_of HT_.out (by kernel_rfl)) (by decide) (fun K hK => ?_)
          refine skip_ (w1 := ?_) (by rfl) rfl ?_ ?_
          rotate_left
          · go_simp
            rfl
          have HA9 : Aside0 (AllI w ((w7.setCell ⟨gc, 0, none⟩ (.int .i64 ux)).setCell ⟨gc, 1, none⟩ (.slice uA ul uc)) gr gq (.slice Aq (enc X).length cq) n X) := ⟨(HA3.out.far HBX.out.1 HBX.out.2.1 HBX.out.2.2.1 HBX.out.2.2.2 _).far (blk_set HBX.out.1 0 (.int .i64 ux)) HBX.out.2.1 HBX.out.2.2.1 HBX.out.2.2.2 _⟩
          have HC9 : Aside0 (((w7.setCell ⟨gc, 0, none⟩ (.int .i64 ux)).setCell ⟨gc, 1, none⟩ (.slice uA ul uc)).heap[gc]? = some (.cells #[.int .i64 ux, .slice uA ul uc] 25 (0, 0)) ∧ gr ≠ gc ∧ gq ≠ gc) := ⟨by have := blk_set (blk_set HBX.out.1 0 (.int .i64 ux)) 1 (.slice uA ul uc); simpa using this, HBX.out.2.2.1, HBX.out.2.2.2⟩
          refine hK.out _ _ ⟨(blk_cell (blk_below HP.out.hp HA9.out.hb) 0).trans rfl, (blk_cell (blk_below HP.out.ho HA9.out.hb) 0).trans rfl, HA9.out.hb⟩ (fun hHeld => ?_)
          clear hK K
          refine pure_ (i := 10) (N := some 11) (v := ?_) (a' := ?_) #[true, true, true, true, true, true, true, true, true, true, true] rfl rfl (any_of HT_.out (by kernel_rfl)) (fun _ _ _ h => h) (Or.inl ⟨by rfl, ?_⟩) ?_ ?_
          rotate_left
          · intro w'
            go_simp
            with_reducible rfl
          rotate_left
          · simp only [Act.put, List.setIfInBounds_toArray, List.set_cons_zero, List.set_cons_succ, i64_w, i32_w]
            rfl
          refine done_ (done_of HT_.out (by kernel_rfl)) ?_
          try go_wp2
          go_meet
          case rel => exact ⟨gc, by first | rfl | (go_simp; done), by first | rfl | (go_simp; done), HA9, HC9⟩
        · refine value_ (w1 := ?_) (v := ?_) (by rfl) rfl ?_ ?_
          rotate_left 2
          · go_simp
            constructor
            · rfl
            · rfl
          have HA2 : Aside0 (AllI w (w5.alloc (.cells #[.int .i64 0, .slice none 0 0] 25)) gr gq (.slice Aq (enc X).length cq) n X) := ⟨HA1.out.below (below_alloc (Below.refl _ _) _)⟩
          have HBX : Aside0 ((w5.alloc (.cells #[.int .i64 0, .slice none 0 0] 25)).heap[w5.heap.size]? = some (.cells #[.int .i64 0, .slice none 0 0] 25 (0, 0)) ∧ w.heap.size ≤ w5.heap.size ∧ gr ≠ w5.heap.size ∧ gq ≠ w5.heap.size) := ⟨heap_alloc_new w5 _, HA1.out.hb.size, by have h1 := blk_lt HA1.out.rc; omega, by have h1 := blk_lt HA1.out.cl; omega⟩
          clear HA1
          refine hK.out _ _ ⟨(blk_cell (blk_below HP.out.hp HA2.out.hb) 0).trans rfl, (blk_cell (blk_below HP.out.ho HA2.out.hb) 0).trans rfl, HA2.out.hb⟩ (fun hHeld => ?_)
          clear hK K
          refine norm_ (a' := ?_) ?_ ?_
          rotate_left
          · show Act.put _ (some 10) _ = _
            simp only [Act.put, List.setIfInBounds_toArray, List.set_cons_zero, List.set_cons_succ, i64_w, i32_w]
            rfl
          generalize w5.alloc (.cells #[.int .i64 0, .slice none 0 0] 25) = w6 at HA2 HBX hHeld ⊢
          generalize w5.heap.size = gc at HBX ⊢
          refine one_ (i := 3) (N := some 28) #[true, true, true, true, false, false, false, false, true, false, false] rfl rfl (one_of HT_.out (by kernel_rfl)) (by decide) (fun K hK => ?_)
          refine goes_ Try.func40 (by kernel_rfl) rfl #[.slice Ao O.length co, .string id] (by rfl) rfl rfl (by (try simp only [List.map_toArray, List.map_cons, List.map_nil]); first | done | rfl) ?_
          with_reducible refine (slices_Index_string_string.calls KI Ao co O id kk _ (Kd.C_below HP.out.oc HA2.out.hb) HP.out.ol HI.out).mono ?_
          rintro e w' ⟨rfl, ⟨nd, rfl⟩⟩
          refine ⟨_, rfl, ?_⟩
          have HA3 := Aside0.mk (HA2.out.drewN nd)
          have HBY := Aside0.mk (And.intro (blk_drewN HBX.out.1 nd) HBX.out.2)
          clear HBX
          have HBX := HBY
          clear HBY
          clear HA2
          generalize w6.drewN nd = w7 at HA3 HBX ⊢
          refine hK.out _ _ ⟨(blk_cell (blk_below HP.out.hp HA3.out.hb) 0).trans rfl, (blk_cell (blk_below HP.out.ho HA3.out.hb) 0).trans rfl, HA3.out.hb⟩ (fun hHeld => ?_)
          clear hK K
          refine norm_ (a' := ?_) ?_ ?_
          rotate_left
          · show Act.put _ (some 28) _ = _
            simp only [Act.put, List.setIfInBounds_toArray, List.set_cons_zero, List.set_cons_succ, i64_w, i32_w]
            rfl
          refine take_ (i := 4) (N := some 29) (v := ?_) (a' := ?_) #[true, true, true, true, true, false, false, false, true, false, false] rfl rfl (take_ofW HT_.out HW_.out (by kernel_rfl)) (fun _ _ _ h => h) (Or.inl ⟨by rfl, ?_⟩) hHeld ?_ ?_
          rotate_left
          · rintro w' ⟨s0, s1, s2⟩
            have hrun := HMV.out w' s2
            go_simp
            with_reducible rfl
          rotate_left
          · simp only [Act.put, List.setIfInBounds_toArray, List.set_cons_zero, List.set_cons_succ, i64_w, i32_w]
            rfl
          refine pure_ (i := 5) (N := some 24) (v := ?_) (a' := ?_) #[true, true, true, true, true, true, false, false, true, false, false] rfl rfl (any_of HT_.out (by kernel_rfl)) (fun _ _ _ h => h) (Or.inl ⟨by rfl, ?_⟩) ?_ ?_
          rotate_left
          · intro w'
            go_simp
            with_reducible rfl
          rotate_left
          · simp only [Act.put, List.setIfInBounds_toArray, List.set_cons_zero, List.set_cons_succ, i64_w, i32_w]
            rfl
          refine pure_ (i := 6) (N := some 30) (v := ?_) (a' := ?_) #[true, true, true, true, true, true, true, false, true, false, false] rfl rfl (any_of HT_.out (by kernel_rfl)) (fun _ _ _ h => h) (Or.inl ⟨by rfl, ?_⟩) ?_ ?_
          rotate_left
          · intro w'
            go_simp
            with_reducible rfl
          rotate_left
          · simp only [Act.put, List.setIfInBounds_toArray, List.set_cons_zero, List.set_cons_succ, i64_w, i32_w]
            rfl
          refine pure_ (i := 7) (N := some 31) (v := ?_) (a' := ?_) #[true, true, true, true, true, true, true, true, true, false, false] rfl rfl (any_of HT_.out (by kernel_rfl)) (fun _ _ _ h => h) (Or.inl ⟨by rfl, ?_⟩) ?_ ?_
          rotate_left
          · intro w'
            go_simp
            with_reducible rfl
          rotate_left
          · simp only [Act.put, List.setIfInBounds_toArray, List.set_cons_zero, List.set_cons_succ, i64_w, i32_w]
            rfl
          have hs0 : w7.cell? ⟨gc, 0, none⟩ = some (.int .i64 0) := (blk_cell HBX.out.1 0).trans rfl
          have hs1 : w7.cell? ⟨gc, 1, none⟩ = some (.slice none 0 0) := (blk_cell HBX.out.1 1).trans rfl
          have hf0 := blk_frozen HBX.out.1 0
          have hf1 := blk_frozen HBX.out.1 1
          refine one_ (i := 9) (N := none) #[true, true, true, true, true, true, true, true, true, true, false] rfl rfl (one_of HT_.out (by kernel_rfl)) (by decide) (fun K hK => ?_)
          refine skip_ (w1 := ?_) (by rfl) rfl ?_ ?_
          rotate_left
          · go_simp
            rfl
          have HA9 : Aside0 (AllI w ((w7.setCell ⟨gc, 0, none⟩ (.int .i64 ux)).setCell ⟨gc, 1, none⟩ (.slice uA ul uc)) gr gq (.slice Aq (enc X).length cq) n X) := ⟨(HA3.out.far HBX.out.1 HBX.out.2.1 HBX.out.2.2.1 HBX.out.2.2.2 _).far (blk_set HBX.out.1 0 (.int .i64 ux)) HBX.out.2.1 HBX.out.2.2.1 HBX.out.2.2.2 _⟩
          have HC9 : Aside0 (((w7.setCell ⟨gc, 0, none⟩ (.int .i64 ux)).setCell ⟨gc, 1, none⟩ (.slice uA ul uc)).heap[gc]? = some (.cells #[.int .i64 ux, .slice uA ul uc] 25 (0, 0)) ∧ gr ≠ gc ∧ gq ≠ gc) := ⟨by have := blk_set (blk_set HBX.out.1 0 (.int .i64 ux)) 1 (.slice uA ul uc); simpa using this, HBX.out.2.2.1, HBX.out.2.2.2⟩
          refine hK.out _ _ ⟨(blk_cell (blk_below HP.out.hp HA9.out.hb) 0).trans rfl, (blk_cell (blk_below HP.out.ho HA9.out.hb) 0).trans rfl, HA9.out.hb⟩ (fun hHeld => ?_)
          clear hK K
          refine pure_ (i := 10) (N := some 11) (v := ?_) (a' := ?_) #[true, true, true, true, true, true, true, true, true, true, true] rfl rfl (any_of HT_.out (by kernel_rfl)) (fun _ _ _ h => h) (Or.inl ⟨by rfl, ?_⟩) ?_ ?_
          rotate_left
          · intro w'
            go_simp
            with_reducible rfl
          rotate_left
          · simp only [Act.put, List.setIfInBounds_toArray, List.set_cons_zero, List.set_cons_succ, i64_w, i32_w]
            rfl
          refine done_ (done_of HT_.out (by kernel_rfl)) ?_
          try go_wp2
          go_meet
          case rel => exact ⟨gc, by first | rfl | (go_simp; done), by first | rfl | (go_simp; done), HA9, HC9⟩
      case rest =>
        clear HA
        obtain ⟨gc, rfl, rfl, HA, HC⟩ := hcut
        have hcq0 := blk_cell HA.out.cl 0
        have hcq1 := blk_cell HA.out.cl 1
        have hcr0 := blk_cell HA.out.rc 0
        have hcr1 := blk_cell HA.out.rc 1
        have hfr0 := blk_frozen HA.out.rc 0
        have hfr1 := blk_frozen HA.out.rc 1
        have hfq0 := blk_frozen HA.out.cl 0
        have hfq1 := blk_frozen HA.out.cl 1
        have hcc0 := blk_cell HC.out.1 0
        have hcc1 := blk_cell HC.out.1 1
        have hstep : Aside0 (gotL O P (l.drop i.toNat) X = (lookL P kk).bind fun r => gotL O P (l.drop (i + 1).toNat) (List.zipWith (fun x y => x || y) X (exp false r))) := ⟨by
          have h1 := HX.out.1
          have h2 := HLT.out
          have e : l.drop i.toNat = id :: l.drop (i + 1).toNat := by
            rw [List.drop_eq_getElem_cons (by omega), show (i + 1).toNat = i.toNat + 1 by omega]
            congr 1
            have h3 := HID.out
            unfold rdOf at h3
            rw [List.getD_eq_getElem?_getD, List.getElem?_eq_getElem (by omega)] at h3
            exact h3
          rw [e, gotL, HKK.out]⟩
        by_cases htw : tw = true
        · subst htw
          obtain ⟨r, hlk, rfl, rfl, hrr⟩ := HTW.out.2 (by first | rfl | trivial)
          have hvr : vd ux r = true := HP.out.vv _ (lookL_some hlk)
          have hst := or_step HX.out.2.2.2.1 HN0.out.2 hvr
          have HOR : Aside0 (bitmap_Or.f ux (enc X) ux r = some (ux, enc (List.zipWith (fun x y => x || y) X (exp false r)))) := ⟨by
            unfold bitmap_Or.f
            have h1 := enc_len X
            have h2 := HX.out.2.2.2.1
            have h3 := HN0.out.2
            rw [if_pos ⟨by omega, (vd_rd hvr).2.1⟩, hst.1]⟩
          have HRW := Aside0.mk (Kd.R_below hrr HA.out.hb)
          have HNX : Aside0 (((List.zipWith (fun x y => x || y) X (exp false r)).length : Int) = ux ∧ gotL O P (l.drop (i + 1).toNat) (List.zipWith (fun x y => x || y) X (exp false r)) = R) := ⟨hst.2, by
            have h1 := hstep.out
            rw [hlk, Option.bind_some] at h1
            rw [← h1]; exact HX.out.2.2.2.2⟩
          clear hlk hrr hvr hst hstep
          go_upto_region 9 with (go_at_call 17; (with_reducible refine (bitmap_Or.calls ux Aq cq (enc X) ux uA uc r ux (enc (List.zipWith (fun x y => x || y) X (exp false r))) _ (Kd.R_reads' HA.out.ro).2.2 (Kd.R_reads' HA.out.ro).2.1 (Kd.R_reads' HRW.out).2.2 (Kd.R_reads' HRW.out).2.1 HOR.out).mono ?_); rintro e w9 ⟨v9, rfl, ho, hb⟩; have HA2 := Aside0.mk (HA.out.below hb); have HO := Aside0.mk (Kd.R_lower ho HA.out.hb.size); clear ho hb hcq0 hcq1 hcr0 hcr1 hfr0 hfr1 hfq0 hfq1 hcc0 hcc1; obtain ⟨A9, c9, e9⟩ := Kd.R_slice HO.out; subst e9; have hcq0 := blk_cell HA2.out.cl 0; have hcq1 := blk_cell HA2.out.cl 1; have hfq0 := blk_frozen HA2.out.cl 0; have hfq1 := blk_frozen HA2.out.cl 1)
          have HA3 := Aside0.mk (HA2.out.lay HO.out)
          clear hcq0 hcq1 hfq0 hfq1
          generalize (w9.setCell ⟨gq, 0, none⟩ (.int .i64 ux)).setCell ⟨gq, 1, none⟩ (.slice A9 (enc (List.zipWith (fun x y => x || y) X (exp false r))).length c9) = w10 at HA3 ⊢
          have hwi : wrap64 (i + 1) = i + 1 := by
            have h1 := HX.out.1
            have h2 := HLT.out
            have h3 := HP.out.l1
            exact wrap_id (by omega) (by omega)
          go_wp2
          obtain ⟨mm, rfl⟩ : ∃ mm, gk = mm + 1 := ⟨gk - 1, by have h1 := HX.out.2.2.1; have h2 := HLT.out; omega⟩
          go_roundg mm
          case rel => exact ⟨_, _, _, rfl, HA3, ⟨by have h1 := HX.out.1; omega, by have h2 := HLT.out; omega, by have h1 := HX.out.2.2.1; have h2 := HLT.out; omega, HNX.out.1, by rw [hwi]; exact HNX.out.2⟩⟩
          case measure => have h1 := HX.out.2.2.1; have h2 := HLT.out; omega
        · replace htw := Bool.eq_false_iff.mpr htw
          subst htw
          have hnone := HTW.out.1 (by first | rfl | trivial)
          have HR : Aside0 (R = none) := ⟨by
            have h1 := hstep.out
            rw [hnone, Option.bind_none, HX.out.2.2.2.2] at h1
            exact h1⟩
          clear hnone hstep hcc0 hcc1 hfq0 hfq1
          go_wp2
          refine bodyPost_ret (results_ct rfl _ _ gr 25 #[.int .i64 n, .slice Aq (enc X).length cq] (0, 0) _ rfl (by have := blk_set (blk_set HA.out.rc 0 (.int .i64 n)) 1 (.slice Aq (enc X).length cq); simpa using this) Try.underlying25 rfl (by kernel_rfl)) rfl ?_
          unfold AllPost
          exact ⟨n, Aq, (enc X).length, cq, false, rfl, below_set (below_set HA.out.hb HA.out.rg) HA.out.rg, fun _ => HR.out, fun h => by cases h⟩
    · have ht : decide (i < (l.length : Int)) = false := decide_eq_false hi
      have HR : Aside0 (R = some X) := ⟨by
        have h1 := HX.out.2.1
        have h2 := HX.out.2.2.2.2
        rw [List.drop_eq_nil_of_le (by omega)] at h2
        exact h2.symm⟩
      clear hi
      have hcq0 := blk_cell HA.out.cl 0
      have hcq1 := blk_cell HA.out.cl 1
      have hcr0 := blk_cell HA.out.rc 0
      have hcr1 := blk_cell HA.out.rc 1
      have hfr0 := blk_frozen HA.out.rc 0
      have hfr1 := blk_frozen HA.out.rc 1
      go_wp2
      refine bodyPost_ret (results_ct rfl _ _ gr 25 #[.int .i64 n, .slice Aq (enc X).length cq] (0, 0) _ rfl (by have := blk_set (blk_set HA.out.rc 0 (.int .i64 n)) 1 (.slice Aq (enc X).length cq); simpa using this) Try.underlying25 rfl (by kernel_rfl)) rfl ?_
      unfold AllPost
      have hr1 := Kd.R_mono (ok' := fun _ => True) (Kd.R_far (p := ⟨gr, 0, none⟩) (Kd.int_apart HA.out.ro HA.out.rc (by decide)) (fun _ hk => hk.2) (.int .i64 n)) (fun _ _ => trivial)
      exact ⟨n, Aq, (enc X).length, cq, true, rfl, below_set (below_set HA.out.hb HA.out.rg) HA.out.rg, (fun h => by cases h), fun _ => ⟨X, HR.out, HX.out.2.2.2.1, rfl, Kd.R_mono (Kd.R_far (p := ⟨gr, 1, none⟩) (Kd.int_apart hr1 (blk_set HA.out.rc 0 (.int .i64 n)) (by decide)) (fun _ hk => hk.2) _) (fun _ _ => trivial)⟩⟩
end Go.Proofs.Ytibnkopdkfjgpaa.Q


/- The reader's bitmaps by hand: the walk. -/
namespace Go.Proofs.Ytibnkopdkfjgpaa.Q
open Go.RowKit Go.Proofs.YtibnkopdkfjgpaaW.PrintWords Go.Proofs.YtibnkopdkfjgpaaW.PrintLast Go.Proofs.YtibnkopdkfjgpaaW.PrintMore
open Bm
def picks.T10 : Bool × List (List Nat × List Nat) := (true, [([], []), ([0], [0]), ([], []), ([], []), ([2, 3], [2, 3]), ([4], [4]), ([1, 5, 4], [1, 5]), ([0, 1, 2, 3, 4, 5, 6], []), ([7, 6, 6, 0, 1, 2, 3, 4, 5, 6], [6, 7])])
def picks.B10 : List Nat := [0, 1, 0, 0, 12, 28, 63, 127, 255]
theorem picks.tab10 : rtab .any (opsOf Try.f38 10) = picks.T10 := by kernel_rfl
theorem picks.bits10 : waitsOk picks.T10.2 picks.B10 = true := by kernel_rfl
/-- a bitmap's value -/
def AggF (F : MIV) : Prop := ∀ k : Int, ∃ (x : Int) (A : Option Addr) (l c : Nat), MIV.get F k = .agg #[.int .i64 x, .slice A l c]
theorem AggF.nil : AggF MIV.nil := fun k => ⟨0, none, 0, 0, rfl⟩
theorem AggF.put {F : MIV} (h : AggF F) (p x : Int) (A : Option Addr) (l c : Nat) : AggF (MIV.put F p (.agg #[.int .i64 x, .slice A l c])) := fun k => by
  by_cases e : k = p
  · exact ⟨x, A, l, c, by simp [MIV.get, MIV.put, e]⟩
  · obtain ⟨x1, A1, l1, c1, h1⟩ := h k
    refine ⟨x1, A1, l1, c1, ?_⟩
    rw [← h1]
    simp [MIV.get, MIV.put, e]
/-- what the outer loop knows -/
def PkR (w W : World) (s : ByteArray) (T : Option (List (Int × List Int) × List Int)) (n j a : Int) (b : Bool) (F : MIV) (P : List (Int × List Int)) : Prop :=
  0 ≤ j ∧ 0 ≤ a ∧ a.toNat ≤ s.size ∧ j ≤ n ∧ (F.n + j.toNat ≤ 65536 ∧ AggF F) ∧ (b = true → T = none) ∧ (b = false → T = picksL j.toNat n (lf s a.toNat) P ∧ Vals w W n F P)
theorem finL_dup {n : Int} {j : Nat} {P : List (Int × List Int)} {p : Int} {q : List Int × List Int} (h : p ∈ P.map Prod.fst) : finL n j P p q = none := by
  unfold finL
  split <;> first | rfl | rw [if_pos h]
/-- what the inner loop knows -/
def RnR (s : ByteArray) (T : Option (List (Int × List Int) × List Int)) (n kk a : Int) (b : Bool) (r : List Int) (fin : List Int × List Int → Option (List (Int × List Int) × List Int)) : Prop :=
  0 ≤ kk ∧ 0 ≤ a ∧ r.length + kk.toNat ≤ 65537 ∧ a.toNat ≤ s.size ∧ (b = true → T = none) ∧ (b = false → T = (runsL kk.toNat n (lf s a.toNat) r).bind fin)
/-- what the call leaves -/
def PkPost (w0 w : World) (g : Nat) (s : ByteArray) (T : Option (List (Int × List Int) × List Int)) (n : Int) (e : Ending) (w' : World) : Prop :=
  ∃ (gm : Nat) (F : MIV) (P : List (Int × List Int)) (a' : Int) (b' : Bool), e = .returned (.map (some gm)) ∧ IsMV w w' gm F ∧ IsS52 w0 w' g s a' b' ∧ Below w0.heap.size w0 w' ∧ KeepBut w w' g none ∧ 0 ≤ a' ∧ a'.toNat ≤ s.size ∧ (b' = true → T = none) ∧ (b' = false → T = some (P, lf s a'.toNat) ∧ Vals w w' n F P)
set_option maxHeartbeats 16000000 in
set_option maxRecDepth 100000 in
theorem picks_calls (w0 w : World) (g : Nat) (s : ByteArray) (a : Int) (b : Bool) (n : Int) (hs : s.size ≤ 4294967296) (ha0 : 0 ≤ a) (ha : a.toNat ≤ s.size) (hn0 : 0 ≤ n) (hn1 : n ≤ 65536) (hI : IsS52 w0 w g s a b) (hB : Below w0.heap.size w0 w) :
    Calls Try.prog 38 #[.pointer (some ⟨g, 0, none⟩), .int .i64 n] w (PkPost w0 w g s (picksP s a.toNat b n) n) := by
  obtain ⟨K, n0, a0, b0, hK, q1, q2, q3, q4, q5, q6⟩ := num_at s hs a b n ha0 ha hn0 (by omega)
  obtain ⟨T, hT⟩ : ∃ T, picksP s a.toNat b n = T := ⟨_, rfl⟩
  have HT := Aside0.mk hT
  have hR : Aside0 (∀ W, PkR w W s T n n0 a0 b0 MIV.nil []) := ⟨fun W => by
    refine ⟨q1, q3, q4, q2, ⟨by simp [MIV.nil]; omega, AggF.nil⟩, fun hb => ?_, fun hb => ?_⟩
    · rw [← hT]
      unfold picksP
      rcases q5 hb with h | h
      · rw [if_pos h]
      · rw [h]; split <;> rfl
    · obtain ⟨h1, c, h2, h3⟩ := q6 hb
      refine ⟨?_, Vals.nil _ _ _⟩
      rw [← hT, h3]
      unfold picksP
      rw [if_neg (by rw [h1]; decide), h2]
      rfl⟩
  have HN0 := Aside0.mk hK
  have HI0 := Aside0.mk hI
  have HB0 := Aside0.mk hB
  have HG0 : Aside0 (g < w.heap.size ∧ w0.heap.size ≤ w.heap.size ∧ s.size ≤ 4294967296 ∧ 0 ≤ n ∧ n ≤ 65536) := ⟨hI.lt, hB.size, hs, hn0, hn1⟩
  clear hK hI hB hT q1 q2 q3 q4 q5 q6 hs ha0 ha hn0 hn1
  rw [HT.out]
  clear HT
  go_enter Try.func38, Try.ntmps38
  go_upto_block 0 with (first | ((with_reducible refine gate_dst (N := 12) rfl ?_); refine mkmapV_event rfl (N := 12) rfl rfl ?_; intro gm hgm w1 hbox hb1; have HM := Aside0.mk (IsMV.made (w0 := w) hbox (Nat.le_of_eq hgm.symm)); have HB1 := Aside0.mk hb1; clear hbox hb1 hgm) | (go_at_call 49; refine calls_of_args (args' := #[.pointer (some ⟨g, 0, none⟩), .int .i64 n]) (by with_reducible rfl) ?_; refine (bitmap_reader_num.calls K g s a b n n0 s a0 b0 w0 _ (HI0.out.below HB1.out) (below_step HB0.out HB1.out) HN0.out).mono ?_; rintro e w2 ⟨rfl, hs2, hb2, hk2⟩; have HV : Aside0 (RdI w0 w w2 g s a0 b0 ∧ IsMV w w2 gm MIV.nil) := ⟨⟨hs2, hb2, (KeepBut.of_below HB1.out g none).trans hk2 (.inl rfl)⟩, HM.out.same (hk2.2 _ HM.out.lt (fun e => by have h1 := HM.out.ge; have h2 := HG0.out.1; omega) (by simp))⟩; clear hs2 hb2 hk2))
  have HR := Aside0.mk (hR.out w2)
  clear HM HB1 hR HN0
  go_wp2
  go_loopg [6] n0.toNat (fun kq v6 wr => ∃ (j a1 : Int) (b1 : Bool) (F : MIV) (P : List (Int × List Int)), v6 = .int .i64 j ∧ Aside0 (RdI w0 w wr g s a1 b1 ∧ IsMV w wr gm F) ∧ Aside0 (PkR w wr s T n j a1 b1 F P ∧ j.toNat ≤ kq))
  case atStart => exact ⟨n0, a0, b0, MIV.nil, [], rfl, HV, ⟨HR.out, Nat.le_refl _⟩⟩
  case round =>
    clear HV HR
    obtain ⟨j, a1, b1, F, P, rfl, HV, HR⟩ := hrel
    obtain ⟨wo, hwo⟩ : ∃ x, x = wr := ⟨_, rfl⟩
    subst hwo
    obtain ⟨ko, hko⟩ : ∃ x, x = gk := ⟨_, rfl⟩
    subst hko
    have hcz2 := cellS52_2 HV.out.1.st.1
    have fin : Aside0 ((b1 = false → j.toNat = 0) → IsMV w wo gm F ∧ IsS52 w0 wo g s a1 b1 ∧ Below w0.heap.size w0 wo ∧ KeepBut w wo g none ∧ 0 ≤ a1 ∧ a1.toNat ≤ s.size ∧ (b1 = true → T = none) ∧ (b1 = false → T = some (P, lf s a1.toNat) ∧ Vals w wo n F P)) := ⟨fun hj => by
      obtain ⟨⟨r1, r2, r3, r4, r5, r6, r7⟩, _⟩ := HR.out
      refine ⟨HV.out.2, HV.out.1.st, HV.out.1.hb, HV.out.1.kp, r2, r3, r6, fun hb => ?_⟩
      obtain ⟨h1, h2⟩ := r7 hb
      rw [hj hb] at h1
      exact ⟨h1, h2⟩⟩
    by_cases hj : j = 0
    · have ht : decide ((0 : Int) < j) = false := decide_eq_false (by omega)
      have HJ := Aside0.mk hj
      clear hj
      go_wp2
      go_ret
      unfold PkPost
      exact ⟨gm, F, P, a1, b1, rfl, fin.out (fun _ => by rw [HJ.out]; rfl)⟩
    · have ht : decide ((0 : Int) < j) = true := decide_eq_true (by have := HR.out.1.1; omega)
      have HJ := Aside0.mk hj
      clear hj
      by_cases hb1 : b1 = true
      · subst hb1
        go_wp2
        go_ret
        unfold PkPost
        obtain ⟨f1, f2, f3, f4, f5, f6, f7, f8⟩ := fin.out (fun h => by cases h)
        exact ⟨gm, F, P, a1, true, rfl, f1, f2, f3, f4, f5, f6, fun _ => by first | exact f7 trivial | exact f7 rfl, fun h => by cases h⟩
      · replace hb1 := Bool.eq_false_iff.mpr hb1
        subst hb1
        clear fin
        obtain ⟨⟨r1, r2, r3, r4, r5, r6, r7⟩, r8⟩ := HR.out
        obtain ⟨r7, r9⟩ := r7 rfl
        obtain ⟨g1, g2, g3, g4, g5⟩ := HG0.out
        obtain ⟨jn, hjn⟩ : ∃ jn, j.toNat = jn + 1 := ⟨j.toNat - 1, by have := HJ.out; omega⟩
        have hn1 : 1 ≤ n := by omega
        have ew : wrap64 (n - 1) = n - 1 := wrap_id (by omega) (by omega)
        have ew2 : wrap64 (n + 1) = n + 1 := wrap_id (by omega) (by omega)
        obtain ⟨K1, p, a2, b2, hK1, p1, p2, p3, p4, p5, p6⟩ := num_at s g3 a1 false (n - 1) r2 r3 (by omega) (by omega)
        obtain ⟨K2, kk0, a3, b3, hK2, q1, q2, q3, q4, q5, q6⟩ := num_at s g3 a2 b2 (n + 1) p3 p4 (by omega) (by omega)
        rw [hjn, picksL_succ] at r7
        have HRN : Aside0 (RnR s T n kk0 a3 b3 [] (finL n jn P p)) := ⟨by
          refine ⟨q1, q3, by simp; omega, q4, fun hb => ?_, fun hb => ?_⟩
          · rcases q5 hb with h | h
            · rcases p5 h with h2 | h2
              · cases h2
              · rw [r7, h2]; rfl
            · rw [r7]
              cases b2
              · obtain ⟨_, c, h1, h2⟩ := p6 rfl
                rw [h1, Option.bind_some]
                rw [h2] at h
                rw [h]; rfl
              · rcases p5 rfl with h2 | h2
                · cases h2
                · rw [h2]; rfl
          · obtain ⟨h1, c, h2, h3⟩ := q6 hb
            obtain ⟨_, c2, h4, h5⟩ := p6 h1
            rw [r7, h4, Option.bind_some, ← h5, h2, Option.bind_some, ← h3]⟩
        have HX1 := Aside0.mk hK1
        have HX2 := Aside0.mk hK2
        have HP := Aside0.mk (And.intro p1 (And.intro p2 (And.intro hjn (And.intro r5 (And.intro r9 hn1)))))
        have HG := Aside0.mk (And.intro (Nat.lt_of_lt_of_le g1 HV.out.1.kp.1) (Nat.le_trans g2 HV.out.1.kp.1))
        clear r1 r2 r3 r4 r5 r6 r7 r8 r9 g1 g2 g3 g4 g5 hK1 hK2 p1 p2 p3 p4 p5 p6 q1 q2 q3 q4 q5 q6 hjn hn1
        go_upto_region 7 with (first | (go_at_call 49; refine calls_of_args (args' := #[.pointer (some ⟨g, 0, none⟩), .int .i64 (n - 1)]) (by with_reducible rfl) ?_; refine (bitmap_reader_num.calls K1 g s a1 false (n - 1) p s a2 b2 w0 _ HV.out.1.st HV.out.1.hb HX1.out).mono ?_; rintro e w3 ⟨rfl, hs3, hb3, hk3⟩; have HD3 : Aside0 (RdI w0 wo w3 g s a2 b2) := ⟨⟨hs3, hb3, hk3⟩⟩; clear hs3 hb3 hk3) | ((with_reducible refine gate_dst (N := 8) rfl ?_); refine box_event ?hg (N := 8) ?hd (cs := #[.int .i64 0, .slice none 0 0]) (t := 25) ?hr ?_; (case hd => rfl); (case hg => rfl); (case hr => first | (go_simp; done) | (go_simp; rfl)); intro gb hgb w4 hbox hb4; have HD4 := Aside0.mk (HD3.out.below hb4); have HBX := Aside0.mk (And.intro hbox (show wo.heap.size ≤ gb by have h1 := HD3.out.kp.1; omega)); clear hgb hb4; have hfz0 := blk_frozen hbox 0; have hfz1 := blk_frozen hbox 1; have hcc0 := blk_cell hbox 0; have hcc1 := blk_cell hbox 1; clear hbox))
        have HN5 : Aside0 (RnI w0 wo ((w4.setCell ⟨gb, 0, none⟩ (.int .i64 n)).setCell ⟨gb, 1, none⟩ (.slice none 0 0)) g gb (.slice none 0 0) s a2 b2 n []) := ⟨⟨(HD4.out.far HBX.out.2 HG.out.1 HG.out.2 _).far HBX.out.2 HG.out.1 HG.out.2 _, by have := blk_set (blk_set HBX.out.1 0 (.int .i64 n)) 1 (.slice none 0 0); simpa using this, HBX.out.2, Kd.R_nil _ _ _ _ _⟩⟩
        clear hfz0 hfz1 hcc0 hcc1 HD3 HD4 HBX HX1
        generalize (w4.setCell ⟨gb, 0, none⟩ (.int .i64 n)).setCell ⟨gb, 1, none⟩ (.slice none 0 0) = w5 at HN5 ⊢
        go_upto_block 2 with (go_at_call 49; refine calls_of_args (args' := #[.pointer (some ⟨g, 0, none⟩), .int .i64 (n + 1)]) (by with_reducible rfl) ?_; refine (bitmap_reader_num.calls K2 g s a2 b2 (n + 1) kk0 s a3 b3 w0 _ HN5.out.rd.st HN5.out.rd.hb HX2.out).mono ?_; rintro e w6 ⟨rfl, hs6, hb6, hk6⟩; have HN6 := Aside0.mk (HN5.out.num HG.out.1 hs6 hb6 hk6); clear hs6 hb6 hk6)
        clear HN5 HX2
        go_cut [] (fun wc => ∃ (a4 : Int) (b4 : Bool) (r : List Int) (v : Value), Aside0 (RnI w0 wo wc g gb v s a4 b4 n r) ∧ Aside0 (RnR s T n 0 a4 b4 r (finL n jn P p)))
        case first =>
          go_wp2
          go_loopg [9] kk0.toNat (fun kq v9 wq => ∃ (kk a4 : Int) (b4 : Bool) (r : List Int) (v : Value), v9 = .int .i64 kk ∧ Aside0 (RnI w0 wo wq g gb v s a4 b4 n r) ∧ Aside0 (RnR s T n kk a4 b4 r (finL n jn P p) ∧ kk.toNat ≤ kq))
          case atStart => exact ⟨kk0, a3, b3, [], .slice none 0 0, rfl, HN6, ⟨HRN.out, Nat.le_refl _⟩⟩
          case round =>
            clear HN6 HRN
            obtain ⟨kk, a4, b4, r, v, rfl, HN, HRR⟩ := hrel
            obtain ⟨A3, c3, e3⟩ := Kd.R_slice HN.out.ro
            subst e3
            have hcz2 := cellS52_2 HN.out.rd.st.1
            by_cases hk : kk = 0
            · have ht9 : decide ((0 : Int) < kk) = false := decide_eq_false (by omega)
              have HK := Aside0.mk hk
              clear hk
              go_wp2
              go_meet
              case rel => exact ⟨a4, b4, r, .slice A3 r.length c3, HN, ⟨by have h1 := HRR.out.1; rw [HK.out] at h1; exact h1⟩⟩
            · have ht9 : decide ((0 : Int) < kk) = true := decide_eq_true (by have := HRR.out.1.1; omega)
              have HK := Aside0.mk hk
              clear hk
              by_cases hb4 : b4 = true
              · subst hb4
                go_wp2
                go_meet
                case rel => exact ⟨a4, true, r, .slice A3 r.length c3, HN, ⟨by obtain ⟨h1, h2, h3, h4, h5, h6⟩ := HRR.out.1; exact ⟨by omega, h2, by simp; omega, h4, fun _ => by first | exact h5 rfl | exact h5 trivial, fun h => by cases h⟩⟩⟩
              · replace hb4 := Bool.eq_false_iff.mpr hb4
                subst hb4
                obtain ⟨h1, h2, h3, h4, h5, h6⟩ := HRR.out.1
                have h6 := h6 (by first | rfl | trivial)
                obtain ⟨kn, hkn⟩ : ∃ kn, kk.toNat = kn + 1 := ⟨kk.toNat - 1, by have := HK.out; omega⟩
                obtain ⟨K3, v2, a2_, b2_, hK3, p1, p2, p3, p4, p5, p6⟩ := num_at s HG0.out.2.2.1 a4 false n h2 h4 HG0.out.2.2.2.1 (by have := HG0.out.2.2.2.2; omega)
                rw [hkn, runsL] at h6
                have HRN2 : Aside0 (RnR s T n (kk - 1) a2_ b2_ (r ++ [v2]) (finL n jn P p) ∧ wrap64 (kk - 1) = kk - 1) := ⟨by
                  have e1 : (kk - 1).toNat = kn := by omega
                  refine ⟨⟨by omega, p3, by rw [List.length_append, List.length_singleton]; omega, p4, fun hb => ?_, fun hb => ?_⟩, wrap_id (by omega) (by omega)⟩
                  · rcases p5 hb with h | h
                    · cases h
                    · rw [h6, h]; rfl
                  · obtain ⟨_, c, h7, h8⟩ := p6 hb
                    rw [h6, h7, Option.bind_some, ← h8, e1]⟩
                have HX := Aside0.mk hK3
                have HLE := Aside0.mk h3
                clear h1 h2 h3 h4 h5 h6 hkn hK3 p1 p2 p3 p4 p5 p6
                go_wp2
                refine start_ (n := 9) (S := fun w' => w'.cell? ⟨gb, 0, none⟩ = some (.int .i64 n) ∧ w'.cell? ⟨gb, 1, none⟩ = some (.slice A3 r.length c3)) (ds := [8]) #[false, false, false, false, false, false, false, false, false] (by kernel_rfl) rfl rfl ⟨(blk_cell HN.out.cl 0).trans rfl, (blk_cell HN.out.cl 1).trans rfl⟩ (fun hHeld => ?_); refine with_tabW picks.tab10 picks.bits10 (fun HT_ HW_ => ?_)
                have HN1 := Aside0.mk HN.out.drew
                clear HN
                generalize wr.drew = w3 at HN1 hHeld ⊢
                refine pure_ (i := 0) (N := some 48) (v := ?_) (a' := ?_) #[true, false, false, false, false, false, false, false, false] rfl rfl (any_of HT_.out (by kernel_rfl)) (fun _ _ _ h => h) (Or.inl ⟨by rfl, ?_⟩) ?_ ?_
                rotate_left
                · intro w'
                  go_simp
                  with_reducible rfl
                rotate_left
                · simp only [Act.put, List.setIfInBounds_toArray, List.set_cons_zero, List.set_cons_succ, i64_w, i32_w]
                  rfl
                refine take_ (i := 1) (N := some 49) (v := ?_) (a' := ?_) #[true, true, false, false, false, false, false, false, false] rfl rfl (take_ofW HT_.out HW_.out (by kernel_rfl)) (fun _ _ _ h => h) (Or.inl ⟨by rfl, ?_⟩) hHeld ?_ ?_
                rotate_left
                · rintro w' ⟨s0, s1⟩
                  go_simp
                  with_reducible rfl
                rotate_left
                · simp only [Act.put, List.setIfInBounds_toArray, List.set_cons_zero, List.set_cons_succ, i64_w, i32_w]
                  rfl
                refine pure_ (i := 2) (N := some 50) (v := ?_) (a' := ?_) #[true, true, true, false, false, false, false, false, false] rfl rfl (any_of HT_.out (by kernel_rfl)) (fun _ _ _ h => h) (Or.inl ⟨by rfl, ?_⟩) ?_ ?_
                rotate_left
                · intro w'
                  go_simp
                  with_reducible rfl
                rotate_left
                · simp only [Act.put, List.setIfInBounds_toArray, List.set_cons_zero, List.set_cons_succ, i64_w, i32_w]
                  rfl
                refine pure_ (i := 3) (N := some 51) (v := ?_) (a' := ?_) #[true, true, true, true, false, false, false, false, false] rfl rfl (any_of HT_.out (by kernel_rfl)) (fun _ _ _ h => h) (Or.inl ⟨by rfl, ?_⟩) ?_ ?_
                rotate_left
                · intro w'
                  go_simp
                  with_reducible rfl
                rotate_left
                · simp only [Act.put, List.setIfInBounds_toArray, List.set_cons_zero, List.set_cons_succ, i64_w, i32_w]
                  rfl
                refine one_ (i := 4) (N := some 52) #[true, true, true, true, true, false, false, false, false] rfl rfl (one_of HT_.out (by kernel_rfl)) (by decide) (fun K hK => ?_)
                refine goes_ Try.func49 (by kernel_rfl) rfl #[.pointer (some ⟨g, 0, none⟩), .int .i64 n] (by rfl) rfl rfl (by (try simp only [List.map_toArray, List.map_cons, List.map_nil]); first | done | rfl) ?_
                with_reducible refine (bitmap_reader_num.calls K3 g s a4 false n v2 s a2_ b2_ w0 _ HN1.out.rd.st HN1.out.rd.hb HX.out).mono ?_
                rintro e w5 ⟨rfl, hs5, hb5, hk5⟩
                refine ⟨_, rfl, ?_⟩
                have HN2 := Aside0.mk (HN1.out.num HG.out.1 hs5 hb5 hk5)
                clear hs5 hb5 hk5 HN1
                refine hK.out _ _ ⟨(blk_cell HN2.out.cl 0).trans rfl, (blk_cell HN2.out.cl 1).trans rfl⟩ (fun hHeld => ?_)
                clear hK K
                refine norm_ (a' := ?_) ?_ ?_
                rotate_left
                · show Act.put _ (some 52) _ = _
                  simp only [Act.put, List.setIfInBounds_toArray, List.set_cons_zero, List.set_cons_succ, i64_w, i32_w]
                  rfl
                refine one_ (i := 5) (N := some 53) #[true, true, true, true, true, true, false, false, false] rfl rfl (one_of HT_.out (by kernel_rfl)) (by decide) (fun K hK => ?_)
                refine value_ (w1 := ?_) (v := ?_) (by rfl) rfl ?_ ?_
                rotate_left 2
                · go_simp
                  constructor
                  · rfl
                  · rfl
                refine hK.out _ _ ⟨(blk_cell (blk_alloc HN2.out.cl _) 0).trans rfl, (blk_cell (blk_alloc HN2.out.cl _) 1).trans rfl⟩ (fun hHeld => ?_)
                clear hK K
                refine norm_ (a' := ?_) ?_ ?_
                rotate_left
                · show Act.put _ (some 53) _ = _
                  simp only [Act.put, List.setIfInBounds_toArray, List.set_cons_zero, List.set_cons_succ, i64_w, i32_w]
                  rfl
                refine one_ (i := 6) (N := some 54) #[true, true, true, true, true, true, true, false, false] rfl rfl (one_of HT_.out (by kernel_rfl)) (by decide) (fun K hK => ?_)
                refine Kd.R_append_step (Kd.int .i64) (w0 := w5) wo.heap.size (by rfl) (.tmp 49) (.tmp 53) 22 3 (.int .i64 0) 8 rfl Try.underlying22 info3 rfl (by decide) (by omega) (.slice A3 r.length c3) r v2 [.int .i64 v2] (fun _ => True) (fun _ => False) rfl rfl ?aP (fun _ hk => hk.elim) ?aF ?aO ?aB ?aS ?aL ?_
                (case aP => exact rfl)
                (case aB => exact Below.refl _ _)
                (case aF => exact (fun _ _ => trivial))
                (case aO => exact HN2.out.ro)
                (case aS => exact HN2.out.rd.kp.1)
                (case aL => have h1 := HLE.out; omega)
                intro v7 w7 ho hb hg hat
                obtain ⟨hrd, hcl⟩ := HN2.out.app HG.out.1 HG.out.2 ho hg
                have HN3 : Aside0 (RdI w0 wo w7 g s a2_ b2_ ∧ w7.heap[gb]? = some (.cells #[.int .i64 n, .slice A3 r.length c3] 25 (0, 0)) ∧ wo.heap.size ≤ gb ∧ Kd.R (Kd.int .i64) 3 w7 wo.heap.size (fun _ => True) v7 (r ++ [v2])) := ⟨hrd, hcl, HN2.out.ge, ho⟩
                clear ho hb hg hat hrd hcl HN2
                obtain ⟨A7, c7, e7⟩ := Kd.R_slice HN3.out.2.2.2
                subst e7
                have el : (r ++ [v2]).length = r.length + 1 := by simp
                rw [el] at HN3
                refine hK.out _ _ ⟨(blk_cell HN3.out.2.1 0).trans rfl, (blk_cell HN3.out.2.1 1).trans rfl⟩ (fun hHeld => ?_)
                clear hK K
                refine norm_ (a' := ?_) ?_ ?_
                rotate_left
                · show Act.put _ (some 54) _ = _
                  simp only [Act.put, List.setIfInBounds_toArray, List.set_cons_zero, List.set_cons_succ, i64_w, i32_w]
                  rfl
                refine pure_ (i := 7) (N := some 55) (v := ?_) (a' := ?_) #[true, true, true, true, true, true, true, true, false] rfl rfl (any_of HT_.out (by kernel_rfl)) (fun _ _ _ h => h) (Or.inl ⟨by rfl, ?_⟩) ?_ ?_
                rotate_left
                · intro w'
                  go_simp
                  with_reducible rfl
                rotate_left
                · simp only [Act.put, List.setIfInBounds_toArray, List.set_cons_zero, List.set_cons_succ, i64_w, i32_w]
                  rfl
                refine last_ (i := 8) (N := none) #[true, true, true, true, true, true, true, true, true] rfl rfl (one_of HT_.out (by kernel_rfl)) (by decide) (fun K hK => ?_)
                have hs23 : w7.cell? ⟨gb, 1, none⟩ = some (.slice A3 r.length c3) := (blk_cell HN3.out.2.1 1).trans rfl
                have hfs23 := blk_frozen HN3.out.2.1 1
                refine skip_ (w1 := ?_) (by rfl) rfl ?_ ?_
                rotate_left
                · go_simp
                  rfl
                refine hK.out _ _ ?_
                clear hK K
                refine done_ (done_of HT_.out (by kernel_rfl)) ?_

                try go_wp2
                obtain ⟨km, rfl⟩ : ∃ km, gk = km + 1 := ⟨gk - 1, by have h1 := HRR.out.2; have h2 := HRR.out.1.1; have h3 := HK.out; omega⟩
                go_roundg km
                case rel =>
                  refine ⟨wrap64 (kk - 1), a2_, b2_, r ++ [v2], .slice A7 (r.length + 1) c7, rfl, ⟨⟨HN3.out.1.far HN3.out.2.2.1 HG.out.1 HG.out.2 _, ?_, HN3.out.2.2.1, ?_⟩⟩, ⟨by rw [HRN2.out.2]; exact HRN2.out.1, by have h1 := HRR.out.2; have h2 := HRR.out.1.1; have h3 := HK.out; have h4 := HRN2.out.2; omega⟩⟩
                  · have := blk_set HN3.out.2.1 1 (.slice A7 (r.length + 1) c7)
                    simpa using this
                  · exact Kd.R_mono (Kd.R_far (p := ⟨gb, 1, none⟩) (Kd.int_apart HN3.out.2.2.2 HN3.out.2.1 (by decide)) (fun _ hk => hk.2) _) (fun _ _ => trivial)
                case measure => have h1 := HRR.out.2; have h2 := HRR.out.1.1; have h3 := HK.out; have h4 := HRN2.out.2; omega
        case rest =>
          clear HN6 HRN
          obtain ⟨a4, b4, r, v, HN, HRR⟩ := hcut
          obtain ⟨A3, c3, e3⟩ := Kd.R_slice HN.out.ro
          subst e3
          obtain ⟨x5, A5, l5, c5, hagg⟩ := HP.out.2.2.2.1.2 p
          obtain ⟨tw, htw⟩ : ∃ tw, MIV.has F p = tw := ⟨_, rfl⟩
          have HAG := Aside0.mk (And.intro hagg htw)
          have hwf : Aside0 ((Lit.int .i64 p).wf = true) := ⟨by
            have h1 := HP.out.1
            have h2 := HP.out.2.1
            have h3 := HG0.out.2.2.2.2
            have e : wrap64 p = p := wrap_id (by omega) (by omega)
            rw [← e]; exact wrap64_wf _⟩
          have HMV : Aside0 (∀ W, RdI w0 wo W g s a4 b4 → IsMV w W gm F) := ⟨fun W h => HV.out.2.same (h.kp.2 _ HV.out.2.lt (fun e => by have h1 := HV.out.2.ge; have h2 := HG0.out.1; omega) (by simp))⟩
          clear hagg htw
          go_upto_region 12 with (first | ((with_reducible refine gate_dst (N := 59) rfl ?_); refine IsMV.look_is (w0 := w) (g := gm) (f0 := F) (k := p) (HMV.out _ HN.out.rd) HAG.out.1 HAG.out.2 rfl rfl rfl rfl hwf.out ?_) | ((with_reducible refine gate_dst (N := 10) rfl ?_); refine box_event ?hg (N := 10) ?hd (cs := #[.int .i64 0, .slice none 0 0]) (t := 25) ?hr ?_; (case hd => rfl); (case hg => rfl); (case hr => first | (go_simp; done) | (go_simp; rfl)); intro gc hgc w8 hbox hb8; have HN8 := Aside0.mk (HN.out.below hb8); have HBX := Aside0.mk (And.intro hbox (And.intro (show wo.heap.size ≤ gc by have h1 := HN.out.rd.kp.1; omega) (show gb ≠ gc by have h1 := blk_lt HN.out.cl; omega))); clear hgc hb8; have hfz0 := blk_frozen hbox 0; have hfz1 := blk_frozen hbox 1; have hcc0 := blk_cell hbox 0; have hcc1 := blk_cell hbox 1; clear hbox))
          have HN9 : Aside0 (RnI w0 wo ((w8.setCell ⟨gc, 0, none⟩ (.int .i64 x5)).setCell ⟨gc, 1, none⟩ (.slice A5 l5 c5)) g gb (.slice A3 r.length c3) s a4 b4 n r) := ⟨by
            have h0 := HN8.out
            obtain ⟨hb1, hb2, hb3⟩ := HBX.out
            have hd1 := Kd.int_apart h0.ro hb1 (by decide)
            have hb1' := blk_set hb1 0 (.int .i64 x5)
            refine ⟨(h0.rd.far hb2 HG.out.1 HG.out.2 _).far hb2 HG.out.1 HG.out.2 _, blk_far (p := ⟨gc, 1, none⟩) (blk_far (p := ⟨gc, 0, none⟩) h0.cl hb3 _) hb3 _, h0.ge, ?_⟩
            have hr1 := Kd.R_mono (ok' := fun _ => True) (Kd.R_far (p := ⟨gc, 0, none⟩) hd1 (fun _ hk => hk.2) (.int .i64 x5)) (fun _ _ => trivial)
            exact Kd.R_mono (Kd.R_far (p := ⟨gc, 1, none⟩) (Kd.int_apart hr1 hb1' (by decide)) (fun _ hk => hk.2) _) (fun _ _ => trivial)⟩
          clear hfz0 hfz1 hcc0 hcc1 HN8 HBX HN
          generalize (w8.setCell ⟨gc, 0, none⟩ (.int .i64 x5)).setCell ⟨gc, 1, none⟩ (.slice A5 l5 c5) = w9 at HN9 ⊢
          go_cut [] (fun wc => ∃ (b5 : Bool), Aside0 (RnI w0 wo wc g gb (.slice A3 r.length c3) s a4 b5 n r) ∧ Aside0 ((b5 = true → T = none) ∧ (b5 = false → p ∉ P.map Prod.fst ∧ T = picksL jn n (lf s a4.toNat) (P ++ [(p, r)]))))
          case first =>
            obtain ⟨h1, h2, h3, h4, h5, h6⟩ := HRR.out
            have hag := HAG.out.2
            have hcz2 := cellS52_2 HN9.out.rd.st.1
            have hfz2 := blk_frozen HN9.out.rd.st.1 2
            have hcg0 := blk_cell HN9.out.cl 0
            have hcg1 := blk_cell HN9.out.cl 1
            by_cases hb4 : b4 = true
            · subst hb4
              have HT := Aside0.mk (h5 (by first | rfl | trivial))
              clear h1 h2 h3 h4 h5 h6 hag
              go_wp2
              go_meet
              case rel => exact ⟨true, ⟨⟨HN9.out.rd.set2 true, blk_far (p := ⟨g, 2, none⟩) HN9.out.cl (show gb ≠ g by have h1 := HG.out.1; have h2 := HN9.out.ge; omega) _, HN9.out.ge, Kd.R_mono (Kd.R_far (p := ⟨g, 2, none⟩) (Kd.int_apart HN9.out.ro HN9.out.rd.st.1 (by decide)) (fun _ hk => hk.2) _) (fun _ _ => trivial)⟩⟩, ⟨fun _ => HT.out, fun h => by cases h⟩⟩
            · replace hb4 := Bool.eq_false_iff.mpr hb4
              subst hb4
              have h6 := h6 (by first | rfl | trivial)
              have hhas := HP.out.2.2.2.2.1.has p
              rw [hag] at hhas
              have h7 : T = finL n jn P p (r, lf s a4.toNat) := h6
              by_cases htw : tw = true
              · subst htw
                have hin := of_decide_eq_true hhas.symm
                have HT : Aside0 (T = none) := ⟨by rw [h7]; exact finL_dup hin⟩
                clear h1 h2 h3 h4 h5 h6 hag hhas h7 hin
                go_wp2
                go_meet
                case rel => exact ⟨true, ⟨⟨HN9.out.rd.set2 true, blk_far (p := ⟨g, 2, none⟩) HN9.out.cl (show gb ≠ g by have h1 := HG.out.1; have h2 := HN9.out.ge; omega) _, HN9.out.ge, Kd.R_mono (Kd.R_far (p := ⟨g, 2, none⟩) (Kd.int_apart HN9.out.ro HN9.out.rd.st.1 (by decide)) (fun _ hk => hk.2) _) (fun _ _ => trivial)⟩⟩, ⟨fun _ => HT.out, fun h => by cases h⟩⟩
              · replace htw := Bool.eq_false_iff.mpr htw
                subst htw
                have hout := of_decide_eq_false hhas.symm
                obtain ⟨KV, hKV⟩ := Valid_ev n r (by omega)
                have hKV := hKV KV (Nat.le_refl _)
                by_cases hvd : vd n r = true
                · rw [hvd] at hKV
                  have HVV := Aside0.mk hKV
                  obtain ⟨KL, hKL⟩ := List_ev n r (by omega)
                  have HLL := Aside0.mk (hKL KL (Nat.le_refl _))
                  have hll : (lst n r).length ≤ 1048576 := lst_len
                  obtain ⟨KC, hKC⟩ := Contains_ev (lst n r) p (by omega)
                  have hKC := hKC KC (Nat.le_refl _)
                  obtain ⟨cc, hcc⟩ : ∃ cc, decide (p ∈ lst n r) = cc := ⟨_, rfl⟩
                  rw [hcc] at hKC
                  have HCC := Aside0.mk hKC
                  have HT : Aside0 (((!cc) = true → T = none) ∧ ((!cc) = false → p ∉ P.map Prod.fst ∧ T = picksL jn n (lf s a4.toNat) (P ++ [(p, r)]))) := ⟨by
                    rw [finL, hvd] at h7
                    refine ⟨fun hc => ?_, fun hc => ⟨hout, ?_⟩⟩
                    · have hc2 : cc = false := by simpa using hc
                      rw [hc2] at hcc
                      rw [h7, if_neg (fun h => of_decide_eq_false hcc h.2)]
                    · have hc2 : cc = true := by simpa using hc
                      rw [hc2] at hcc
                      rw [h7, if_pos ⟨rfl, of_decide_eq_true hcc⟩, if_neg hout]⟩
                  clear h1 h2 h3 h4 h5 h6 hag hhas h7 hout hvd hKV hKL hll hKC hcc
                  go_wp2_with (first | (go_at_call 15; (with_reducible refine (bitmap_Valid.calls KV n A3 c3 r _ _ (Kd.R_reads' HN9.out.ro).2.2 (Kd.R_reads' HN9.out.ro).2.1 HVV.out).mono ?_); rintro e w10 ⟨rfl, hb⟩; have HN10 := Aside0.mk (HN9.out.below hb); clear hb hcz2 hfz2 hcg0 hcg1; have hcz2 := cellS52_2 HN10.out.rd.st.1; have hfz2 := blk_frozen HN10.out.rd.st.1 2; have hcg0 := blk_cell HN10.out.cl 0; have hcg1 := blk_cell HN10.out.cl 1) | (go_at_call 12; (with_reducible refine (bitmap_List.calls KL n A3 c3 r (lst n r) _ (Kd.R_reads' HN10.out.ro).2.2 (Kd.R_reads' HN10.out.ro).2.1 HLL.out).mono ?_); rintro e w11 ⟨v9, rfl, ho, hb⟩; have HN11 := Aside0.mk (HN10.out.below hb); have HO := Aside0.mk ho; clear ho hb hcz2 hfz2 hcg0 hcg1; obtain ⟨A9, c9, e9⟩ := Kd.R_slice HO.out; subst e9; have hcz2 := cellS52_2 HN11.out.rd.st.1; have hfz2 := blk_frozen HN11.out.rd.st.1 2; have hcg0 := blk_cell HN11.out.cl 0; have hcg1 := blk_cell HN11.out.cl 1) | (go_at_call 51; (with_reducible refine (slices_Contains_int_int.calls KC A9 c9 (lst n r) p _ _ (Kd.R_reads' HO.out).2.2 (Kd.R_reads' HO.out).2.1 HCC.out).mono ?_); rintro e w' ⟨rfl, ⟨nd, rfl⟩⟩))
                  go_meet
                  case rel => exact ⟨!cc, ⟨⟨(HN11.out.rd.drewN nd).set2 _, blk_far (p := ⟨g, 2, none⟩) (blk_drewN HN11.out.cl nd) (show gb ≠ g by have h1 := HG.out.1; have h2 := HN9.out.ge; omega) _, HN9.out.ge, Kd.R_mono (Kd.R_far (p := ⟨g, 2, none⟩) (Kd.int_apart (Kd.R_drewN HN11.out.ro nd) (blk_drewN HN11.out.rd.st.1 nd) (by decide)) (fun _ hk => hk.2) _) (fun _ _ => trivial)⟩⟩, HT⟩
                · rw [Bool.not_eq_true] at hvd
                  rw [hvd] at hKV
                  have HVV := Aside0.mk hKV
                  have HT : Aside0 (T = none) := ⟨by rw [h7, finL, if_neg (fun h => by rw [hvd] at h; cases h.1)]⟩
                  clear h1 h2 h3 h4 h5 h6 hag hhas h7 hout hvd hKV
                  go_wp2_with (first | (go_at_call 15; (with_reducible refine (bitmap_Valid.calls KV n A3 c3 r _ _ (Kd.R_reads' HN9.out.ro).2.2 (Kd.R_reads' HN9.out.ro).2.1 HVV.out).mono ?_); rintro e w10 ⟨rfl, hb⟩; have HN10 := Aside0.mk (HN9.out.below hb); clear hb hcz2 hfz2 hcg0 hcg1; have hcz2 := cellS52_2 HN10.out.rd.st.1; have hfz2 := blk_frozen HN10.out.rd.st.1 2; have hcg0 := blk_cell HN10.out.cl 0; have hcg1 := blk_cell HN10.out.cl 1))
                  go_meet
                  case rel => exact ⟨true, ⟨⟨HN10.out.rd.set2 true, blk_far (p := ⟨g, 2, none⟩) HN10.out.cl (show gb ≠ g by have h1 := HG.out.1; have h2 := HN10.out.ge; omega) _, HN10.out.ge, Kd.R_mono (Kd.R_far (p := ⟨g, 2, none⟩) (Kd.int_apart HN10.out.ro HN10.out.rd.st.1 (by decide)) (fun _ hk => hk.2) _) (fun _ _ => trivial)⟩⟩, ⟨fun _ => HT.out, fun h => by cases h⟩⟩
          case rest =>
            clear HN9
            obtain ⟨b5, HN, HT⟩ := hcut
            have hcg0 := blk_cell HN.out.cl 0
            have hcg1 := blk_cell HN.out.cl 1
            have HMV2 : Aside0 (∀ W, RdI w0 wo W g s a4 b5 → IsMV w W gm F) := ⟨fun W h => HV.out.2.same (h.kp.2 _ HV.out.2.lt (fun e => by have h1 := HV.out.2.ge; have h2 := HG0.out.1; omega) (by simp))⟩
            go_wp2_with (first | (at_mapUpdate; refine IsMV.put_ (w0 := w) (g := gm) (f0 := F) (k := p) (u := .agg #[.int .i64 n, .slice A3 r.length c3]) (HMV2.out _ HN.out.rd) rfl rfl rfl rfl rfl hwf.out (by have h1 := HP.out.2.2.2.1.1; omega) ?_; intro w12 hi hg; have HM12 := Aside0.mk (And.intro hi hg); clear hi hg))
            obtain ⟨mm, rfl⟩ : ∃ mm, ko = mm + 1 := ⟨ko - 1, by have h1 := HR.out.2; have h2 := HP.out.2.2.1; omega⟩
            go_roundg mm
            case rel =>
              obtain ⟨f1, f2, f3, f4, f5, f6⟩ := HP.out
              have f7 := HR.out.2
              have f8 := HR.out.1.1
              have f9 := HR.out.1.2.2.2.1
              obtain ⟨hm1, hm2⟩ := HM12.out
              have ej : wrap64 (j - 1) = j - 1 := wrap_id (by have h1 := HG0.out.2.2.2.2; omega) (by have h1 := HG0.out.2.2.2.2; omega)
              have en : (wrap64 (j - 1)).toNat = jn := by omega
              have mv := HMV2.out _ HN.out.rd
              refine ⟨wrap64 (j - 1), a4, b5, MIV.put F p (.agg #[.int .i64 n, .slice A3 r.length c3]), P ++ [(p, r)], rfl, ⟨⟨?_, hm1⟩⟩, ⟨⟨by omega, HRR.out.2.1, HRR.out.2.2.2.1, by omega, ⟨by simp only [MIV.put]; omega, f4.2.put p n A3 r.length c3⟩, HT.out.1, fun hb => ?_⟩, by omega⟩⟩
              · exact ⟨HN.out.rd.st.grown hm2 (fun e => by injection e with e; have h1 := HG0.out.1; have h2 := HV.out.2.ge; omega), HN.out.rd.hb.grown hm2 HN.out.rd.hb.size (fun k hk => by injection hk with hk; subst hk; have h1 := HG0.out.2.1; have h2 := HV.out.2.ge; omega), keep_grown (HV.out.1.kp.trans HN.out.rd.kp (.inl rfl)) hm2 (fun k hk => by injection hk with hk; subst hk; exact HV.out.2.ge)⟩
              · obtain ⟨h1, h2⟩ := HT.out.2 hb
                rw [en]
                refine ⟨h2, ?_⟩
                exact Vals.put (Vals.keep f5 HV.out.1.st.1 (by decide) HN.out.rd.kp) mv hm2 h1 (Kd.R_lower HN.out.ro HV.out.1.kp.1)
            case measure => have f7 := HR.out.2; have f8 := HP.out.2.2.1; omega
end Go.Proofs.Ytibnkopdkfjgpaa.Q


/- The reader's commits by hand: the walk. -/
namespace Go.Proofs.Ytibnkopdkfjgpaa.Q
open Go.RowKit Go.Proofs.YtibnkopdkfjgpaaW.PrintWords Go.Proofs.YtibnkopdkfjgpaaW.PrintLast Go.Proofs.YtibnkopdkfjgpaaW.PrintMore
open Bm
def ids.T8 : Bool × List (List Nat × List Nat) := (true, [([], []), ([0], [0]), ([1], [1]), ([2], [2]), ([], []), ([4], [4]), ([5], [5]), ([6], [6]), ([], []), ([8], [8]), ([9], [9]), ([10], [10]), ([11], [11]), ([3, 7, 12], [3, 7, 12]), ([13], [13]), ([14, 14, 0, 1, 2, 3, 4, 5, 6, 7, 8, 9, 10, 11, 12, 13, 14], [14])])
def ids.B8 : List Nat := [0, 1, 3, 7, 0, 16, 48, 112, 0, 256, 768, 1792, 3840, 8191, 16383, 32767]
theorem ids.tab8 : rtab .any (opsOf Try.f37 8) = ids.T8 := by kernel_rfl
theorem ids.bits8 : waitsOk ids.T8.2 ids.B8 = true := by kernel_rfl
/-- what the loop knows: the rest of the work, or that it has failed -/
def IdsR (s : ByteArray) (T : Option (List ByteArray × List Int)) (n a : Nat) (b : Bool) (m : MSI) (O : List ByteArray) : Prop :=
  a ≤ s.size ∧ O.length + n ≤ 65536 ∧ (b = true → T = none) ∧ (b = false → T = idsL n (lf s a) O ∧ MetOf m O)
set_option maxHeartbeats 8000000 in
set_option maxRecDepth 100000 in
theorem ids_calls (w0 w : World) (g : Nat) (s : ByteArray) (a : Nat) (b : Bool) (hs : s.size ≤ 4294967296) (ha : a ≤ s.size) (hI : IsS52 w0 w g s a b) (hB : Below w0.heap.size w0 w) :
    Calls Try.prog 37 #[.pointer (some ⟨g, 0, none⟩)] w fun e w' => ∃ (v : Value) (O : List ByteArray) (a' : Nat) (b' : Bool), e = .returned v ∧ Kd.R Kd.string 9 w' w.heap.size (fun _ => True) v O ∧ IsS52 w0 w' g s a' b' ∧ Below w0.heap.size w0 w' ∧ KeepBut w w' g none ∧ O.length ≤ 65536 ∧ a' ≤ s.size ∧ (b' = true → idsP s a b = none) ∧ (b' = false → idsP s a b = some (O, lf s a')) := by
  obtain ⟨K, hK⟩ := num_ev s hs a ha b 65536 (by omega) (by omega)
  have HN := Aside0.mk (hK K (Nat.le_refl _))
  have HI0 := Aside0.mk hI
  have HB0 := Aside0.mk hB
  have HS := Aside0.mk (And.intro hs ha)
  obtain ⟨T, hT⟩ : ∃ T, idsP s a b = T := ⟨_, rfl⟩
  have HT := Aside0.mk hT
  obtain ⟨⟨n0, a0, b0⟩, hP⟩ : ∃ p, numP s a b 65536 = p := ⟨_, rfl⟩
  have hR : Aside0 (0 ≤ n0 ∧ n0 ≤ 65536 ∧ IdsR s T n0.toNat a0 b0 MSI.nil []) := ⟨by
    unfold numP at hP
    unfold idsP at hT
    have hlr := lf_range s a
    have hll := lf_length s a
    by_cases hb : b = true
    · rw [if_pos hb] at hP hT
      simp only [Prod.mk.injEq] at hP
      obtain ⟨rfl, rfl, rfl⟩ := hP
      exact ⟨by omega, by omega, ha, by simp, fun _ => hT.symm, fun h => by cases h⟩
    · rw [if_neg hb] at hP hT
      cases hn : numL (lf s a) 65536 with
      | none =>
        rw [hn] at hP hT
        simp only [Prod.mk.injEq] at hP
        obtain ⟨rfl, rfl, rfl⟩ := hP
        exact ⟨by omega, by omega, ha, by simp, fun _ => hT.symm, fun h => by cases h⟩
      | some p =>
        obtain ⟨pv, pc⟩ := p
        have hr := numL_range hlr hn
        rw [hn] at hP hT
        simp only [Prod.mk.injEq] at hP
        obtain ⟨rfl, rfl, rfl⟩ := hP
        refine ⟨hr.1, hr.2.1, by omega, ?_, (fun h => by cases h), fun _ => ⟨?_, metOf_nil⟩⟩
        · simp; omega
        · rw [← hT, ← lf_drop]; rfl⟩
  rw [hP] at HN
  clear hK hI hB hs ha hT hP
  rw [HT.out]
  obtain ⟨n, rfl⟩ : ∃ n : Nat, n0 = (n : Int) := ⟨n0.toNat, by have := hR.out; omega⟩
  go_enter Try.func37, Try.ntmps37
  go_wp2_with (first | ((with_reducible refine gate_dst (N := 7) rfl ?_); refine mkmap_event rfl (N := 7) rfl rfl ?_; intro gm hgm w1 hbox hb1; have HM := Aside0.mk (IsS70.made hbox (Nat.le_of_eq hgm.symm)); have HB1 := Aside0.mk hb1; clear hbox hb1 hgm) | (go_at_call 49; refine calls_of_args (args' := #[.pointer (some ⟨g, 0, none⟩), .int .i64 65536]) (by with_reducible rfl) ?_; refine (bitmap_reader_num.calls K g s a b 65536 n s a0 b0 w0 _ (HI0.out.below HB1.out) (below_step HB0.out HB1.out) HN.out).mono ?_; rintro e w2 ⟨rfl, hs2, hb2, hk2⟩; have HV : Aside0 (IdsI w0 w w2 g gm (.slice none 0 0) s a0 b0 MSI.nil []) := ⟨⟨hs2, mapsame HM.out (hk2.2 _ HM.out.lt (fun e => by have h1 := HM.out.ge; have h2 := HI0.out.lt; omega) (by simp)), Kd.R_nil _ _ _ _ _, hb2, (KeepBut.of_below HB1.out g none).trans hk2 (.inl rfl)⟩⟩; clear hs2 hb2 hk2))
  have HR0 : Aside0 (0 ≤ (n : Int) ∧ 0 ≤ (a0 : Int) ∧ (n : Int).toNat ≤ n ∧ IdsR s T (n : Int).toNat (a0 : Int).toNat b0 MSI.nil []) := ⟨by omega, by omega, by omega, hR.out.2.2⟩
  clear HM HB1 hR HN HT
  go_loopg [3, 5] n (fun kq v3 v5 wr => ∃ (j : Int) (a1 : Int) (b1 : Bool) (m : MSI) (O : List ByteArray), v5 = .int .i64 j ∧ Aside0 (IdsI w0 w wr g gm v3 s a1 b1 m O) ∧ Aside0 (0 ≤ j ∧ 0 ≤ a1 ∧ j.toNat ≤ kq ∧ IdsR s T j.toNat a1.toNat b1 m O))
  case atStart => exact ⟨n, a0, b0, MSI.nil, [], rfl, HV, HR0⟩
  case round =>
    clear HV HR0
    obtain ⟨j, a1, b1, m, O, rfl, HV, HR⟩ := hrel
    obtain ⟨A3, c3, e3⟩ := Kd.R_slice HV.out.ro
    subst e3
    have hcz0 := cellS52_0 HV.out.st.1
    have hcz1 := cellS52_1 HV.out.st.1
    have hcz2 := cellS52_2 HV.out.st.1
    have hfz1 := blk_frozen HV.out.st.1 1
    have hfz2 := blk_frozen HV.out.st.1 2
    have fin : ∀ W, IdsI w0 w W g gm (.slice A3 O.length c3) s a1 b1 m O → (b1 = false → j.toNat = 0) → ∃ (O' : List ByteArray) (a' : Nat) (b' : Bool), Kd.R Kd.string 9 W w.heap.size (fun _ => True) (.slice A3 O.length c3) O' ∧ IsS52 w0 W g s a' b' ∧ Below w0.heap.size w0 W ∧ KeepBut w W g none ∧ O'.length ≤ 65536 ∧ a' ≤ s.size ∧ (b' = true → T = none) ∧ (b' = false → T = some (O', lf s a')) := fun W h hj => by
      obtain ⟨r1, r2, r3, r4⟩ := HR.out.2.2.2
      refine ⟨O, a1.toNat, b1, h.ro, by rw [Int.toNat_of_nonneg HR.out.2.1]; exact h.st, h.hb, h.kp, by omega, r1, r3, fun hb => ?_⟩
      rw [(r4 hb).1, hj hb]; rfl
    by_cases hj : j = 0
    · have ht : decide ((0 : Int) < j) = false := decide_eq_false (by omega)
      have HJ := Aside0.mk hj
      clear hj
      go_wp2
      go_ret
      obtain ⟨O', a', b', h⟩ := fin _ (by repeat (first | exact HV.out | apply IdsI.drewN | apply IdsI.drew)) (fun _ => by rw [HJ.out]; rfl)
      exact ⟨_, O', a', b', rfl, h⟩
    · have ht : decide ((0 : Int) < j) = true := decide_eq_true (by have := HR.out.1; omega)
      have HJ := Aside0.mk hj
      clear hj
      by_cases hb1 : b1 = true
      · subst hb1
        go_wp2
        go_ret
        obtain ⟨O', a', b', h⟩ := fin _ (by repeat (first | exact HV.out | apply IdsI.drewN | apply IdsI.drew)) (fun h => by cases h)
        exact ⟨_, O', a', b', rfl, h⟩
      · replace hb1 := Bool.eq_false_iff.mpr hb1
        subst hb1
        clear fin
        obtain ⟨r1, r2, r3, r4⟩ := HR.out.2.2.2
        obtain ⟨r4, r5⟩ := r4 rfl
        have hj0 := HR.out.1
        have ha0 := HR.out.2.1
        have hs0 := HS.out.1
        obtain ⟨jn, hjn⟩ : ∃ jn, j.toNat = jn + 1 := ⟨j.toNat - 1, by have := HJ.out; omega⟩
        have hlen := lf_length s a1.toNat
        have ew : wrap64 ((s.size : Int) - a1) = (s.size : Int) - a1 := wrap_id (by omega) (by omega)
        rw [hjn, idsL] at r4
        by_cases hsz : (s.size : Int) - a1 < 20
        · have ht2 : decide ((s.size : Int) - a1 < 20) = true := decide_eq_true hsz
          rw [if_pos (by omega)] at r4
          have HT := Aside0.mk (And.intro r1 (And.intro r2 r4))
          have EW := Aside0.mk ew
          clear r1 r2 r3 r4 r5 hj0 ha0 hs0 hjn hlen hsz
          go_wp2
          go_quiet (fail)
          go_wp2
          go_ret
          refine ⟨_, O, a1.toNat, true, rfl, ?_⟩
          have H2 := IdsI.set2 (HV.out.drewN nq) true
          exact ⟨H2.ro, by rw [Int.toNat_of_nonneg HR.out.2.1]; exact H2.st, H2.hb, H2.kp, by have := HT.out.2.1; omega, HT.out.1, fun _ => HT.out.2.2, fun h => by cases h⟩
        · have ht2 : decide ((s.size : Int) - a1 < 20) = false := decide_eq_false hsz
          rw [if_neg (by omega)] at r4
          have hae2 : wrap64 (a1 + 20) = a1 + 20 := wrap_id (by omega) (by omega)
          have c1 : 0 ≤ a1 := ha0
          have c1b0 := eq_true c1
          have c1b1 : decide (0 ≤ a1) = true := decide_eq_true c1
          have c2 : a1 ≤ wrap64 (a1 + 20) := by omega
          have c2b0 := eq_true c2
          have c2b1 : decide (a1 ≤ wrap64 (a1 + 20)) = true := decide_eq_true c2
          have c3' : wrap64 (a1 + 20) ≤ (s.size : Int) := by omega
          have c3b0 := eq_true c3'
          have c3b1 : decide (wrap64 (a1 + 20) ≤ (s.size : Int)) = true := decide_eq_true c3'
          obtain ⟨id, hid⟩ : ∃ id, hexB (s.extract a1.toNat (wrap64 (a1 + 20)).toNat) = id := ⟨_, rfl⟩
          have hid2 : hxL ((lf s a1.toNat).take 20) = id := by rw [← hid, ← hexB_at]; congr 2; omega
          have hidn : id.size ≤ 9223372036854775807 := by rw [← hid, hexB_size, ByteArray.size_extract]; omega
          obtain ⟨K2, hK2⟩ := ident_Hex_ev (s.extract a1.toNat (wrap64 (a1 + 20)).toNat) (by rw [ByteArray.size_extract]; omega)
          rw [hid] at hK2
          have HX := Aside0.mk (hK2 K2 (Nat.le_refl _))
          rw [hid2, lf_drop] at r4
          have HID := Aside0.mk (And.intro hidn (And.intro r1 (And.intro r2 (And.intro r4 (And.intro r5 (And.intro hae2 (And.intro hjn (And.intro c1 c3'))))))))
          have EW := Aside0.mk ew
          clear hK2 r1 r2 r3 r4 r5 hj0 ha0 hs0 hlen hsz hidn hid2 hae2 c1 c2 c3' hjn hid
          go_wp2
          go_quiet (fail)
          go_wp2
          have HV1 := Aside0.mk (HV.out.drewN nq).drew
          refine start_ (n := 16) (S := fun w' => w'.cell? ⟨g, 0, none⟩ = some (.string s) ∧ w'.cell? ⟨g, 1, none⟩ = some (.int .i64 a1)) (ds := []) #[false, false, false, false, false, false, false, false, false, false, false, false, false, false, false, false] (by kernel_rfl) rfl rfl ⟨hcz0, hcz1⟩ (fun hHeld => ?_); refine with_tabW ids.tab8 ids.bits8 (fun HT_ HW_ => ?_)
          generalize (wr.drewN nq).drew = w3 at HV1 hHeld ⊢
          refine pure_ (i := 0) (N := some 35) (v := ?_) (a' := ?_) #[true, false, false, false, false, false, false, false, false, false, false, false, false, false, false, false] rfl rfl (any_of HT_.out (by kernel_rfl)) (fun _ _ _ h => h) (Or.inl ⟨by rfl, ?_⟩) ?_ ?_
          rotate_left
          · intro w'
            go_simp
            with_reducible rfl
          rotate_left
          · simp only [Act.put, List.setIfInBounds_toArray, List.set_cons_zero, List.set_cons_succ, i64_w, i32_w]
            rfl
          refine pure_ (i := 1) (N := some 36) (v := ?_) (a' := ?_) #[true, true, false, false, false, false, false, false, false, false, false, false, false, false, false, false] rfl rfl (any_of HT_.out (by kernel_rfl)) (fun _ _ _ h => h) (Or.inl ⟨by rfl, ?_⟩) ?_ ?_
          rotate_left
          · intro w'
            go_simp
            with_reducible rfl
          rotate_left
          · simp only [Act.put, List.setIfInBounds_toArray, List.set_cons_zero, List.set_cons_succ, i64_w, i32_w]
            rfl
          refine pure_ (i := 2) (N := some 37) (v := ?_) (a' := ?_) #[true, true, true, false, false, false, false, false, false, false, false, false, false, false, false, false] rfl rfl (any_of HT_.out (by kernel_rfl)) (fun _ _ _ h => h) (Or.inl ⟨by rfl, ?_⟩) ?_ ?_
          rotate_left
          · intro w'
            go_simp
            with_reducible rfl
          rotate_left
          · simp only [Act.put, List.setIfInBounds_toArray, List.set_cons_zero, List.set_cons_succ, i64_w, i32_w]
            rfl
          refine take_ (i := 3) (N := some 38) (v := ?_) (a' := ?_) #[true, true, true, true, false, false, false, false, false, false, false, false, false, false, false, false] rfl rfl (take_ofW HT_.out HW_.out (by kernel_rfl)) (fun _ _ _ h => h) (Or.inl ⟨by rfl, ?_⟩) hHeld ?_ ?_
          rotate_left
          · rintro w' ⟨s0, s1⟩
            go_simp
            with_reducible rfl
          rotate_left
          · simp only [Act.put, List.setIfInBounds_toArray, List.set_cons_zero, List.set_cons_succ, i64_w, i32_w]
            rfl
          refine pure_ (i := 4) (N := some 39) (v := ?_) (a' := ?_) #[true, true, true, true, true, false, false, false, false, false, false, false, false, false, false, false] rfl rfl (any_of HT_.out (by kernel_rfl)) (fun _ _ _ h => h) (Or.inl ⟨by rfl, ?_⟩) ?_ ?_
          rotate_left
          · intro w'
            go_simp
            with_reducible rfl
          rotate_left
          · simp only [Act.put, List.setIfInBounds_toArray, List.set_cons_zero, List.set_cons_succ, i64_w, i32_w]
            rfl
          refine pure_ (i := 5) (N := some 40) (v := ?_) (a' := ?_) #[true, true, true, true, true, true, false, false, false, false, false, false, false, false, false, false] rfl rfl (any_of HT_.out (by kernel_rfl)) (fun _ _ _ h => h) (Or.inl ⟨by rfl, ?_⟩) ?_ ?_
          rotate_left
          · intro w'
            go_simp
            with_reducible rfl
          rotate_left
          · simp only [Act.put, List.setIfInBounds_toArray, List.set_cons_zero, List.set_cons_succ, i64_w, i32_w]
            rfl
          refine pure_ (i := 6) (N := some 41) (v := ?_) (a' := ?_) #[true, true, true, true, true, true, true, false, false, false, false, false, false, false, false, false] rfl rfl (any_of HT_.out (by kernel_rfl)) (fun _ _ _ h => h) (Or.inl ⟨by rfl, ?_⟩) ?_ ?_
          rotate_left
          · intro w'
            go_simp
            with_reducible rfl
          rotate_left
          · simp only [Act.put, List.setIfInBounds_toArray, List.set_cons_zero, List.set_cons_succ, i64_w, i32_w]
            rfl
          refine take_ (i := 7) (N := some 42) (v := ?_) (a' := ?_) #[true, true, true, true, true, true, true, true, false, false, false, false, false, false, false, false] rfl rfl (take_ofW HT_.out HW_.out (by kernel_rfl)) (fun _ _ _ h => h) (Or.inl ⟨by rfl, ?_⟩) hHeld ?_ ?_
          rotate_left
          · rintro w' ⟨s0, s1⟩
            go_simp
            with_reducible rfl
          rotate_left
          · simp only [Act.put, List.setIfInBounds_toArray, List.set_cons_zero, List.set_cons_succ, i64_w, i32_w]
            rfl
          refine pure_ (i := 8) (N := some 43) (v := ?_) (a' := ?_) #[true, true, true, true, true, true, true, true, true, false, false, false, false, false, false, false] rfl rfl (any_of HT_.out (by kernel_rfl)) (fun _ _ _ h => h) (Or.inl ⟨by rfl, ?_⟩) ?_ ?_
          rotate_left
          · intro w'
            go_simp
            with_reducible rfl
          rotate_left
          · simp only [Act.put, List.setIfInBounds_toArray, List.set_cons_zero, List.set_cons_succ, i64_w, i32_w]
            rfl
          refine pure_ (i := 9) (N := some 44) (v := ?_) (a' := ?_) #[true, true, true, true, true, true, true, true, true, true, false, false, false, false, false, false] rfl rfl (any_of HT_.out (by kernel_rfl)) (fun _ _ _ h => h) (Or.inl ⟨by rfl, ?_⟩) ?_ ?_
          rotate_left
          · intro w'
            go_simp
            with_reducible rfl
          rotate_left
          · simp only [Act.put, List.setIfInBounds_toArray, List.set_cons_zero, List.set_cons_succ, i64_w, i32_w]
            rfl
          refine pure_ (i := 10) (N := some 45) (v := ?_) (a' := ?_) #[true, true, true, true, true, true, true, true, true, true, true, false, false, false, false, false] rfl rfl (any_of HT_.out (by kernel_rfl)) (fun _ _ _ h => h) (Or.inl ⟨by rfl, ?_⟩) ?_ ?_
          rotate_left
          · intro w'
            go_simp
            with_reducible rfl
          rotate_left
          · simp only [Act.put, List.setIfInBounds_toArray, List.set_cons_zero, List.set_cons_succ, i64_w, i32_w]
            rfl
          refine take_ (i := 11) (N := some 46) (v := ?_) (a' := ?_) #[true, true, true, true, true, true, true, true, true, true, true, true, false, false, false, false] rfl rfl (take_ofW HT_.out HW_.out (by kernel_rfl)) (fun _ _ _ h => h) (Or.inl ⟨by rfl, ?_⟩) hHeld ?_ ?_
          rotate_left
          · rintro w' ⟨s0, s1⟩
            go_simp
            with_reducible rfl
          rotate_left
          · simp only [Act.put, List.setIfInBounds_toArray, List.set_cons_zero, List.set_cons_succ, i64_w, i32_w]
            rfl
          refine pure_ (i := 12) (N := some 47) (v := ?_) (a' := ?_) #[true, true, true, true, true, true, true, true, true, true, true, true, true, false, false, false] rfl rfl (any_of HT_.out (by kernel_rfl)) (fun _ _ _ h => h) (Or.inl ⟨by rfl, ?_⟩) ?_ ?_
          rotate_left
          · intro w'
            go_simp
            with_reducible rfl
          rotate_left
          · simp only [Act.put, List.setIfInBounds_toArray, List.set_cons_zero, List.set_cons_succ, i64_w, i32_w]
            rfl
          refine pure_ (i := 13) (N := some 48) (v := ?_) (a' := ?_) #[true, true, true, true, true, true, true, true, true, true, true, true, true, true, false, false] rfl rfl (any_of HT_.out (by kernel_rfl)) (fun _ _ _ h => h) (Or.inl ⟨by rfl, ?_⟩) ?_ ?_
          rotate_left
          · intro w'
            go_simp
            with_reducible rfl
          rotate_left
          · simp only [Act.put, List.setIfInBounds_toArray, List.set_cons_zero, List.set_cons_succ, i64_w, i32_w]
            rfl
          refine one_ (i := 14) (N := some 49) #[true, true, true, true, true, true, true, true, true, true, true, true, true, true, true, false] rfl rfl (one_of HT_.out (by kernel_rfl)) (by decide) (fun K hK => ?_)
          refine goes_ Try.func50 (by kernel_rfl) rfl #[.string (s.extract a1.toNat (wrap64 (a1 + 20)).toNat)] (by rfl) rfl rfl (by (try simp only [List.map_toArray, List.map_cons, List.map_nil]); first | done | rfl) ?_
          with_reducible refine (ident_Hex.calls K2 (s.extract a1.toNat (wrap64 (a1 + 20)).toNat) id _ HX.out).mono ?_
          rintro e w5 ⟨rfl, hb⟩
          refine ⟨_, rfl, ?_⟩
          have HV2 := Aside0.mk (HV1.out.below hb)
          clear hb HV1
          refine hK.out _ _ ⟨cellS52_0 HV2.out.st.1, cellS52_1 HV2.out.st.1⟩ (fun hHeld => ?_)
          clear hK K
          refine norm_ (a' := ?_) ?_ ?_
          rotate_left
          · show Act.put _ (some 49) _ = _
            simp only [Act.put, List.setIfInBounds_toArray, List.set_cons_zero, List.set_cons_succ, i64_w, i32_w]
            rfl
          refine pure_ (i := 15) (N := some 6) (v := ?_) (a' := ?_) #[true, true, true, true, true, true, true, true, true, true, true, true, true, true, true, true] rfl rfl (any_of HT_.out (by kernel_rfl)) (fun _ _ _ h => h) (Or.inl ⟨by rfl, ?_⟩) ?_ ?_
          rotate_left
          · intro w'
            go_simp
            with_reducible rfl
          rotate_left
          · simp only [Act.put, List.setIfInBounds_toArray, List.set_cons_zero, List.set_cons_succ, i64_w, i32_w]
            rfl
          refine done_ (done_of HT_.out (by kernel_rfl)) ?_
          clear hcz0 hcz1 hcz2 hfz1 hfz2
          have hcz1 := cellS52_1 HV2.out.st.1
          have hfz1 := blk_frozen HV2.out.st.1 1
          have HV3 := Aside0.mk (HV2.out.set1 (wrap64 (a1 + 20)))
          obtain ⟨bb, hbb⟩ : ∃ bb, decide (0 ≤ plc id 0 O) = bb := ⟨_, rfl⟩
          have hget : MSI.get m id = if 0 ≤ plc id 0 O then 1 else 0 := HID.out.2.2.2.2.1.get id
          have hgp : MSI.get (MSI.put m id (wrap64 (MSI.get m id + 1))) id = wrap64 (MSI.get m id + 1) := by simp [MSI.get, MSI.put]
          have hone : ¬ 0 ≤ plc id 0 O → wrap64 (MSI.get m id + 1) = 1 := fun h => by rw [hget, if_neg h]; exact wrap_id (by omega) (by omega)
          have ht3 : decide (1 < MSI.get (MSI.put m id (wrap64 (MSI.get m id + 1))) id) = bb := by
            rw [hgp, hget, ← hbb]
            by_cases gg : 0 ≤ plc id 0 O
            · rw [if_pos gg, decide_eq_true gg, wrap_id (x := (1 : Int) + 1) (by omega) (by omega)]; rfl
            · rw [if_neg gg, decide_eq_false gg, wrap_id (x := (0 : Int) + 1) (by omega) (by omega)]; rfl
          have HBB := Aside0.mk (And.intro hbb hone)
          clear hbb hget hgp hone HV2
          go_upto_region 12 with (first | ((with_reducible refine gate_dst (N := 59) rfl ?_); refine IsS70.look (w0 := w) (g := gm) (f0 := m) (k := id) HV3.out.mp rfl rfl rfl rfl HID.out.1 ?_) | (at_mapUpdate; refine IsS70.put_ (w0 := w) (g := gm) (f0 := m) (k := id) (n := wrap64 (MSI.get m id + 1)) HV3.out.mp rfl rfl rfl rfl rfl HID.out.1 (by have h1 := HID.out.2.2.1; have h2 := HID.out.2.2.2.2.1.1; omega) (wrap64_wf _) ?_; intro w6 hi hg; have HV4 := Aside0.mk (HV3.out.put HB0.out.size hi hg); clear hi hg; have hcz2 := cellS52_2 HV4.out.st.1; have hfz2 := blk_frozen HV4.out.st.1 2) | ((with_reducible refine gate_dst (N := 64) rfl ?_); refine IsS70.look (w0 := w) (g := gm) (f0 := MSI.put m id (wrap64 (MSI.get m id + 1))) (k := id) HV4.out.mp rfl rfl rfl rfl HID.out.1 ?_))
          have HV4b := Aside0.mk (HV4.out.set2 bb)
          clear HV4 HV3 hcz2 hfz2 hcz1 hfz1
          generalize w6.setCell ⟨g, 2, none⟩ (.bool bb) = w8 at HV4b ⊢
          go_wp2_with (first | ((with_reducible refine gate_builtin (b := .append) (xs := #[.tmp 68, .tmp 70]) rfl ?_); (try (refine gate_guard (by rfl) ?_; dsimp only)); at_builtin; refine Kd.R_append Kd.string (w0 := w8) w.heap.size rfl (.tmp 68) (.tmp 70) 35 9 (.string ⟨#[]⟩) 16 rfl Try.underlying35 info9 rfl (by decide) (by omega) (.slice A3 O.length c3) O id [.string id] (fun _ => True) (fun _ => False) rfl rfl ?aP (fun _ hk => hk.elim) ?aF ?aO ?aB ?aS ?aL ?_; (case aP => exact rfl); (case aB => exact Below.refl _ _); (case aF => exact (fun _ _ => trivial)); (case aO => exact HV4b.out.ro); (case aS => exact HV4b.out.kp.1); (case aL => have h1 := HID.out.2.2.1; omega); intro v7 w7 ho hb hg hat; have HV5 := Aside0.mk (HV4b.out.app HB0.out.size ho hg); clear ho hb hg hat))
          obtain ⟨mm, rfl⟩ : ∃ mm, gk = mm + 1 := ⟨gk - 1, by have h1 := HR.out.2.2.1; have h2 := HID.out.2.2.2.2.2.2.1; omega⟩
          go_roundg mm
          case rel =>
            obtain ⟨q1, q2, q3, q4, q5, q6, q7, q8, q9⟩ := HID.out
            have q10 := HR.out.2.2.1
            have q11 := HR.out.1
            have ej : wrap64 (j - 1) = j - 1 := wrap_id (by omega) (by omega)
            refine ⟨wrap64 (j - 1), wrap64 (a1 + 20), bb, MSI.put m id (wrap64 (MSI.get m id + 1)), O ++ [id], rfl, HV5, ⟨by omega, by omega, by omega, ?_⟩⟩
            have e1 : (wrap64 (j - 1)).toNat = jn := by omega
            have e2 : (wrap64 (a1 + 20)).toNat = a1.toNat + 20 := by omega
            rw [e1, e2]
            refine ⟨by omega, by rw [List.length_append, List.length_singleton]; omega, fun hb => ?_, fun hb => ?_⟩
            · have h3 := HBB.out.1
              rw [hb] at h3
              rw [q4, if_pos (of_decide_eq_true h3)]
            · have h3 := HBB.out.1
              rw [hb] at h3
              have h4 := of_decide_eq_false h3
              rw [q4, if_neg h4, HBB.out.2 (Int.not_le.1 h4)]
              exact ⟨rfl, q5.put h4⟩
          case measure => omega
end Go.Proofs.Ytibnkopdkfjgpaa.Q


namespace Go.Proofs.Ytibnkopdkfjgpaa.Q
open Go.RowKit Go.Proofs.YtibnkopdkfjgpaaW.PrintWords Go.Proofs.YtibnkopdkfjgpaaW.PrintLast Go.Proofs.YtibnkopdkfjgpaaW.PrintMore
attribute [local go_sem] max2_int min2_int max_two min_two max_three min_three max_four min_four   -- for this text's walks alone

def stringslite_HasPrefix.f (a0 : ByteArray) (a1 : ByteArray) : Option (Bool) := if (a0.size : Int) ≥ (a1.size : Int) then (if 0 ≤ (a1.size : Int) then (if (a1.size : Int) ≤ (a0.size : Int) then (some ((a0.extract 0 a1.size).toList == a1.toList)) else (none)) else (none)) else (some false)
set_option maxHeartbeats 8000000 in
set_option maxRecDepth 100000 in
theorem stringslite_HasPrefix.calls (a0 : ByteArray) (a1 : ByteArray) (r : Bool) (w : World) (h : stringslite_HasPrefix.f a0 a1 = some r) :
  Calls Try.prog 62 #[.string a0, .string a1] w fun e w' => e = .returned (.bool r) ∧ Drawn0 w w' := by
 unfold stringslite_HasPrefix.f at h; have H := h; clear h; by_cases c3 : (a0.size : Int) ≥ (a1.size : Int); rotate_left
 ·rw [if_neg c3] at H; have c3b0 := df_ c3; have c3b1 : decide (a1.size ≤ a0.size) = false := decide_eq_false (fun h => c3 (Int.ofNat_le.mpr h)); clear c3; obtain rfl := oi_ H; go_enter Try.func62, Try.ntmps62; go_wp2
  go_ret
  exact ⟨z0_, z3_⟩
 rw [if_pos c3] at H; have c3b0 := dt_ c3; have c3b1 : decide (a1.size ≤ a0.size) = true := decide_eq_true (Int.ofNat_le.mp c3); clear c3; by_cases c4 : 0 ≤ (a1.size : Int); rotate_left
 ·rw [if_neg c4] at H; exact no_ H
 rw [if_pos c4] at H; have c4b0 := eq_true c4; have c4b1 := dt_ c4; clear c4; by_cases c5 : (a1.size : Int) ≤ (a0.size : Int); rotate_left
 ·rw [if_neg c5] at H; exact no_ H
 rw [if_pos c5] at H; have c5b0 := eq_true c5; have c5b1 := dt_ c5; clear c5; obtain rfl := oi_ H; go_enter Try.func62, Try.ntmps62; go_wp2
 go_ret
 exact ⟨z0_, z3_⟩


def stringslite_CutPrefix.f (a0 : ByteArray) (a1 : ByteArray) : Option (ByteArray × Bool) := (stringslite_HasPrefix.f a0 a1).bind fun t102 => (if t102 = true then (if 0 ≤ (a1.size : Int) then (if (a1.size : Int) ≤ (a0.size : Int) then (some (a0.extract a1.size a0.size, true)) else (none)) else (none)) else (some (a0, false)))
set_option maxHeartbeats 8000000 in
set_option maxRecDepth 100000 in
theorem stringslite_CutPrefix.calls (a0 : ByteArray) (a1 : ByteArray) (r1 : ByteArray) (r2 : Bool) (w : World) (h : stringslite_CutPrefix.f a0 a1 = some (r1, r2)) :
  Calls Try.prog 48 #[.string a0, .string a1] w fun e w' => e = .returned (.tuple #[.string r1, .bool r2]) ∧ Drawn0 w w' := by
 unfold stringslite_CutPrefix.f at h; have H := h; clear h; obtain ⟨t102, A3, H⟩ := bx_ H; by_cases c4 : t102 = true; rotate_left
 ·replace c4 := Bool.eq_false_iff.mpr c4; subst c4; rw [if_neg nft_] at H; obtain ⟨rfl, rfl⟩ := pj2_ H; go_enter Try.func48, Try.ntmps48; go_wp2_with (first | ((with_reducible refine gate_callee (f := 62) rfl ?_); refine gl_ (some 8) Try.func62 #[.string a0, .string a1] ?_; refine cm_ (stringslite_HasPrefix.calls a0 a1 false _ A3.out) ?_; rintro w' ⟨nd, rfl⟩)); go_ret2
  exact ⟨z0_, z3_⟩
 subst c4; rw [if_pos rfl] at H; by_cases c5 : 0 ≤ (a1.size : Int); rotate_left
 ·rw [if_neg c5] at H; exact no_ H
 rw [if_pos c5] at H; have c5b0 := eq_true c5; have c5b1 := dt_ c5; clear c5; by_cases c6 : (a1.size : Int) ≤ (a0.size : Int); rotate_left
 ·rw [if_neg c6] at H; exact no_ H
 rw [if_pos c6] at H; have c6b0 := eq_true c6; have c6b1 := dt_ c6; clear c6; obtain ⟨rfl, rfl⟩ := pj2_ H; go_enter Try.func48, Try.ntmps48; go_wp2_with (first | ((with_reducible refine gate_callee (f := 62) rfl ?_); refine gl_ (some 8) Try.func62 #[.string a0, .string a1] ?_; refine cm_ (stringslite_HasPrefix.calls a0 a1 true _ A3.out) ?_; rintro w' ⟨nd, rfl⟩)); go_ret2
 exact ⟨z0_, z3_⟩


def strings_CutPrefix.f (a0 : ByteArray) (a1 : ByteArray) : Option (ByteArray × Bool) := (stringslite_CutPrefix.f a0 a1).bind fun bt101 => (some (bt101.1, bt101.2))
set_option maxHeartbeats 8000000 in
set_option maxRecDepth 100000 in
theorem strings_CutPrefix.calls (a0 : ByteArray) (a1 : ByteArray) (r1 : ByteArray) (r2 : Bool) (w : World) (h : strings_CutPrefix.f a0 a1 = some (r1, r2)) :
  Calls Try.prog 36 #[.string a0, .string a1] w fun e w' => e = .returned (.tuple #[.string r1, .bool r2]) ∧ Drawn0 w w' := by
 unfold strings_CutPrefix.f at h; have H := h; clear h; obtain ⟨⟨t101, t102⟩, A3, H⟩ := bx_ H; dsimp only at H; obtain ⟨rfl, rfl⟩ := pj2_ H; go_enter Try.func36, Try.ntmps36; go_wp2_with (first | ((with_reducible refine gate_callee (f := 48) rfl ?_); refine gl_ (some 8) Try.func48 #[.string a0, .string a1] ?_; refine cm_ (stringslite_CutPrefix.calls a0 a1 t101 t102 _ A3.out) ?_; rintro w' ⟨nd, rfl⟩)); go_ret2
 exact ⟨z0_, z3_⟩

end Go.Proofs.Ytibnkopdkfjgpaa.Q


/- Query by hand. -/
namespace Go.Proofs.Ytibnkopdkfjgpaa.Q
open Go.RowKit Go.Proofs.YtibnkopdkfjgpaaW.PrintWords Go.Proofs.YtibnkopdkfjgpaaW.PrintLast Go.Proofs.YtibnkopdkfjgpaaW.PrintMore
open Bm
theorem cut_eq (s : ByteArray) (hs : s.size ≤ 4294967296) : strings_CutPrefix.f s ⟨#[66, 77, 80, 49]⟩ = some (if (bytesOf s).take 4 = [66, 77, 80, 49] then (s.extract 4 s.size, true) else (s, false)) := by
  have e4 : (⟨#[66, 77, 80, 49]⟩ : ByteArray).size = 4 := rfl
  have hlen := bytesOf_length s
  unfold strings_CutPrefix.f stringslite_CutPrefix.f stringslite_HasPrefix.f
  rw [e4]
  by_cases h : 4 ≤ s.size
  · rw [if_pos (by omega), if_pos (by omega), if_pos (by omega), Option.bind_some]
    have e : ((s.extract 0 4).toList == (⟨#[66, 77, 80, 49]⟩ : ByteArray).toList) = decide ((bytesOf s).take 4 = [66, 77, 80, 49]) := by
      rw [Bool.eq_iff_iff, beq_iff_eq, decide_eq_true_eq, ByteArray.toList_eq, ByteArray.toList_eq]
      have h1 : bytesOf (s.extract 0 4) = (bytesOf s).take 4 := by
        rw [lf_extract]; unfold lf; rfl
      rw [← h1]
      unfold bytesOf
      constructor
      · intro h2; rw [h2]; rfl
      · intro h2
        have h3 : (s.extract 0 4).data.toList.map (fun b => (b.toNat : Int)) = ([66, 77, 80, 49] : List UInt8).map (fun b => (b.toNat : Int)) := h2
        exact (List.map_inj_right (fun a b hab => UInt8.toNat_inj.1 (by exact_mod_cast hab))).1 h3
    by_cases g : (bytesOf s).take 4 = [66, 77, 80, 49]
    · rw [e, decide_eq_true g, if_pos g, if_pos rfl, if_pos (by omega), if_pos (by omega)]
      rfl
    · rw [e, decide_eq_false g, if_neg g, if_neg (by decide)]
      rfl
  · rw [if_neg (by omega), Option.bind_some, if_neg (by decide), Option.bind_some]
    rw [if_neg (fun hh => by have := congrArg List.length hh; rw [List.length_take] at this; simp at this; omega)]
theorem AllP.next {wb w W : World} {go gp gm : Nat} {Ao Al Am : Option Addr} {co cl cm : Nat} {O l m : List ByteArray} {n : Int} {F : MIV} {P : List (Int × List Int)} (h : AllP wb w go gp gm Ao Al co cl O l n F P) (hb : Below w.heap.size w W) (hm : Kd.C Kd.string W Am m.length m) (hc : m.length ≤ cm) (h1 : m.length ≤ 1099511627776) : AllP wb W go gp gm Ao Am co cm O m n F P :=
  ⟨blk_below h.ho hb, blk_below h.hp hb, Kd.C_below h.oc hb, h.ol, h.on, h.n1, h.mp.same (hb.block _ h.mp.lt), fun k => ⟨(h.vs k).1, fun r hr => by
    obtain ⟨A, c, h2, h3⟩ := (h.vs k).2 r hr
    exact ⟨A, c, h2, Kd.R_below h3 hb⟩⟩, h.vv, hm, hc, h1⟩
/-- a bitmap in its cell, with its row, and the row as it is behind the stores -/
theorem lay_bm {w W W1 : World} {g : Nat} {x : Int} {A : Option Addr} {len c : Nat} (hb : Below w.heap.size w W) (hg : g = W.heap.size) (hbox : W1.heap[g]? = some (.cells #[.int .i64 0, .slice none 0 0] 25 (0, 0))) (h1 : Below W.heap.size W W1) :
    Below w.heap.size w ((W1.setCell ⟨g, 0, none⟩ (.int .i64 x)).setCell ⟨g, 1, none⟩ (.slice A len c)) ∧ ((W1.setCell ⟨g, 0, none⟩ (.int .i64 x)).setCell ⟨g, 1, none⟩ (.slice A len c)).heap[g]? = some (.cells #[.int .i64 x, .slice A len c] 25 (0, 0)) ∧ w.heap.size ≤ g ∧
    ∀ (base : Nat) (v : Value) (r : List Int), Kd.R (Kd.int .i64) 3 W base (fun _ => True) v r → Kd.R (Kd.int .i64) 3 ((W1.setCell ⟨g, 0, none⟩ (.int .i64 x)).setCell ⟨g, 1, none⟩ (.slice A len c)) base (fun _ => True) v r := by
  have hs := hb.size
  have hge : w.heap.size ≤ g := by omega
  have hb1' := blk_set hbox 0 (.int .i64 x)
  refine ⟨below_set (below_set (below_step hb h1) hge) hge, ?_, hge, fun base v r hr => ?_⟩
  · have := blk_set hb1' 1 (.slice A len c)
    simpa using this
  · have hr1 := Kd.R_mono (ok' := fun _ => True) (Kd.R_far (p := ⟨g, 0, none⟩) (Kd.int_apart (Kd.R_below hr h1) hbox (by decide)) (fun _ hk => hk.2) (.int .i64 x)) (fun _ _ => trivial)
    exact Kd.R_mono (Kd.R_far (p := ⟨g, 1, none⟩) (Kd.int_apart hr1 hb1' (by decide)) (fun _ hk => hk.2) _) (fun _ _ => trivial)
theorem Vals.below {w W W1 : World} {n : Int} {F : MIV} {P : List (Int × List Int)} (h : Vals w W n F P) (hb : Below W.heap.size W W1) : Vals w W1 n F P := fun k => ⟨(h k).1, fun r hr => by
  obtain ⟨A, c, h2, h3⟩ := (h k).2 r hr
  exact ⟨A, c, h2, Kd.R_below h3 hb⟩⟩
def QPost (w : World) (p : List ByteArray × Int) (e : Ending) (w' : World) : Prop :=
  ∃ v : Value, e = .returned (.tuple #[v, .int .i64 p.2]) ∧ Kd.R Kd.string 9 w' w.heap.size (fun _ => True) v p.1 ∧ Below w.heap.size w w'
set_option maxHeartbeats 16000000 in
set_option maxRecDepth 100000 in
theorem Query_calls (a0 : ByteArray) (A1 : Option Addr) (c1 : Nat) (l1 : List ByteArray) (A2 : Option Addr) (c2 : Nat) (l2 : List ByteArray) (w : World) (hr1 : Kd.C Kd.string w A1 l1.length l1) (hc1 : l1.length ≤ c1) (hr2 : Kd.C Kd.string w A2 l2.length l2) (hc2 : l2.length ≤ c2) (hs : a0.size ≤ 4294967296) (hl1 : l1.length ≤ 1099511627776) (hl2 : l2.length ≤ 1099511627776) :
    Calls Try.prog 23 #[.string a0, .slice A1 l1.length c1, .slice A2 l2.length c2] w (QPost w (askB a0 l1 l2)) := by
  obtain ⟨KO, hKO⟩ := Open_ev a0 hs
  have hKO := hKO KO (Nat.le_refl _)
  have hsz := openB_size a0
  obtain ⟨p, hp⟩ : ∃ p, askB a0 l1 l2 = p := ⟨_, rfl⟩
  rw [hp]
  unfold askB at hp
  obtain ⟨⟨s, ok⟩, ho⟩ : ∃ q, openB a0 = q := ⟨_, rfl⟩
  rw [ho] at hKO hp hsz
  have HKO := Aside0.mk hKO
  have HL1 := Aside0.mk (And.intro hr1 (And.intro hc1 hl1))
  have HL2 := Aside0.mk (And.intro hr2 (And.intro hc2 hl2))
  have hss : s.size ≤ 4294967296 := Nat.le_trans hsz hs
  clear hr1 hc1 hr2 hc2 hl1 hl2 hKO ho hsz hs
  by_cases hok : ok = true
  · subst hok
    simp only [↓reduceIte] at hp
    have hcut := cut_eq s hss
    obtain ⟨⟨rest, is⟩, hq⟩ : ∃ q, (if (bytesOf s).take 4 = [66, 77, 80, 49] then (s.extract 4 s.size, true) else (s, false)) = q := ⟨_, rfl⟩
    rw [hq] at hcut
    have hrs : rest.size ≤ 4294967296 ∧ (is = true → (bytesOf s).take 4 = [66, 77, 80, 49] ∧ lf rest 0 = (bytesOf s).drop 4) ∧ (is = false → ¬ (bytesOf s).take 4 = [66, 77, 80, 49]) := by
      by_cases g : (bytesOf s).take 4 = [66, 77, 80, 49]
      · rw [if_pos g] at hq
        obtain ⟨rfl, rfl⟩ := Prod.mk.inj hq
        refine ⟨by rw [ByteArray.size_extract]; omega, fun _ => ⟨g, ?_⟩, fun h => by cases h⟩
        unfold lf
        rw [lf_extract, List.drop_zero]
        unfold lf
        exact List.take_of_length_le (by rw [List.length_drop, bytesOf_length]; exact Nat.le_refl _)
      · rw [if_neg g] at hq
        obtain ⟨rfl, rfl⟩ := Prod.mk.inj hq
        exact ⟨hss, (fun h => by cases h), fun _ => g⟩
    have HCUT := Aside0.mk hcut
    have HRS := Aside0.mk hrs
    have HPP := Aside0.mk hp
    clear hcut hq hrs hp hss
    go_enter Try.func23, Try.ntmps23
    go_upto_region 6 with (first | (go_at_call 35; (with_reducible refine (octet_Open.calls KO a0 s true _ HKO.out).mono ?_); rintro e w1 ⟨rfl, hb1⟩; have HB1 := Aside0.mk hb1; clear hb1) | (go_at_call 36; (with_reducible refine (strings_CutPrefix.calls s ⟨#[66, 77, 80, 49]⟩ rest is _ HCUT.out).mono ?_); rintro e w' ⟨rfl, ⟨nd, rfl⟩⟩) | ((with_reducible refine gate_dst (N := 37) rfl ?_); refine box_event ?hg (N := 37) ?hd (cs := #[.string rest, .int .i64 0, .bool (!is)]) (t := 52) ?hr ?_; (case hd => rfl); (case hg => rfl); (case hr => first | (go_simp; done) | (go_simp; rfl)); intro g hg w3 hbox hb3; have H3 := Aside0.mk (And.intro hg (And.intro hbox hb3)); clear hg hbox hb3))
    have HG3 : Aside0 (IsS52 w w3 g rest ((0 : Nat) : Int) (!is) ∧ Below w.heap.size w w3) := ⟨by
      obtain ⟨h1, h2, h3⟩ := H3.out
      have h4 := HB1.out
      refine ⟨⟨h2, ?_⟩, ?_⟩
      · have := h4.size; rw [h1]; simpa using this
      · exact below_step (pw_below_drewN h4 _) h3⟩
    clear H3 HB1 HKO HCUT
    have hids := fun W (h : IsS52 w W g rest ((0 : Nat) : Int) (!is)) (hb : Below w.heap.size w W) => ids_calls w W g rest 0 (!is) HRS.out.1 (Nat.zero_le _) h hb
    have HIDS := Aside0.mk hids
    clear hids
    go_upto_region 7 with (first | (go_at_call 37; refine calls_of_args (args' := #[.pointer (some ⟨g, 0, none⟩)]) (by with_reducible rfl) ?_; refine (HIDS.out _ HG3.out.1 HG3.out.2).mono ?_; rintro e w4 ⟨v4, O, a1, b1, rfl, hro, hst, hb, hkp, hol, har, hT1, hT2⟩; have H4 := Aside0.mk (And.intro hro (And.intro hst (And.intro hb (And.intro hkp (And.intro hol (And.intro har (And.intro hT1 hT2))))))); clear hro hst hb hkp hol har hT1 hT2; obtain ⟨AO, cO, eO⟩ := Kd.R_slice H4.out.1; subst eO) | ((with_reducible refine gate_dst (N := 13) rfl ?_); refine box_event ?hg (N := 13) ?hd (cs := #[.slice none 0 0]) (t := 35) ?hr ?_; (case hd => rfl); (case hg => rfl); (case hr => first | (go_simp; done) | (go_simp; rfl)); intro go hgo w5 hbox hb5; have H5 := Aside0.mk (And.intro hgo (And.intro hbox hb5)); have hfz0 := blk_frozen hbox 0; have hcc0 := blk_cell hbox 0; clear hgo hbox hb5))
    have HW6 : Aside0 (IsS52 w (w5.setCell ⟨go, 0, none⟩ (.slice AO O.length cO)) g rest a1 b1 ∧ Below w.heap.size w (w5.setCell ⟨go, 0, none⟩ (.slice AO O.length cO)) ∧ (w5.setCell ⟨go, 0, none⟩ (.slice AO O.length cO)).heap[go]? = some (.cells #[.slice AO O.length cO] 35 (0, 0)) ∧ Kd.R Kd.string 9 (w5.setCell ⟨go, 0, none⟩ (.slice AO O.length cO)) w.heap.size (fun _ => True) (.slice AO O.length cO) O ∧ go ≠ g ∧ w.heap.size ≤ go) := ⟨by
      obtain ⟨h1, h2, h3, h4, h5, h6, h7, h8⟩ := H4.out
      obtain ⟨k1, k2, k3⟩ := H5.out
      have hge := HG3.out.2.size
      have hgg := h2.lt
      have hne : go ≠ g := by omega
      have hw := h3.size
      have hr5 := Kd.R_below (Kd.R_lower h1 hge) k3
      refine ⟨(h2.below k3).far (p := ⟨go, 0, none⟩) hne.symm _, below_set (below_step h3 k3) (by omega), ?_, Kd.R_mono (Kd.R_far (p := ⟨go, 0, none⟩) (Kd.R_types hr5 k2 (by decide)) (fun _ hk => hk.2) _) (fun _ _ => trivial), hne, by omega⟩
      have := blk_set k2 0 (.slice AO O.length cO)
      simpa using this⟩
    have HT4 := Aside0.mk (And.intro H4.out.2.2.2.2.1 (And.intro H4.out.2.2.2.2.2.1 H4.out.2.2.2.2.2.2))
    clear H4 H5 HG3 HIDS hfz0 hcc0
    generalize w5.setCell ⟨go, 0, none⟩ (.slice AO O.length cO) = w6 at HW6 ⊢
    obtain ⟨n, hn⟩ : ∃ n : Int, (O.length : Int) = n := ⟨_, rfl⟩
    have HN := Aside0.mk hn
    have HPK := Aside0.mk (picks_calls w w6 g rest (a1 : Int) b1 n HRS.out.1 (by omega) (by rw [Int.toNat_natCast]; exact HT4.out.2.1) (by omega) (by have := HT4.out.1; omega) HW6.out.1 HW6.out.2.1)
    have hcg0 := blk_cell HW6.out.2.2.1 0
    go_upto_region 8 with (first | (go_at_call 38; refine calls_of_args (args' := #[.pointer (some ⟨g, 0, none⟩), .int .i64 n]) (by with_reducible rfl) ?_; refine HPK.out.mono ?_; rintro e w7 ⟨gm, F, P, a2, b2, rfl, hmv, hst, hb, hkp, ha0, har, hT1, hT2⟩; have H7 := Aside0.mk (And.intro hmv (And.intro hst (And.intro hb (And.intro hkp (And.intro ha0 (And.intro har (And.intro hT1 hT2))))))); clear hmv hst hb hkp ha0 har hT1 hT2 hcg0) | ((with_reducible refine gate_dst (N := 14) rfl ?_); refine box_event ?hg (N := 14) ?hd (cs := #[.map none]) (t := 54) ?hr ?_; (case hd => rfl); (case hg => rfl); (case hr => first | (go_simp; done) | (go_simp; rfl)); intro gp hgp w8 hbox hb8; have H8 := Aside0.mk (And.intro hgp (And.intro hbox hb8)); have hfz0 := blk_frozen hbox 0; have hcc0 := blk_cell hbox 0; clear hgp hbox hb8))
    have HW9 : Aside0 (IsS52 w (w8.setCell ⟨gp, 0, none⟩ (.map (some gm))) g rest a2 b2 ∧ Below w.heap.size w (w8.setCell ⟨gp, 0, none⟩ (.map (some gm))) ∧ (w8.setCell ⟨gp, 0, none⟩ (.map (some gm))).heap[go]? = some (.cells #[.slice AO O.length cO] 35 (0, 0)) ∧ Kd.R Kd.string 9 (w8.setCell ⟨gp, 0, none⟩ (.map (some gm))) w.heap.size (fun _ => True) (.slice AO O.length cO) O ∧ (w8.setCell ⟨gp, 0, none⟩ (.map (some gm))).heap[gp]? = some (.cells #[.map (some gm)] 54 (0, 0)) ∧ IsMV w6 (w8.setCell ⟨gp, 0, none⟩ (.map (some gm))) gm F ∧ (b2 = false → Vals w6 (w8.setCell ⟨gp, 0, none⟩ (.map (some gm))) n F P)) := ⟨by
      obtain ⟨h1, h2, h3, h4, h5, h6, h7, h8⟩ := H7.out
      obtain ⟨k1, k2, k3⟩ := H8.out
      obtain ⟨q1, q2, q3, q4, q5, q6⟩ := HW6.out
      have hgg := h2.lt
      have hgm := h1.lt
      have hgo := blk_lt q3
      have hsz := h4.1
      have hw := h3.size
      have b7 := h4.blk q3 q5 (by simp)
      have r7 := Kd.R_mono (ok' := fun _ => True) (Kd.R_keep (Kd.R_types q4 q1.1 (by decide)) h4 (fun _ hk => hk.2)) (fun _ _ => trivial)
      have r8 := Kd.R_below r7 k3
      refine ⟨(h2.below k3).far (p := ⟨gp, 0, none⟩) (show g ≠ gp by omega) _, below_set (below_step h3 k3) (by omega), blk_far (p := ⟨gp, 0, none⟩) (blk_below b7 k3) (show go ≠ gp by omega) _, Kd.R_mono (Kd.R_far (p := ⟨gp, 0, none⟩) (Kd.R_types r8 k2 (by decide)) (fun _ hk => hk.2) _) (fun _ _ => trivial), ?_, h1.same ?_, fun hb => ?_⟩
      · have := blk_set k2 0 (.map (some gm))
        simpa using this
      · rw [Below.heap_setCell _ _ _ _ (show gm ≠ gp by omega), k3.block _ hgm]
      · exact Vals.keep (Vals.below (h8 hb).2 k3) k2 (by decide) ((KeepBut.refl _ _ _).set_ _ _)⟩
    have HT9 := Aside0.mk (And.intro H7.out.2.2.2.2.1 (And.intro H7.out.2.2.2.2.2.1 (And.intro H7.out.2.2.2.2.2.2.1 (fun h => (H7.out.2.2.2.2.2.2.2 h).1))))
    clear H7 H8 HW6 HPK hfz0 hcc0
    generalize w8.setCell ⟨gp, 0, none⟩ (.map (some gm)) = w9 at HW9 ⊢
    have hcz1 := cellS52_1 HW9.out.1.1
    have hcz2 := cellS52_2 HW9.out.1.1
    have hfile := file_of HRS.out.2 HT4.out.2.2 hn (a2 := a2.toNat) (by have h := HT9.out.2.2; rw [Int.toNat_natCast] at h; exact h)
    have ha2 := HT9.out.1
    have hll := lf_length rest a2.toNat
    -- a fault ends it
    have ends : ∀ W, Below w.heap.size w W → fileL (bytesOf s) = none → ∃ v : Value, (.returned (.tuple #[.slice none 0 0, .int .i64 2]) : Ending) = .returned (.tuple #[v, .int .i64 p.2]) ∧ Kd.R Kd.string 9 W w.heap.size (fun _ => True) v p.1 ∧ Below w.heap.size w W := fun W hW hf => by
      have hp := HPP.out
      rw [hf] at hp
      subst hp
      exact ⟨_, rfl, Kd.R_nil _ _ _ _ _, hW⟩
    by_cases hb2 : b2 = true
    · subst hb2
      rw [if_neg (by simp)] at hfile
      have hend := Aside0.mk (ends w9 HW9.out.2.1 hfile)
      clear ends hfile ha2 hll
      go_wp2
      go_ret2
      exact hend.out
    · replace hb2 := Bool.eq_false_iff.mpr hb2
      subst hb2
      by_cases hat : a2 < (rest.size : Int)
      · have ht : decide (a2 < (rest.size : Int)) = true := decide_eq_true hat
        rw [if_neg (fun h => by have := h.2; rw [this] at hll; simp at hll; omega)] at hfile
        have hend := Aside0.mk (ends w9 HW9.out.2.1 hfile)
        clear ends hfile ha2 hll hat
        go_wp2
        go_ret2
        exact hend.out
      · have ht : decide (a2 < (rest.size : Int)) = false := decide_eq_false hat
        rw [if_pos ⟨rfl, lf_nil (by omega)⟩] at hfile
        have hp := HPP.out
        rw [hfile] at hp
        have HANS : Aside0 (ansL (O, P) l1 l2 = p) := ⟨hp⟩
        have hvd := picksP_vd (HT9.out.2.2.2 (by first | rfl | trivial))
        have HAP : Aside0 (∀ W, Below w9.heap.size w9 W → ∀ (Am : Option Addr) (cm : Nat) (m : List ByteArray), Kd.C Kd.string w Am m.length m → m.length ≤ cm → m.length ≤ 1099511627776 → AllP w6 W go gp gm AO Am cO cm O m n F P) := ⟨fun W hW Am cm m h1 h2 h3 => by
          obtain ⟨q1, q2, q3, q4, q5, q6, q7⟩ := HW9.out
          have h0 : AllP w6 w9 go gp gm AO Am cO cm O m n F P := ⟨q3, q5, (Kd.R_reads' q4).2.2, (Kd.R_reads' q4).2.1, hn, by have := HT4.out.1; omega, q6, q7 (by first | rfl | trivial), hvd, Kd.C_below h1 q2, h2, h3⟩
          exact h0.next hW (Kd.C_below h1 (below_step q2 hW)) h2 h3⟩
        clear ends hfile ha2 hll hat hp hvd
        go_upto_region 13 with (first | (go_at_call 39; refine calls_of_args (args' := #[.slice A1 l1.length c1, .pointer (some ⟨go, 0, none⟩), .pointer (some ⟨gp, 0, none⟩)]) (by with_reducible rfl) ?_; refine (all_calls w6 _ go gp gm AO A1 cO c1 O l1 n F P (HAP.out _ (Below.refl _ _) A1 c1 l1 HL1.out.1 HL1.out.2.1 HL1.out.2.2)).mono ?_; rintro e w10 ⟨x1, B1, len1, d1, k1, rfl, hb, hk1, hk2⟩; have H10 := Aside0.mk (And.intro hb (And.intro hk1 hk2)); clear hb hk1 hk2) | ((with_reducible refine gate_dst (N := 16) rfl ?_); refine box_event ?hg (N := 16) ?hd (cs := #[.int .i64 0, .slice none 0 0]) (t := 25) ?hr ?_; (case hd => rfl); (case hg => rfl); (case hr => first | (go_simp; done) | (go_simp; rfl)); intro g16 hg16 w11 hbox hb11; have H11 := Aside0.mk (And.intro hg16 (And.intro hbox hb11)); have hfz0 := blk_frozen hbox 0; have hfz1 := blk_frozen hbox 1; have hcc0 := blk_cell hbox 0; have hcc1 := blk_cell hbox 1; clear hg16 hbox hb11))
        have HL12 := Aside0.mk (lay_bm (x := x1) (A := B1) (len := len1) (c := d1) H10.out.1 H11.out.1 H11.out.2.1 H11.out.2.2)
        have HX1 : Aside0 ((k1 = false → gotL O P l1 (List.replicate O.length false) = none) ∧ (k1 = true → ∃ X : List Bool, gotL O P l1 (List.replicate O.length false) = some X ∧ (X.length : Int) = n ∧ x1 = n ∧ Kd.R (Kd.int .i64) 3 ((w11.setCell ⟨g16, 0, none⟩ (.int .i64 x1)).setCell ⟨g16, 1, none⟩ (.slice B1 len1 d1)) w9.heap.size (fun _ => True) (.slice B1 len1 d1) (enc X))) := ⟨H10.out.2.1, fun hk => by
          obtain ⟨X, h1, h2, h3, h4⟩ := H10.out.2.2 hk
          exact ⟨X, h1, h2, h3, HL12.out.2.2.2 _ _ _ h4⟩⟩
        have HW12 := Aside0.mk (And.intro HL12.out.1 (And.intro HL12.out.2.1 HL12.out.2.2.1))
        clear HL12 H10 H11 hfz0 hfz1 hcc0 hcc1
        generalize (w11.setCell ⟨g16, 0, none⟩ (.int .i64 x1)).setCell ⟨g16, 1, none⟩ (.slice B1 len1 d1) = w12 at HX1 HW12 ⊢
        refine (all_calls w6 _ go gp gm AO A2 cO c2 O l2 n F P (HAP.out _ HW12.out.1 A2 c2 l2 HL2.out.1 HL2.out.2.1 HL2.out.2.2)).mono ?_
        rintro e w13 ⟨x2, B2, len2, d2, k2, rfl, hb, hk1, hk2⟩
        have H13 := Aside0.mk (And.intro hb (And.intro hk1 hk2))
        clear hb hk1 hk2
        go_upto_region 13 with ((with_reducible refine gate_dst (N := 17) rfl ?_); refine box_event ?hg (N := 17) ?hd (cs := #[.int .i64 0, .slice none 0 0]) (t := 25) ?hr ?_; (case hd => rfl); (case hg => rfl); (case hr => first | (go_simp; done) | (go_simp; rfl)); intro g17 hg17 w14 hbox hb14; have H14 := Aside0.mk (And.intro hg17 (And.intro hbox hb14)); have hfz0 := blk_frozen hbox 0; have hfz1 := blk_frozen hbox 1; have hcc0 := blk_cell hbox 0; have hcc1 := blk_cell hbox 1; clear hg17 hbox hb14)
        have HL15 := Aside0.mk (lay_bm (x := x2) (A := B2) (len := len2) (c := d2) H13.out.1 H14.out.1 H14.out.2.1 H14.out.2.2)
        have HX2 : Aside0 ((k2 = false → gotL O P l2 (List.replicate O.length false) = none) ∧ (k2 = true → ∃ X : List Bool, gotL O P l2 (List.replicate O.length false) = some X ∧ (X.length : Int) = n ∧ x2 = n ∧ Kd.R (Kd.int .i64) 3 ((w14.setCell ⟨g17, 0, none⟩ (.int .i64 x2)).setCell ⟨g17, 1, none⟩ (.slice B2 len2 d2)) w9.heap.size (fun _ => True) (.slice B2 len2 d2) (enc X))) := ⟨H13.out.2.1, fun hk => by
          obtain ⟨X, h1, h2, h3, h4⟩ := H13.out.2.2 hk
          exact ⟨X, h1, h2, h3, HL15.out.2.2.2 _ _ _ (Kd.R_lower h4 HW12.out.1.size)⟩⟩
        have HX1b : Aside0 ((k1 = false → gotL O P l1 (List.replicate O.length false) = none) ∧ (k1 = true → ∃ X : List Bool, gotL O P l1 (List.replicate O.length false) = some X ∧ (X.length : Int) = n ∧ x1 = n ∧ Kd.R (Kd.int .i64) 3 ((w14.setCell ⟨g17, 0, none⟩ (.int .i64 x2)).setCell ⟨g17, 1, none⟩ (.slice B2 len2 d2)) w9.heap.size (fun _ => True) (.slice B1 len1 d1) (enc X))) := ⟨HX1.out.1, fun hk => by
          obtain ⟨X, h1, h2, h3, h4⟩ := HX1.out.2 hk
          exact ⟨X, h1, h2, h3, HL15.out.2.2.2 _ _ _ (Kd.R_below h4 H13.out.1)⟩⟩
        have HW15 : Aside0 (Below w9.heap.size w9 ((w14.setCell ⟨g17, 0, none⟩ (.int .i64 x2)).setCell ⟨g17, 1, none⟩ (.slice B2 len2 d2)) ∧ ((w14.setCell ⟨g17, 0, none⟩ (.int .i64 x2)).setCell ⟨g17, 1, none⟩ (.slice B2 len2 d2)).heap[g16]? = some (.cells #[.int .i64 x1, .slice B1 len1 d1] 25 (0, 0)) ∧ ((w14.setCell ⟨g17, 0, none⟩ (.int .i64 x2)).setCell ⟨g17, 1, none⟩ (.slice B2 len2 d2)).heap[g17]? = some (.cells #[.int .i64 x2, .slice B2 len2 d2] 25 (0, 0))) := ⟨by
          obtain ⟨h1, h2, h3⟩ := HW12.out
          obtain ⟨q1, q2, q3, _⟩ := HL15.out
          exact ⟨below_step h1 q1, blk_below h2 q1, q2⟩⟩
        clear HL15 H13 H14 hfz0 hfz1 hcc0 hcc1 HX1 HW12 HAP
        generalize (w14.setCell ⟨g17, 0, none⟩ (.int .i64 x2)).setCell ⟨g17, 1, none⟩ (.slice B2 len2 d2) = w15 at HX1b HX2 HW15 ⊢
        have endn : ∀ W, Below w9.heap.size w9 W → ansL (O, P) l1 l2 = ([], 5) → ∃ v : Value, (.returned (.tuple #[.slice none 0 0, .int .i64 5]) : Ending) = .returned (.tuple #[v, .int .i64 p.2]) ∧ Kd.R Kd.string 9 W w.heap.size (fun _ => True) v p.1 ∧ Below w.heap.size w W := fun W hW hf => by
          have hp := HANS.out
          rw [hf] at hp
          subst hp
          exact ⟨_, rfl, Kd.R_nil _ _ _ _ _, below_step HW9.out.2.1 hW⟩
        by_cases hk1 : k1 = true
        · subst hk1
          obtain ⟨X, hg1, hX1, hx1, hRX⟩ := HX1b.out.2 (by first | rfl | trivial)
          by_cases hk2 : k2 = true
          · subst hk2
            obtain ⟨Y, hg2, hY1, hx2, hRY⟩ := HX2.out.2 (by first | rfl | trivial)
            have hres : ansL (O, P) l1 l2 = (resL O X Y, 0) := by simp only [ansL, hg1, hg2]
            have hp := HANS.out
            rw [hres] at hp
            subst hp hx1
            subst hx2
            have e1 : len1 = (enc X).length := by
              obtain ⟨_, _, e1⟩ := Kd.R_slice hRX
              injection e1
            subst e1
            have e2 : len2 = (enc Y).length := by
              obtain ⟨_, _, e2⟩ := Kd.R_slice hRY
              injection e2
            subst e2
            obtain ⟨Z, hZ⟩ : ∃ Z, List.zipWith (fun x y => x && !y) X Y = Z := ⟨_, rfl⟩
            have hn65 := HT4.out.1
            have hZl : (Z.length : Int) = x2 := by rw [← hZ, List.length_zipWith]; omega
            have hvX : vd x2 (enc X) = true := vd_enc hX1 (by omega)
            have hvY : vd x2 (enc Y) = true := vd_enc hY1 (by omega)
            have HAN : Aside0 (bitmap_AndNot.f x2 (enc X) x2 (enc Y) = some (x2, enc Z)) := ⟨by
              unfold bitmap_AndNot.f
              rw [if_pos ⟨(vd_rd hvX).2.1, (vd_rd hvY).2.1⟩, joinB_eq _ hvX hvY, exp_enc, exp_enc, hZ]⟩
            have hvZ : vd x2 (enc Z) = true := vd_enc hZl (by omega)
            obtain ⟨KL, hKL⟩ := List_ev x2 (enc Z) (vd_rd hvZ).2.1
            have hKL := hKL KL (Nat.le_refl _)
            rw [lst_enc hZl (by omega)] at hKL
            have HLS := Aside0.mk hKL
            have hLl : (pos 0 Z).length ≤ Z.length := by rw [pos_length]; exact List.count_le_length
            have HZZ := Aside0.mk (And.intro hZl (And.intro hLl hn65))
            have HRES : Aside0 (resL O X Y = (pos 0 Z).map (fun i => rdOf ByteArray.empty O i)) := ⟨by unfold resL; rw [hZ]⟩
            have HRX := Aside0.mk hRX
            have HRY := Aside0.mk hRY
            have hca0 := blk_cell HW15.out.2.1 0
            have hca1 := blk_cell HW15.out.2.1 1
            have hcb0 := blk_cell HW15.out.2.2 0
            have hcb1 := blk_cell HW15.out.2.2 1
            clear endn hg1 hX1 hRX hg2 hY1 hRY hZ hn65 hZl hvX hvY hvZ hKL hLl hres
            go_upto_block 0 with (first | (go_at_call 21; (with_reducible refine (bitmap_AndNot.calls x2 B1 d1 (enc X) x2 B2 d2 (enc Y) x2 (enc Z) _ (Kd.R_reads' HRX.out).2.2 (Kd.R_reads' HRX.out).2.1 (Kd.R_reads' HRY.out).2.2 (Kd.R_reads' HRY.out).2.1 HAN.out).mono ?_); rintro e w16 ⟨v16, rfl, ho, hb⟩; have H16 := Aside0.mk (And.intro ho hb); clear ho hb hca0 hca1 hcb0 hcb1; obtain ⟨A16, c16, e16⟩ := Kd.R_slice H16.out.1; subst e16) | (go_at_call 12; (with_reducible refine (bitmap_List.calls KL x2 A16 c16 (enc Z) (pos 0 Z) _ (Kd.R_reads' H16.out.1).2.2 (Kd.R_reads' H16.out.1).2.1 HLS.out).mono ?_); rintro e w17 ⟨v17, rfl, ho, hb⟩; have H17 := Aside0.mk (And.intro ho hb); clear ho hb; obtain ⟨A17, c17, e17⟩ := Kd.R_slice H17.out.1; subst e17))
            have HLR := Aside0.mk H17.out.1
            have HB17 : Aside0 (Below w9.heap.size w9 w17) := ⟨below_step (below_step HW15.out.1 H16.out.2) H17.out.2⟩
            clear H16 H17 HRX HRY HAN HLS
            have HMEM : Aside0 ((∀ j ∈ pos 0 Z, 0 ≤ j ∧ j < (O.length : Int)) ∧ (pos 0 Z).length ≤ 65536 ∧ resL O X Y = (pos 0 Z).map (fun i => rdOf ByteArray.empty O i)) := ⟨by
              refine ⟨fun j hj => ?_, ?_, HRES.out⟩
              · have := (mem_pos Z 0 j).1 hj
                have h1 := HZZ.out.1
                have h2 := HN.out
                omega
              · have h1 := HZZ.out
                have h2 := HN.out
                omega⟩
            clear HZZ HRES
            generalize pos 0 Z = LZ at HLR HMEM ⊢
            go_wp2
            go_loopg [18, 81] LZ.length (fun kq v18 v81 wr => ∃ (i : Int), v81 = .int .i64 i ∧ Aside0 (Below w17.heap.size w17 wr ∧ Kd.R Kd.string 9 wr w17.heap.size (fun _ => True) v18 ((LZ.take i.toNat).map (fun i => rdOf ByteArray.empty O i))) ∧ Aside0 (0 ≤ i ∧ i ≤ LZ.length ∧ ((LZ.length : Int) - i).toNat ≤ kq))
            case atStart => exact ⟨0, rfl, ⟨Below.refl _ _, Kd.R_nil _ _ _ _ _⟩, ⟨by omega, by omega, by omega⟩⟩
            case round =>
              obtain ⟨i, rfl, HO18, HI⟩ := hrel
              obtain ⟨out, hout⟩ : ∃ out, (LZ.take i.toNat).map (fun i => rdOf ByteArray.empty O i) = out := ⟨_, rfl⟩
              rw [hout] at HO18
              have HOUT := Aside0.mk hout
              clear hout
              obtain ⟨A18, c18, e18⟩ := Kd.R_slice HO18.out.2
              subst e18
              by_cases hi : i < (LZ.length : Int)
              · have ht : decide (i < (LZ.length : Int)) = true := decide_eq_true hi
                have hi0 := HI.out.1
                obtain ⟨ad, ead, hx⟩ := Kd.at_int (Kd.R_reads' HLR.out).2.2 i hi0 hi
                cases ead
                have hx2 := (HO18.out.1.cell (World.block_lt_of_cell? w17 _ hx)).trans hx
                obtain ⟨j, hj⟩ : ∃ j, rd LZ i = j := ⟨_, rfl⟩
                rw [hj] at hx2
                have hjm : j ∈ LZ := by
                  rw [← hj]
                  unfold rd
                  rw [List.getD_eq_getElem?_getD, List.getElem?_eq_getElem (by omega)]
                  exact List.getElem_mem _
                obtain ⟨hj0, hj1⟩ := HMEM.out.1 j hjm
                obtain ⟨ad2, ead2, hx3⟩ := Kd.at_string (Kd.C_below (Kd.R_reads' HW9.out.2.2.2.1).2.2 (below_step HB17.out HO18.out.1)) j hj0 hj1
                cases ead2
                obtain ⟨id, hid⟩ : ∃ id, rdOf ByteArray.empty O j = id := ⟨_, rfl⟩
                rw [hid] at hx3
                have hcgo := blk_cell (blk_below HW9.out.2.2.1 (below_step HB17.out HO18.out.1)) 0
                have hj1' : j < x2 := by rw [← hn]; exact hj1
                have HNX : Aside0 ((LZ.take (i + 1).toNat).map (fun i => rdOf ByteArray.empty O i) = out ++ [id] ∧ out.length ≤ 65536 ∧ i < LZ.length) := ⟨by
                  have h1 := HOUT.out
                  refine ⟨?_, ?_, hi⟩
                  · rw [show (i + 1).toNat = i.toNat + 1 by omega, List.take_add_one, List.map_append, h1, ← hid, ← hj]
                    rw [List.getElem?_eq_getElem (by omega)]
                    unfold rd
                    rw [List.getD_eq_getElem?_getD, List.getElem?_eq_getElem (by omega)]
                    rfl
                  · rw [← h1, List.length_map, List.length_take]
                    have := HMEM.out.2.1
                    omega⟩
                have hwi : wrap64 (i + 1) = i + 1 := wrap_id (by omega) (by have := HMEM.out.2.1; omega)
                have p0 := eq_true hi0
                have p1 := eq_true hi
                have p2 := eq_true hj0
                have p3 := eq_true hj1
                have p4 := eq_true hj1'
                clear hx hj hjm hid hi hi0 hj0 hj1 hj1'
                go_wp2_with ((with_reducible refine gate_builtin (b := .append) (xs := #[.tmp 85, .tmp 90]) rfl ?_); (try (refine gate_guard (by rfl) ?_; dsimp only)); at_builtin; refine Kd.R_append Kd.string (w0 := wr) w17.heap.size rfl (.tmp 85) (.tmp 90) 35 9 (.string ⟨#[]⟩) 16 rfl Try.underlying35 info9 rfl (by decide) (by omega) (.slice A18 out.length c18) out id [.string id] (fun _ => True) (fun _ => False) rfl rfl ?aP (fun _ hk => hk.elim) ?aF ?aO ?aB ?aS ?aL ?_; (case aP => exact rfl); (case aB => exact Below.refl _ _); (case aF => exact (fun _ _ => trivial)); (case aO => exact HO18.out.2); (case aS => exact HO18.out.1.size); (case aL => have h1 := HNX.out.2.1; omega); intro v19 w19 ho hb hg hat; have HO19 := Aside0.mk (And.intro (HO18.out.1.grown hg HO18.out.1.size (fun k hk => Kd.R_base HO18.out.2 k hk)) ho); clear ho hb hg hat)
                obtain ⟨mm, rfl⟩ : ∃ mm, gk = mm + 1 := ⟨gk - 1, by have h1 := HI.out.2.2; have h2 := HNX.out.2.2; omega⟩
                go_roundg mm
                case rel => exact ⟨i + 1, by rw [hwi], ⟨HO19.out.1, by rw [HNX.out.1]; exact HO19.out.2⟩, ⟨by have h1 := HI.out.1; omega, by have h2 := HNX.out.2.2; omega, by have h1 := HI.out.2.2; have h2 := HNX.out.2.2; omega⟩⟩
                case measure => have h1 := HI.out.2.2; have h2 := HNX.out.2.2; omega
              · have ht : decide (i < (LZ.length : Int)) = false := decide_eq_false hi
                have HE : Aside0 (out = resL O X Y) := ⟨by
                  have h1 := HI.out.2.1
                  rw [HMEM.out.2.2, ← HOUT.out, List.take_of_length_le (by omega)]⟩
                clear hi
                go_wp2
                go_ret2
                refine ⟨_, rfl, ?_, below_step HW9.out.2.1 (below_step HB17.out HO18.out.1)⟩
                rw [← HE.out]
                exact Kd.R_lower HO18.out.2 (Nat.le_trans HW9.out.2.1.size HB17.out.size)
          · replace hk2 := Bool.eq_false_iff.mpr hk2
            subst hk2
            have hend := Aside0.mk (endn w15 HW15.out.1 (by simp only [ansL, hg1, HX2.out.1 (by first | rfl | trivial)]))
            clear endn hg1 hX1 hx1 hRX
            go_wp2
            go_ret2
            exact hend.out
        · replace hk1 := Bool.eq_false_iff.mpr hk1
          subst hk1
          have hend := Aside0.mk (endn w15 HW15.out.1 (by simp only [ansL, HX1b.out.1 (by first | rfl | trivial)]))
          clear endn
          go_wp2
          go_ret2
          exact hend.out
  · replace hok := Bool.eq_false_iff.mpr hok
    subst hok
    simp only [Bool.false_eq_true, ↓reduceIte] at hp
    subst hp
    go_enter Try.func23, Try.ntmps23
    go_wp2_with (go_at_call 35; (with_reducible refine (octet_Open.calls KO a0 s false _ HKO.out).mono ?_); rintro e w1 ⟨rfl, hb1⟩; have HB1 := Aside0.mk hb1; clear hb1)
    go_ret2
    exact ⟨_, rfl, Kd.R_nil _ _ _ _ _, HB1.out⟩
/-- Query: the answer -/
def bitmap_Query.f (a0 : ByteArray) (l1 : List ByteArray) (l2 : List ByteArray) : Option (List ByteArray × Int) := if a0.size ≤ 4294967296 ∧ l1.length ≤ 1099511627776 ∧ l2.length ≤ 1099511627776 then some (askB a0 l1 l2) else none
theorem bitmap_Query.calls (a0 : ByteArray) (A1 : Option Addr) (c1 : Nat) (l1 : List ByteArray) (A2 : Option Addr) (c2 : Nat) (l2 : List ByteArray) (r1 : List ByteArray) (r2 : Int) (w : World) (hr1 : Kd.C Kd.string w A1 l1.length l1) (hc1 : l1.length ≤ c1) (hr2 : Kd.C Kd.string w A2 l2.length l2) (hc2 : l2.length ≤ c2) (h : bitmap_Query.f a0 l1 l2 = some (r1, r2)) :
    Calls Try.prog 23 #[.string a0, .slice A1 l1.length c1, .slice A2 l2.length c2] w fun e w' => ∃ v0_ : Value, e = .returned (.tuple #[v0_, .int .i64 r2]) ∧ Kd.R Kd.string 9 w' w.heap.size (fun _ => True) v0_ r1 ∧ Below w.heap.size w w' := by
  unfold bitmap_Query.f at h
  split at h
  · rename_i hg
    have e := Option.some.inj h
    refine (Query_calls a0 A1 c1 l1 A2 c2 l2 w hr1 hc1 hr2 hc2 hg.1 hg.2.1 hg.2.2).mono ?_
    intro en w' hq
    unfold QPost at hq
    rw [e] at hq
    exact hq
  · cases h
end Go.Proofs.Ytibnkopdkfjgpaa.Q


namespace Go.Proofs.Ytibnkopdkfjgpaa.Q
open Go.RowKit Go.Proofs.YtibnkopdkfjgpaaW.PrintWords Go.Proofs.YtibnkopdkfjgpaaW.PrintLast Go.Proofs.YtibnkopdkfjgpaaW.PrintMore
attribute [local go_sem] max2_int min2_int max_two min_two max_three min_three max_four min_four   -- for this text's walks alone

def graftagelaw27_BitmapAsks.j0 : Nat → ByteArray → List ByteArray → List ByteArray → Bool → Option (Bool)
 | 0, _, _, _, _ => none
 | k + 1, x0, x1, x2, x23 => if x23 = true then ((graftagelaw27_lives.f k).bind fun t101 => (some t101)) else ((bitmap_Query.f x0 x1 x2).bind fun bt102 => ((graftageref27_Ask.f k x0 x1 x2).bind fun bt106 => ((graftageref17_SameTexts.f k bt102.1 bt106.1).bind fun t110 => (if t110 = true then (if bt102.2 = bt106.2 then ((graftagelaw27_lives.f k).bind fun t111 => (some t111)) else (some false)) else (some false)))))
def graftagelaw27_BitmapAsks.f (k : Nat) (a0 : ByteArray) (l1 : List ByteArray) (l2 : List ByteArray) : Option (Bool) := if (a0.size : Int) > 1000 then (graftagelaw27_BitmapAsks.j0 k a0 l1 l2 true) else (if (l1.length : Int) > 20 then (graftagelaw27_BitmapAsks.j0 k a0 l1 l2 true) else (graftagelaw27_BitmapAsks.j0 k a0 l1 l2 (decide ((l2.length : Int) > 20))))
set_option maxHeartbeats 8000000 in
set_option maxRecDepth 100000 in
theorem graftagelaw27_BitmapAsks.callsT (k : Nat) (a0 : ByteArray) (A1 : Option Addr) (c1 : Nat) (l1 : List ByteArray) (A2 : Option Addr) (c2 : Nat) (l2 : List ByteArray) (r : Bool) (w : World) (hr1 : Kd.C Kd.string w A1 l1.length l1) (hc1 : l1.length ≤ c1) (hr2 : Kd.C Kd.string w A2 l2.length l2) (hc2 : l2.length ≤ c2) (hr_ : r = true) (h : graftagelaw27_BitmapAsks.f k a0 l1 l2 = some r) :
  Calls Try.prog 6 #[.string a0, .slice A1 l1.length c1, .slice A2 l2.length c2] w fun e w' => e = .returned (.bool r) ∧ Below w.heap.size w w' := by
 have HR1 := Aside0.mk hr1; have HC1 := Aside0.mk hc1; clear hr1 hc1; have HR2 := Aside0.mk hr2; have HC2 := Aside0.mk hc2; clear hr2 hc2; have HB := Aside0.mk (Below.refl w.heap.size w); unfold graftagelaw27_BitmapAsks.f at h; have H := h; clear h; have HC4 := Aside0.mk H; clear H; go_enter Try.func6, Try.ntmps6; go_upto_region 1 with (fail)
 go_cut [23] (fun v23 wc => ∃ (kq : Nat) (x23_3 : Bool), v23 = .bool x23_3 ∧ Aside0 (graftagelaw27_BitmapAsks.j0 kq a0 l1 l2 x23_3 = some r) ∧ Aside0 (kq ≤ k) ∧ Aside0 (Below w.heap.size w wc))
 case first =>
  have H := HC4.out; clear HC4; by_cases c5 : (a0.size : Int) > 1000
  ·rw [if_pos c5] at H; have c5b0 := dt_ c5; have c5b1 : decide (1000 < a0.size) = true := decide_eq_true (by omega); clear c5; (first | rw [c5b0] | (simp only [i64_w, i32_w]; rw [c5b0]) | skip); (try rw [c5b8])
   have H' := Aside0.mk H; clear H; go_wp2
   go_meet
   case rel => exact ⟨_, (true), z0_, H', ⟨z6_⟩, ⟨hb_ HB.out⟩⟩
  rw [if_neg c5] at H; have c5b0 := df_ c5; have c5b1 : decide (1000 < a0.size) = false := decide_eq_false (by omega); clear c5; (first | rw [c5b0] | (simp only [i64_w, i32_w]; rw [c5b0]) | skip); (try rw [c5b8])
  by_cases c6 : (l1.length : Int) > 20
  ·rw [if_pos c6] at H; have c6b0 := dt_ c6; have c6b1 : decide (20 < l1.length) = true := decide_eq_true (by omega); clear c6; have H' := Aside0.mk H; clear H; go_wp2
   go_meet
   case rel => exact ⟨_, (true), z0_, H', ⟨z6_⟩, ⟨hb_ HB.out⟩⟩
  rw [if_neg c6] at H; have c6b0 := df_ c6; have c6b1 : decide (20 < l1.length) = false := decide_eq_false (by omega); clear c6; have H' := Aside0.mk H; clear H; go_wp2
  go_meet
  case rel => exact ⟨_, (decide ((l2.length : Int) > 20)), z0_, H', ⟨z6_⟩, ⟨hb_ HB.out⟩⟩
 case rest =>
  clear HC4; try clear c1
  try clear c2
  try clear p2
  try clear c5
  try clear c5b0
  try clear c5b1
  try clear c6
  try clear c6b0
  try clear c6b1
  obtain ⟨kq, x23_3, rfl, HA, HJ3, HB⟩ := hcut
  cases kq with
  | zero => exact absurd HA.out (by simp [graftagelaw27_BitmapAsks.j0])
  | succ kj3 =>
   have H := HA.out; clear HA; simp only [graftagelaw27_BitmapAsks.j0] at H; by_cases c7 : x23_3 = true
   ·subst c7; rw [if_pos rfl] at H; obtain ⟨t101, A8, H⟩ := bx_ H; obtain rfl := oi_ H; go_wp2_with (first | ((with_reducible refine gate_callee (f := 7) rfl ?_); refine gl_ (some 24) Try.func7 #[] ?_; refine cm_ (graftagelaw27_lives.calls kj3  t101 _ A8.out) fun w9 hb => ?_; replace HB := ah_ HB hb; (try clear hb); (try clear hb2); (try clear hk); (try clear hi)))
    go_ret
    exact ⟨z2_, hb_ HB.out⟩
   replace c7 := Bool.eq_false_iff.mpr c7; subst c7; rw [if_neg nft_] at H; obtain ⟨⟨t102, t103⟩, A10, H⟩ := bx_ H; dsimp only at H; obtain ⟨⟨t106, t107⟩, A11, H⟩ := bx_ H; dsimp only at H; obtain ⟨t110, A12, H⟩ := bx_ H; by_cases c13 : t110 = true; rotate_left
   ·replace c13 := Bool.eq_false_iff.mpr c13; subst c13; rw [if_neg nft_] at H; exact absurd ((Option.some.inj H).trans hr_) (by simp)
   subst c13; rw [if_pos rfl] at H; by_cases c14 : t103 = t107; rotate_left
   ·rw [if_neg c14] at H; have c14b0 := ef_ c14; have c14b1 := nt_ c14; exact absurd ((Option.some.inj H).trans hr_) (by simp)
   rw [if_pos c14] at H; have c14b0 := et_ c14; have c14b1 := nf_ c14; clear c14; obtain ⟨t111, A15, H⟩ := bx_ H; obtain rfl := oi_ H; go_wp2_with (first | ((with_reducible refine gate_callee (f := 23) rfl ?_); refine gl_ (some 29) Try.func23 #[.string a0, .slice A1 l1.length c1, .slice A2 l2.length c2] ?_; (with_reducible refine (bitmap_Query.calls a0 _ _ l1 _ _ l2 t102 t103 _ ?side1 ?side2 ?side3 ?side4 A10.out).mono ?_); (case side1 => repeat (first | exact (Kd.C_below HR1.out HB.out) | (with_reducible refine Kd.C_alloc ?_ _) | (with_reducible refine Kd.C_drewN ?_ _) | (with_reducible refine Kd.C_drew ?_))); (case side2 => exact HC1.out); (case side3 => repeat (first | exact (Kd.C_below HR2.out HB.out) | (with_reducible refine Kd.C_alloc ?_ _) | (with_reducible refine Kd.C_drewN ?_ _) | (with_reducible refine Kd.C_drew ?_))); (case side4 => exact HC2.out); rintro e w16 ⟨v104, rfl, ho0, hb⟩; refine ⟨_, rfl, ?_⟩; have HO105 := Aside0.mk (Kd.R_lower ho0 (below_size (hb_ HB.out))); replace HB := ah_ HB hb; (try clear hb); (try clear hb2); (try clear hk); (try clear hi); (try clear ho0)) | ((with_reducible refine gate_callee (f := 24) rfl ?_); refine gl_ (some 36) Try.func24 #[.string a0, .slice A1 l1.length c1, .slice A2 l2.length c2] ?_; (with_reducible refine (graftageref27_Ask.calls kj3 a0 _ _ l1 _ _ l2 t106 t107 _ ?side1 ?side2 ?side3 ?side4 A11.out).mono ?_); (case side1 => repeat (first | exact (Kd.C_below HR1.out HB.out) | (with_reducible refine Kd.C_alloc ?_ _) | (with_reducible refine Kd.C_drewN ?_ _) | (with_reducible refine Kd.C_drew ?_))); (case side2 => exact HC1.out); (case side3 => repeat (first | exact (Kd.C_below HR2.out HB.out) | (with_reducible refine Kd.C_alloc ?_ _) | (with_reducible refine Kd.C_drewN ?_ _) | (with_reducible refine Kd.C_drew ?_))); (case side4 => exact HC2.out); rintro e w17 ⟨v108, rfl, ho0, hb⟩; refine ⟨_, rfl, ?_⟩; have HO109 := Aside0.mk (Kd.R_lower (Kd.R_new' ho0 (Kd.R_lt (rk_ HO105.out))) (below_size (hb_ HB.out))); replace HO105 := Aside0.mk (Kd.R_elder' (rk_ HO105.out) (Kd.R_base ho0) hb); replace HB := ah_ HB hb; (try clear hb); (try clear hb2); (try clear hk); (try clear hi); (try clear ho0); obtain ⟨Ao18, co18, eo18⟩ := Kd.R_slice HO105.out; subst eo18; obtain ⟨Ao19, co19, eo19⟩ := Kd.R_slice HO109.out; subst eo19) | ((with_reducible refine gate_callee (f := 25) rfl ?_); refine gl_ (some 41) Try.func25 #[.slice Ao18 t102.length co18, .slice Ao19 t106.length co19] ?_; (with_reducible refine (graftageref17_SameTexts.calls kj3 _ _ t102 _ _ t106 true _ ?side1 ?side2 ?side3 ?side4 A12.out).mono ?_); (case side1 => repeat (first | exact (Kd.R_reads' HO105.out).2.2 | (with_reducible refine Kd.C_alloc ?_ _) | (with_reducible refine Kd.C_drewN ?_ _) | (with_reducible refine Kd.C_drew ?_))); (case side2 => exact (Kd.R_reads' HO105.out).2.1); (case side3 => repeat (first | exact (Kd.R_reads' HO109.out).2.2 | (with_reducible refine Kd.C_alloc ?_ _) | (with_reducible refine Kd.C_drewN ?_ _) | (with_reducible refine Kd.C_drew ?_))); (case side4 => exact (Kd.R_reads' HO109.out).2.1); rintro e w' ⟨rfl, ⟨nd, rfl⟩⟩; refine ⟨_, rfl, ?_⟩) | (go_at_call 7; (with_reducible refine (graftagelaw27_lives.calls kj3  t111 _ A15.out).mono ?_); rintro e w20 ⟨rfl, hb⟩; replace HO105 := Aside0.mk (Kd.R_below (rk_ HO105.out) hb); replace HO109 := Aside0.mk (Kd.R_below (rk_ HO109.out) hb); replace HB := ah_ HB hb; (try clear hb); (try clear hb2); (try clear hk); (try clear hi)))
   go_ret
   exact ⟨z2_, hb_ HB.out⟩

end Go.Proofs.Ytibnkopdkfjgpaa.Q


