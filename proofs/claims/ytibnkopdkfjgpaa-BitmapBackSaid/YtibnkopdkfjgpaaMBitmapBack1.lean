/- The law BitmapBack holds: for every input it returns true, and each argument reads afterwards as it read before. -/
import Derived.Test.YtibnkopdkfjgpaaMYBitmapBack1
import Derived.Test.YtibnkopdkfjgpaaProg
import Derived.Below
import Derived.Deep.Draws
import Derived.Deep.AppendLies
import Derived.Maps.AppendAt
import Derived.OwnWalk
import Derived.Laws.BytesArg
import Derived.Laws.MakeOwn
import Derived.Laws.OwnMore
import Derived.Deep.OwnRows
import Derived.Tactics
import Derived.Lib.ConvBytes
import Derived.Laws.Slices
import Derived.WalkKit
import Derived.KernelRfl
import Derived.RowKit3
import Derived.Deep.LoopGhost
import Derived.Deep.QuietTactic
import Derived.BigQuiet
import Derived.WideLaws
import Derived.Deep.DeepCutAuto
import Derived.Deep.CutBlock
import Derived.Deep.RegionHeld3
import Derived.Laws.Rows
import Derived.Lib.AppendStr
import Derived.ArgAppend
import Derived.Laws.IdiomCopy
import Derived.OrdersHeld
import Derived.Laws.BitsLemmas
import Derived.RowKit
import Derived.Laws.Cover1
import Derived.Shelf.Abstract
set_option linter.unusedVariables false
set_option linter.unusedSimpArgs false
/- Contracts of Go functions as calls of plain Lean functions, written by a program of this session over the kit's print. -/
namespace Go.Proofs.Ytibnkopdkfjgpaa.Q
open Go.RowKit Go.Proofs.YtibnkopdkfjgpaaW.PrintWords Go.Proofs.YtibnkopdkfjgpaaW.PrintLast Go.Proofs.YtibnkopdkfjgpaaW.PrintMore
attribute [local go_sem] max2_int min2_int max_two min_two max_three min_three max_four min_four   -- for this text's walks alone



def errW : Option Int → Value
  | none => .nilIface
  | some c => .iface 0 (.int .i64 c)
theorem errW_none : errW none = .nilIface := rfl
theorem errW_some (c : Int) : errW (some c) = .iface 0 (.int .i64 c) := rfl

theorem info3 : (Try.prog.info? 3).map (fun i => (i.zero, i.size, i.bytes)) = some (some (.int .i64 0), 1, 8) := by kernel_rfl
theorem info4 : (Try.prog.info? 4).map (fun i => (i.zero, i.size, i.bytes)) = some (some (.bool false), 1, 1) := by kernel_rfl
/-! #### struct type 25 -/
structure S25 where
  f0 : Int
  f1 : (List Int)
def k25 : Kd S25 := Kd.iso (Kd.pair (Kd.int .i64) (Kd.slice 3 (Kd.int .i64))) (fun x : S25 => (x.f0, x.f1))
theorem k25_open {w : World} {x : S25} {cs : List Value} (h : k25.K w x cs) : ∃ A1 c1, cs = [.int .i64 x.f0, .slice A1 x.f1.length c1] ∧ x.f1.length ≤ c1 ∧ (Kd.int .i64).C w A1 x.f1.length x.f1 := by
  obtain ⟨_, _, rfl, rfl, ⟨A1, c1, rfl, l1, g1⟩⟩ := h
  exact ⟨A1, c1, rfl, l1, g1⟩
/-! #### struct type 52 -/
structure S52 where
  f0 : ByteArray
  f1 : Int
  f2 : Bool
/-! #### struct type 61 -/
structure S61 where
  f0 : (List ByteArray)
  f1 : (List Int)
  f2 : (List S25)
/-! #### struct type 79 -/
structure S79 where
  f0 : (List Int)
  f1 : Int
  f2 : Int
theorem ne_nil_bool (l : List UInt8) : (l != []) = !l.isEmpty := by cases l <;> rfl
end Go.Proofs.Ytibnkopdkfjgpaa.Q


/- Laws of no program: what holds behind new blocks and draws, found by the class. -/
namespace Go.Proofs.Ytibnkopdkfjgpaa.Q
open Go.RowKit Go.Proofs.YtibnkopdkfjgpaaW.PrintWords Go.Proofs.YtibnkopdkfjgpaaW.PrintLast Go.Proofs.YtibnkopdkfjgpaaW.PrintMore
class Up (w w1 : World) : Prop where
  b : Below w.heap.size w w1
instance (w : World) : Up w w := ⟨Below.refl _ _⟩
instance (w w1 : World) (o : Obj) [h : Up w w1] : Up w (w1.alloc o) := ⟨below_alloc h.b o⟩
instance (w w1 : World) [h : Up w w1] : Up w w1.drew := ⟨below_drew1 h.b⟩
instance (w w1 : World) (n : Nat) [h : Up w w1] : Up w (w1.drewN n) := ⟨pw_below_drewN h.b n⟩
theorem hb_ {w0 w w1 : World} [h : Up w w1] (hb : Below w0.heap.size w0 w) : Below w0.heap.size w0 w1 := below_step hb h.b
theorem bk_ {w w1 : World} {g : Nat} {o : Obj} [h : Up w w1] (hb : w.heap[g]? = some o) : w1.heap[g]? = some o := blk_below hb h.b
theorem rk_ {α : Type} {d : Kd α} {e base : Nat} {ok : Nat → Prop} {v : Value} {xs : List α} {w w1 : World} [h : Up w w1] (hr : d.R e w base ok v xs) : d.R e w1 base ok v xs := Kd.R_below hr h.b
theorem hs_ {p : Prop} (h : p := by repeat (first | (with_reducible first | exact HB.out | apply below_alloc | apply pw_below_drewN | apply below_drew1 | refine below_set ?_ (Aside0.out (by assumption))) | exact HB.out)) : p := h
end Go.Proofs.Ytibnkopdkfjgpaa.Q


/- Lemmas with default proofs, for printed texts. -/
namespace Go.Proofs.Ytibnkopdkfjgpaa.Q
open Go.RowKit Go.Proofs.YtibnkopdkfjgpaaW.PrintWords Go.Proofs.YtibnkopdkfjgpaaW.PrintLast Go.Proofs.YtibnkopdkfjgpaaW.PrintMore
theorem bc1 {w : World} {g : Nat} {t : TypeId} {x0 : Value} (h : w.heap[g]? = some (.cells #[x0] t (0, 0))) : w.cell? ⟨g, 0, none⟩ = some x0 ∧ ∀ i, w.frozen? ⟨g, i, none⟩ = false := ⟨(blk_cell h 0).trans rfl, fun i => blk_frozen h i⟩
theorem bc2o {w : World} {g : Nat} {t : TypeId} {x0 x1 : Value} (h : w.heap[g]? = some (.cells #[x0, x1] t (0, 0))) : w.cell? ⟨g, 0, none⟩ = some x0 ∧ w.cell? ⟨g, 1, none⟩ = some x1 := ⟨(blk_cell h 0).trans rfl, (blk_cell h 1).trans rfl⟩
theorem bc2 {w : World} {g : Nat} {t : TypeId} {x0 x1 : Value} (h : w.heap[g]? = some (.cells #[x0, x1] t (0, 0))) : w.cell? ⟨g, 0, none⟩ = some x0 ∧ w.cell? ⟨g, 1, none⟩ = some x1 ∧ ∀ i, w.frozen? ⟨g, i, none⟩ = false := ⟨(blk_cell h 0).trans rfl, (blk_cell h 1).trans rfl, fun i => blk_frozen h i⟩
theorem mz_ {p : Prop} (h : p := by repeat' first | (with_reducible exact LeO.refl _) | (with_reducible exact LeO.none _) | (with_reducible refine LeO.ite ?_ ?_) | (with_reducible refine LeO.bind ?_ (fun _ => ?_)) | (with_reducible apply m0_) | (with_reducible apply m1_) | (with_reducible apply m2_) | (with_reducible apply m3_) | (with_reducible apply m4_) | (with_reducible apply m5_) | (with_reducible apply m6_) | (with_reducible apply m7_) | (with_reducible apply m8_) | (with_reducible apply m9_) | (with_reducible apply m10_) | (with_reducible apply m11_) | apply m0_ | apply m1_ | apply m2_ | apply m3_ | apply m4_ | apply m5_ | apply m6_ | apply m7_ | apply m8_ | apply m9_ | apply m10_ | apply m11_ | exact LeO.none _ | refine LeO.ite ?_ ?_ | refine LeO.bind ?_ (fun _ => ?_)) : p := h
theorem bx_ {α β : Type} {x : Option α} {f : α → Option β} {b : β} (h : x.bind f = some b) : ∃ a, Aside0 (x = some a) ∧ f a = some b := by obtain ⟨a, h1, h2⟩ := Option.bind_eq_some_iff.mp h; exact ⟨a, ⟨h1⟩, h2⟩
theorem ad_ {w : World} {g : Nat} {o : Obj} (h : Aside0 (w.heap[g]? = some o)) : Aside0 (w.drew.heap[g]? = some o) := ⟨blk_drew h.out⟩
theorem hd_ {w w1 : World} (h : Aside0 (Below w.heap.size w w1)) : Aside0 (Below w.heap.size w w1.drew) := ⟨below_drew1 h.out⟩
theorem dt_ {p : Prop} [Decidable p] (h : p) : decide p = true := decide_eq_true h
theorem df_ {p : Prop} [Decidable p] (h : ¬ p) : decide p = false := decide_eq_false h
theorem nf_ {α : Type} [BEq α] [LawfulBEq α] {a b : α} (h : a = b) : (a != b) = false := bne_eq_false_iff_eq.mpr h
theorem nt_ {α : Type} [BEq α] [LawfulBEq α] {a b : α} (h : a ≠ b) : (a != b) = true := bne_iff_ne.mpr h
theorem ef_ {α : Type} [BEq α] [LawfulBEq α] {a b : α} (h : a ≠ b) : (a == b) = false := beq_eq_false_iff_ne.mpr h
theorem et_ {α : Type} [BEq α] [LawfulBEq α] {a b : α} (h : a = b) : (a == b) = true := beq_iff_eq.mpr h
theorem cm_ {P : Program} {f : FuncId} {args : Array Value} {w : World} {v : Value} {R : World → Prop} {K : Value → World → Prop} (h : Calls P f args w fun e w' => e = .returned v ∧ R w') (k : ∀ w', R w' → K v w') : Calls P f args w fun e w' => ∃ v, e = .returned v ∧ K v w' := h.mono fun e w' q => ⟨v, q.1, k w' q.2⟩
theorem nft_ : ¬ (false = true) := by decide
def bl : Nat → Nat → List Bool
  | 0, _ => []
  | n + 1, m => (m % 2 == 1) :: bl n (m / 2)
def bs (n m : Nat) : Array Bool := ⟨bl n m⟩
theorem y0_ {p : Prop} [Decidable p] (h : decide p = true := by first | (with_reducible assumption) | assumption) : p := of_decide_eq_true h
theorem pj2_ {t0 t1 : Type} {a0 b0 : t0} {a1 b1 : t1} (h : some (a0, a1) = some (b0, b1)) : a0 = b0 ∧ a1 = b1 := by simpa only [Option.some.injEq, Prod.mk.injEq] using h
theorem pj3_ {t0 t1 t2 : Type} {a0 b0 : t0} {a1 b1 : t1} {a2 b2 : t2} (h : some (a0, a1, a2) = some (b0, b1, b2)) : a0 = b0 ∧ a1 = b1 ∧ a2 = b2 := by simpa only [Option.some.injEq, Prod.mk.injEq] using h
theorem z0_ {p : Prop} (h : p := by first | (with_reducible assumption) | assumption) : p := h
theorem z1_ {p : Prop} (h : p := by first | rfl | (simp; done) | (simp [*]; done) | (simp [ne_nil_bool]; done) | (simp [*, ne_nil_bool]; done)) : p := h
theorem z2_ {p : Prop} (h : p := by (try simp only [List.map_toArray, List.map_cons, List.map_nil]); first | done | rfl | (simp only [List.length_drop, List.length_take]; rfl)) : p := h
theorem z3_ {p : Prop} (h : p := by first | rfl | (simp [errW_none, errW_some] <;> rfl) | (simp [*, errW_none, errW_some] <;> rfl) | (simp [ne_nil_bool]; done) | (simp [*, ne_nil_bool]; done)) : p := h
theorem z4_ {p : Prop} (h : p := by repeat (first | exact Drawn0.refl _ | apply Drawn0.step)) : p := h
theorem z5_ {p : Prop} (h : p := by first | (simp only [putAll, Act.put, List.setIfInBounds_toArray, List.set_cons_zero, List.set_cons_succ]; done) | (simp only [putAll, Act.put, List.setIfInBounds_toArray, List.set_cons_zero, List.set_cons_succ]; rfl)) : p := h
theorem z6_ {p : Prop} (h : p := by first | omega | exact Nat.le_refl _) : p := h
theorem z7_ {p : Prop} (h : p := by first | exact Kd.R_nil _ _ _ _ _ | exact Kd.N_nil _ _ _ _ _ | exact Kd.V_nil _ _ _ _ _ | exact Kd.Q_nil _ _ _ _ _ | exact Kd.S_nil _ _ _ _ _) : p := h
theorem z8_ {p : Prop} (h : p := by (with_reducible repeat (first | apply Kd.R_alloc | apply Kd.R_drewN | apply Kd.R_drew)); exact HO_3.out) : p := h
theorem z9_ {p : Prop} (h : p := by (with_reducible repeat (first | apply Kd.R_alloc | apply Kd.R_drewN | apply Kd.R_drew)); exact Kd.R_mono HO120.out (fun _ hk => ⟨hk.1.2, hk.2⟩)) : p := h
theorem z10_ {p : Prop} (h : p := by (with_reducible repeat (first | apply Kd.R_alloc | apply Kd.R_drewN | apply Kd.R_drew)); exact Kd.R_mono HO110.out (fun _ hk => ⟨hk.1.1, ⟨hk.1.2, hk.2⟩⟩)) : p := h
theorem z11_ {p : Prop} (h : p := by (with_reducible repeat (first | apply Kd.R_alloc | apply Kd.R_drewN | apply Kd.R_drew)); exact Kd.R_mono HO114.out (fun _ hk => ⟨hk.1.1, ⟨hk.1.2, hk.2⟩⟩)) : p := h
theorem z12_ {p : Prop} (h : p := by (with_reducible repeat (first | apply Kd.R_alloc | apply Kd.R_drewN | apply Kd.R_drew)); exact Kd.R_mono HO120.out (fun _ hk => ⟨hk.1.1, ⟨hk.1.2, hk.2⟩⟩)) : p := h
theorem z13_ {p : Prop} (h : p := by (with_reducible repeat (first | apply Kd.R_alloc | apply Kd.R_drewN | apply Kd.R_drew)); exact Kd.R_mono HO124.out (fun _ hk => ⟨hk.1.1.2, ⟨hk.1.2, hk.2⟩⟩)) : p := h
theorem z14_ {p : Prop} (h : p := by (with_reducible repeat (first | refine blk_drewN ?_ _ | refine blk_drew ?_ | refine blk_alloc ?_ _)); refine blk_far ?_ NB101_126.out _; (with_reducible repeat (first | refine blk_drewN ?_ _ | refine blk_drew ?_ | refine blk_alloc ?_ _)); refine blk_far ?_ NB101_126.out _; (with_reducible repeat (first | refine blk_drewN ?_ _ | refine blk_drew ?_ | refine blk_alloc ?_ _)); refine blk_far ?_ NB101_125.out _; (with_reducible repeat (first | refine blk_drewN ?_ _ | refine blk_drew ?_ | refine blk_alloc ?_ _)); refine blk_far ?_ NB101_125.out _; (with_reducible repeat (first | refine blk_drewN ?_ _ | refine blk_drew ?_ | refine blk_alloc ?_ _)); exact BK101.out) : p := h
theorem z15_ {p : Prop} (h : p := by (with_reducible repeat (first | refine blk_drewN ?_ _ | refine blk_drew ?_ | refine blk_alloc ?_ _)); refine blk_far ?_ NB102_126.out _; (with_reducible repeat (first | refine blk_drewN ?_ _ | refine blk_drew ?_ | refine blk_alloc ?_ _)); refine blk_far ?_ NB102_126.out _; (with_reducible repeat (first | refine blk_drewN ?_ _ | refine blk_drew ?_ | refine blk_alloc ?_ _)); refine blk_far ?_ NB102_125.out _; (with_reducible repeat (first | refine blk_drewN ?_ _ | refine blk_drew ?_ | refine blk_alloc ?_ _)); refine blk_far ?_ NB102_125.out _; (with_reducible repeat (first | refine blk_drewN ?_ _ | refine blk_drew ?_ | refine blk_alloc ?_ _)); exact BK102.out) : p := h
theorem z16_ {p : Prop} (h : p := by (with_reducible repeat (first | refine blk_drewN ?_ _ | refine blk_drew ?_ | refine blk_alloc ?_ _)); refine blk_far ?_ NB116_126.out _; (with_reducible repeat (first | refine blk_drewN ?_ _ | refine blk_drew ?_ | refine blk_alloc ?_ _)); refine blk_far ?_ NB116_126.out _; (with_reducible repeat (first | refine blk_drewN ?_ _ | refine blk_drew ?_ | refine blk_alloc ?_ _)); refine blk_far ?_ NB116_125.out _; (with_reducible repeat (first | refine blk_drewN ?_ _ | refine blk_drew ?_ | refine blk_alloc ?_ _)); refine blk_far ?_ NB116_125.out _; (with_reducible repeat (first | refine blk_drewN ?_ _ | refine blk_drew ?_ | refine blk_alloc ?_ _)); exact BK116.out) : p := h
theorem z17_ {p : Prop} (h : p := by (with_reducible repeat (first | apply Kd.R_alloc | apply Kd.R_drewN | apply Kd.R_drew)); exact Kd.R_mono HO110.out (fun _ hk => hk.2)) : p := h
theorem z18_ {p : Prop} (h : p := by (with_reducible repeat (first | apply Kd.R_alloc | apply Kd.R_drewN | apply Kd.R_drew)); exact Kd.R_mono HO114.out (fun _ hk => hk.2)) : p := h
theorem z19_ {p : Prop} (h : p := by (with_reducible repeat (first | apply Kd.R_alloc | apply Kd.R_drewN | apply Kd.R_drew)); exact Kd.R_mono HO114.out (fun _ hk => ⟨hk.2.1, hk.2.2⟩)) : p := h
theorem z20_ {p : Prop} (h : p := by (with_reducible repeat (first | apply Kd.R_alloc | apply Kd.R_drewN | apply Kd.R_drew)); exact Kd.R_mono HO120.out (fun _ hk => ⟨hk.2.1, hk.2.2⟩)) : p := h
theorem z21_ {p : Prop} (h : p := by (with_reducible repeat (first | apply Kd.R_alloc | apply Kd.R_drewN | apply Kd.R_drew)); exact Kd.R_mono HO124.out (fun _ hk => ⟨hk.2.1, hk.2.2⟩)) : p := h
theorem bb_ {w w1 w2 : World} {g : Nat} {o : Obj} [h : Up w w1] (hb : w.heap[g]? = some o) (h2 : Below w1.heap.size w1 w2) : w2.heap[g]? = some o := blk_below (bk_ hb) h2
theorem bl_ {w w1 : World} {g : Nat} {o : Obj} [h : Up w w1] (hb : w.heap[g]? = some o) : g ≠ w1.heap.size := Nat.ne_of_lt (blk_lt (bk_ (w1 := w1) hb))
theorem bg_ {w w1 : World} {g : Nat} {o : Obj} [h : Up w w1] (hb : w.heap[g]? = some o) : w1.heap.size ≠ g := Nat.ne_of_gt (blk_lt (bk_ (w1 := w1) hb))
theorem nl2_ {w w1 : World} {g q : Nat} {o : Obj} (hg : q = w1.heap.size) [h : Up w w1] (hb : w.heap[g]? = some o) : g ≠ q := hg ▸ bl_ hb
theorem ng2_ {w w1 : World} {g q : Nat} {o : Obj} (hg : q = w1.heap.size) [h : Up w w1] (hb : w.heap[g]? = some o) : q ≠ g := hg ▸ bg_ hb
theorem gw_ {w0 w w1 : World} {g : Nat} (hg : g = w1.heap.size) [h : Up w w1] (hb : Below w0.heap.size w0 w) : w0.heap.size ≤ g := hg ▸ below_size (hb_ hb)
theorem be_ {P : Program} {ops : Array Oper} {rest : List Oper} {o : Oper} {a : Act} {Q : Exit → Act → World → Prop} {W : World} {cs : Array Value} {t : TypeId} (h : ∀ g, g = W.heap.size → ∀ w1, w1.heap[g]? = some (.cells cs t (0, 0)) → Below W.heap.size W w1 → wpList P ops Q rest (a.put o.dst (.pointer (some ⟨g, 0, none⟩))) w1) {N : Tmp} (hd : o.dst = some N := by rfl) (hg : o.guard = none := by rfl) (hr : (execOp a.eval o).run P W = .ok (.value (.pointer (some ⟨W.heap.size, 0, none⟩))) (W.alloc (.cells cs t (0, 0))) := by first | (go_simp; done) | (go_simp; rfl)) : wpList P ops Q (o :: rest) a W := box_event hg hd hr h
theorem bpt_ {w : World} {g : Nat} {t : TypeId} {cs cs' : Array Value} {i : Nat} {u : Value} (h : w.heap[g]? = some (.cells cs t (0, 0))) (e : cs.setIfInBounds i u = cs') : (w.setCell ⟨g, i, none⟩ u).heap[g]? = some (.cells cs' t (0, 0)) := blk_put h i u e
theorem ab_ {w w1 w2 : World} {g : Nat} {o : Obj} [h : Up w w1] (hb : Aside0 (w.heap[g]? = some o)) (h2 : Below w1.heap.size w1 w2) : Aside0 (w2.heap[g]? = some o) := ⟨bb_ hb.out h2⟩
theorem ah_ {w0 w w1 w2 : World} [h : Up w w1] (h1 : Aside0 (Below w0.heap.size w0 w)) (h2 : Below w1.heap.size w1 w2) : Aside0 (Below w0.heap.size w0 w2) := ⟨below_step (hb_ h1.out) h2⟩
theorem ag_ {w0 w w1 : World} {g : Nat} (hg : g = w1.heap.size) [h : Up w w1] (hb : Aside0 (Below w0.heap.size w0 w)) : Aside0 (w0.heap.size ≤ g) := ⟨gw_ hg hb.out⟩
theorem gl_ {P : Program} {ops : Array Oper} {Q : Exit → Act → World → Prop} {rest : List Oper} {oi : Oper} {a : Act} {w : World} (N : Option Tmp) {f : FuncId} {fn : Func} {as' : Array Operand} {ts : Array TypeId} (hf : P.funcs[f]? = some fn) (args : Array Value) (h : Calls P f args w fun e w' => ∃ v, e = .returned v ∧ wpList P ops Q rest (a.put N v) w') (hd : oi.dst = N := by rfl) (hg : oi.guard = none := by rfl) (hname : (fn.name == "runtime.NumGoroutine") = false := by kernel_rfl) (hb : fn.body.isSome = true := by rfl) (hop : oi.op = .call { callee := .value (.func f), args := as', argTypes := ts } := by rfl) (hargs : as'.map a.eval = args := by (try simp only [List.map_toArray, List.map_cons, List.map_nil]); first | done | rfl | (simp only [List.length_drop, List.length_take]; rfl)) : wpList P ops Q (oi :: rest) a w := goesL_ N hd hg hf hname hb args hop hargs h
theorem bf_ {w : World} {g b i : Nat} {t : TypeId} {cs : Array Value} (h : w.heap[g]? = some (.cells cs t (0, 0))) (hb : g ≠ b) (u : Value) : (w.setCell ⟨b, i, none⟩ u).heap[g]? = some (.cells cs t (0, 0)) := blk_far h hb u
theorem zb_ {p : Prop} (h : p := by (with_reducible repeat (first | apply blk_drewN | apply blk_drew | apply blk_alloc | apply bpt_ | apply (bf_ (hb := f_.out)))); exact b_.out; (all_goals first | (simp only [List.setIfInBounds_toArray, List.set_cons_zero, List.set_cons_succ]; done) | (simp only [List.setIfInBounds_toArray, List.set_cons_zero, List.set_cons_succ]; rfl))) : p := h
theorem pun_ {P : Program} {ops : Array Oper} {Q : Exit → Act → World → Prop} {S : World → Prop} {ds : List Nat} {md : Region.Mode} {oi : Oper} {v : Value} {fuel : Nat} {l : Array Bool} {a a' : Act} {w : World} (i : Nat) (n : Tmp) (p q : Nat) (h : wpAnyLast P md ops Q S ds fuel (bs p q) a' w) (hi : ops[i]? = some oi := by rfl) (hN : oi.dst = some n := by rfl) (hc : anyB md ops l (bs p q) i = true := by exact any_of HT_.out (by kernel_rfl)) (hQ : ∀ c a w, Q (.panic c) (a.put oi.dst v) w → Q (.panic c) a w := by exact fun _ _ _ h => h) (hy : Yields P ops oi v a := by (refine Or.inl ⟨by rfl, ?_⟩; intro w'; go_simp; with_reducible rfl)) (ha : a.put (some n) v = a' := by (simp only [Act.put, List.setIfInBounds_toArray, List.set_cons_zero, List.set_cons_succ, i64_w, i32_w]; rfl)) : wpAnyLast P md ops Q S ds (fuel + 1) l a w := pure_ (bs p q) hi hN hc hQ hy ha h
theorem tkW2n_ {P : Program} {ops : Array Oper} {Q : Exit → Act → World → Prop} {S : World → Prop} {ds : List Nat} {md : Region.Mode} {oi : Oper} {v : Value} {fuel : Nat} {l : Array Bool} {a a' : Act} {w : World} (i : Nat) (n : Tmp) (p q : Nat) (hS : S w) (h : wpAnyLast P md ops Q S ds fuel (bs p q) a' w) (hi : ops[i]? = some oi := by rfl) (hN : oi.dst = some n := by rfl) (hc : takeB md ops ds l (bs p q) i = true := by exact take_ofW HT_.out HW_.out (by kernel_rfl)) (hQ : ∀ c a w, Q (.panic c) (a.put oi.dst v) w → Q (.panic c) a w := by exact fun _ _ _ h => h) (hy : YieldsIf P ops S oi v a := by (refine Or.inl ⟨by rfl, ?_⟩; rintro w' ⟨s0, s1⟩; go_simp; with_reducible rfl)) (ha : a.put (some n) v = a' := by (simp only [Act.put, List.setIfInBounds_toArray, List.set_cons_zero, List.set_cons_succ, i64_w, i32_w]; rfl)) : wpAnyLast P md ops Q S ds (fuel + 1) l a w := take_ (bs p q) hi hN hc hQ hy hS ha h
theorem tkW4n_ {P : Program} {ops : Array Oper} {Q : Exit → Act → World → Prop} {S : World → Prop} {ds : List Nat} {md : Region.Mode} {oi : Oper} {v : Value} {fuel : Nat} {l : Array Bool} {a a' : Act} {w : World} (i : Nat) (n : Tmp) (p q : Nat) (hS : S w) (h : wpAnyLast P md ops Q S ds fuel (bs p q) a' w) (hi : ops[i]? = some oi := by rfl) (hN : oi.dst = some n := by rfl) (hc : takeB md ops ds l (bs p q) i = true := by exact take_ofW HT_.out HW_.out (by kernel_rfl)) (hQ : ∀ c a w, Q (.panic c) (a.put oi.dst v) w → Q (.panic c) a w := by exact fun _ _ _ h => h) (hy : YieldsIf P ops S oi v a := by (refine Or.inl ⟨by rfl, ?_⟩; rintro w' ⟨s0, s1, s2, s3⟩; go_simp; with_reducible rfl)) (ha : a.put (some n) v = a' := by (simp only [Act.put, List.setIfInBounds_toArray, List.set_cons_zero, List.set_cons_succ, i64_w, i32_w]; rfl)) : wpAnyLast P md ops Q S ds (fuel + 1) l a w := take_ (bs p q) hi hN hc hQ hy hS ha h
theorem tkW8n_ {P : Program} {ops : Array Oper} {Q : Exit → Act → World → Prop} {S : World → Prop} {ds : List Nat} {md : Region.Mode} {oi : Oper} {v : Value} {fuel : Nat} {l : Array Bool} {a a' : Act} {w : World} (i : Nat) (n : Tmp) (p q : Nat) (hS : S w) (h : wpAnyLast P md ops Q S ds fuel (bs p q) a' w) (hi : ops[i]? = some oi := by rfl) (hN : oi.dst = some n := by rfl) (hc : takeB md ops ds l (bs p q) i = true := by exact take_ofW HT_.out HW_.out (by kernel_rfl)) (hQ : ∀ c a w, Q (.panic c) (a.put oi.dst v) w → Q (.panic c) a w := by exact fun _ _ _ h => h) (hy : YieldsIf P ops S oi v a := by (refine Or.inl ⟨by rfl, ?_⟩; rintro w' ⟨s0, s1, s2, s3, s4, s5, s6, s7⟩; go_simp; with_reducible rfl)) (ha : a.put (some n) v = a' := by (simp only [Act.put, List.setIfInBounds_toArray, List.set_cons_zero, List.set_cons_succ, i64_w, i32_w]; rfl)) : wpAnyLast P md ops Q S ds (fuel + 1) l a w := take_ (bs p q) hi hN hc hQ hy hS ha h
theorem on_ {P : Program} {ops : Array Oper} {Q : Exit → Act → World → Prop} {S : World → Prop} {ds : List Nat} {md : Region.Mode} {oi : Oper} {fuel : Nat} {l : Array Bool} {a : Act} {w : World} (i : Nat) (n : Tmp) (p q : Nat) (h : ∀ K : Act → World → Prop, Shut (∀ a' w', S w' → (S w' → wpAnyLast P md ops Q S ds fuel (bs p q) a' w') → K a' w') → if Region.wanted oi (yielded ops a.tmps) = true then Oper.wp P oi a w K Q else K (a.put (some n) undef) w) (hi : ops[i]? = some oi := by rfl) (hN : oi.dst = some n := by rfl) (hc : readyB md ops l (bs p q) i = true := by exact one_of HT_.out (by kernel_rfl)) (hd : i ∉ ds := by decide) : wpAnyLast P md ops Q S ds (fuel + 1) l a w := one_ (bs p q) hi hN hc hd h
theorem dn_ {P : Program} {ops : Array Oper} {Q : Exit → Act → World → Prop} {S : World → Prop} {ds : List Nat} {md : Region.Mode} {l : Array Bool} {a : Act} {w : World} {n : Nat} (h : Q .normal a w) (hr : (Region.ready md ops l == []) = true := by exact done_of HT_.out (by kernel_rfl)) : wpAnyLast P md ops Q S ds n l a w := done_ hr h
theorem nrm_ {P : Program} {ops : Array Oper} {Q : Exit → Act → World → Prop} {S : World → Prop} {ds : List Nat} {md : Region.Mode} {v : Value} {fuel : Nat} {l : Array Bool} {a a' : Act} {w : World} (n : Tmp) (h : wpAnyLast P md ops Q S ds fuel l a' w) (ha : a.put (some n) v = a' := by (simp only [Act.put, List.setIfInBounds_toArray, List.set_cons_zero, List.set_cons_succ, i64_w, i32_w]; rfl)) : wpAnyLast P md ops Q S ds fuel l (a.put (some n) v) w := norm_ ha h
theorem hbs_ {w0 w w2 : World} (hb : Below w.heap.size w w2) (h : Below w0.heap.size w0 w := by exact hs_) : Aside0 (Below w0.heap.size w0 w2) := ⟨below_step h hb⟩
theorem no_ {α : Type} {r : α} {p : Prop} (h : (none : Option α) = some r) : p := by cases h
theorem oi_ {α : Type} {a b : α} (h : some a = some b) : a = b := Option.some.inj h
end Go.Proofs.Ytibnkopdkfjgpaa.Q


namespace Go.Proofs.Ytibnkopdkfjgpaa.Q
open Go.RowKit Go.Proofs.YtibnkopdkfjgpaaW.PrintWords Go.Proofs.YtibnkopdkfjgpaaW.PrintLast Go.Proofs.YtibnkopdkfjgpaaW.PrintMore
attribute [local go_sem] max2_int min2_int max_two min_two max_three min_three max_four min_four   -- for this text's walks alone

mutual
def bitmap_Valid.j0 : Nat → Bool → Int → List Int → Option (Bool)
 | 0, _, _, _ => none
 | k + 1, x13, x105000, x105001 => if x13 = true then (some false) else (bitmap_Valid.l0 k 0 x105001 (x105001.length : Int) 0 x105000 x105001)
def bitmap_Valid.l0 : Nat → Int → List Int → Int → Int → Int → List Int → Option (Bool)
 | 0, _, _, _, _, _, _ => none
 | k + 1, x3, x15, x16, x17, x105000, x105001 => if x17 < x16 then (if 0 ≤ x17 then (if x17 < (x15.length : Int) then (if (rd x15 x17) < 1 then (if x17 > 0 then (some false) else (if (rd x15 x17) < 0 then (some false) else (if (x105001.length : Int) = 1 then (some false) else (if (rd x15 x17) > x105000 then (some false) else (bitmap_Valid.l0 k (wrap64 (x3 + (rd x15 x17))) x15 x16 (wrap64 (x17 + 1)) x105000 x105001))))) else (if (rd x15 x17) > x105000 then (some false) else (bitmap_Valid.l0 k (wrap64 (x3 + (rd x15 x17))) x15 x16 (wrap64 (x17 + 1)) x105000 x105001))) else (none)) else (none)) else (some (x3 == x105000))
end
def bitmap_Valid.f (k : Nat) (a0_0 : Int) (l0_1 : List Int) : Option (Bool) := if a0_0 < 0 then (bitmap_Valid.j0 k true a0_0 l0_1) else (bitmap_Valid.j0 k (decide (a0_0 > 1048576)) a0_0 l0_1)
set_option maxHeartbeats 8000000 in
set_option maxRecDepth 100000 in
theorem bitmap_Valid.calls (k : Nat) (a0_0 : Int) (A0_1 : Option Addr) (c0_1 : Nat) (l0_1 : List Int) (r : Bool) (w : World) (hr0_1 : Kd.C (Kd.int .i64) w A0_1 l0_1.length l0_1) (hc0_1 : l0_1.length ≤ c0_1) (h : bitmap_Valid.f k a0_0 l0_1 = some r) :
  Calls Try.prog 15 #[.agg #[.int .i64 a0_0, .slice A0_1 l0_1.length c0_1]] w fun e w' => e = .returned (.bool r) ∧ Below w.heap.size w w' := by
 have hu25 := Try.underlying25; have HR0_1 := Aside0.mk hr0_1; have HC0_1 := Aside0.mk hc0_1; clear hr0_1 hc0_1; have HB := Aside0.mk (Below.refl w.heap.size w); unfold bitmap_Valid.f at h; have H := h; clear h; have HC2 := Aside0.mk H; clear H; go_enter Try.func15, Try.ntmps15; go_upto_region 1 with (first | ((with_reducible refine gate_dst (N := 1) rfl ?_); (try (refine gate_guard (by rfl) ?_; dsimp only)); refine be_ (cs := #[.int .i64 a0_0, .slice A0_1 l0_1.length c0_1]) (t := 25) ?_; intro gb104 hg w3 hbox hb; have BK104 := Aside0.mk (hbox); have GW104 := ag_ hg HB; have GE104 := ag_ hg HB; replace HB := ah_ HB hb; clear hb hbox hg)); (try simp only [Act.put, List.setIfInBounds_toArray, List.set_cons_zero, List.set_cons_succ])
 go_cut [13] (fun v13 wc => ∃ (kq : Nat) (x13_1 : Bool), v13 = .bool x13_1 ∧ Aside0 (bitmap_Valid.j0 kq x13_1 a0_0 l0_1 = some r) ∧ Aside0 (kq ≤ k) ∧ Aside0 (wc.heap[gb104]? = some (.cells #[.int .i64 a0_0, (.slice A0_1 l0_1.length c0_1)] 25 (0, 0))) ∧ Aside0 (Below w.heap.size w wc))
 case first =>
  have H := HC2.out; clear HC2; by_cases c4 : a0_0 < 0
  ·rw [if_pos c4] at H; have c4b0 := dt_ c4; clear c4; (first | rw [c4b0] | (simp only [i64_w, i32_w]; rw [c4b0]) | skip); have H' := Aside0.mk H; clear H; obtain ⟨Z5_0, Z5_1, F5⟩ := bc2 BK104.out; go_wp2
   go_meet
   case rel => exact ⟨_, (true), z1_, H', ⟨z6_⟩, ⟨bk_ BK104.out⟩, ⟨hs_⟩⟩
  rw [if_neg c4] at H; have c4b0 := df_ c4; clear c4; (first | rw [c4b0] | (simp only [i64_w, i32_w]; rw [c4b0]) | skip); have H' := Aside0.mk H; clear H; obtain ⟨Z6_0, Z6_1, F6⟩ := bc2 BK104.out; go_wp2
  go_meet
  case rel => exact ⟨_, (decide (a0_0 > 1048576)), z1_, H', ⟨z6_⟩, ⟨bk_ BK104.out⟩, ⟨hs_⟩⟩
 case rest =>
  clear HC2; try clear c1
  try clear p2
  try clear c4
  try clear c4b0
  try clear Z5_0 Z5_1
  try clear Z6_0 Z6_1
  try clear F5
  try clear F6
  obtain ⟨kq, x13_1, rfl, HA, HJ1, BK104, HB⟩ := hcut
  cases kq with
  | zero => exact absurd HA.out (by simp [bitmap_Valid.j0])
  | succ kj1 =>
   have H := HA.out; clear HA; simp only [bitmap_Valid.j0] at H; by_cases c7 : x13_1 = true
   ·subst c7; rw [if_pos rfl] at H; obtain rfl := oi_ H; go_wp2
    go_ret
    exact ⟨z3_, hs_⟩
   replace c7 := Bool.eq_false_iff.mpr c7; subst c7; rw [if_neg nft_] at H; have H' := Aside0.mk H; clear H; obtain ⟨Z8_0, Z8_1, F8⟩ := bc2 BK104.out; go_wp2
   go_loopg [3, 17] kj1 (fun kq v3 v17 w' => ∃ (x3_2 : Int) (x17_2 : Int), v3 = .int .i64 x3_2 ∧ v17 = .int .i64 x17_2 ∧ Aside0 (bitmap_Valid.l0 kq x3_2 l0_1 (l0_1.length : Int) x17_2 a0_0 l0_1 = some r) ∧ Aside0 (kq ≤ kj1) ∧ Aside0 (w'.heap[gb104]? = some (.cells #[.int .i64 a0_0, (.slice A0_1 l0_1.length c0_1)] 25 (0, 0))) ∧ Aside0 (Below w.heap.size w w'))
   case atStart => exact ⟨(0), (0), z1_, z1_, H', ⟨Nat.le_refl _⟩, ⟨bk_ BK104.out⟩, ⟨hs_⟩⟩
   case round =>
    clear H'; try clear c1
    try clear p2
    try clear c4
    try clear c4b0
    try clear c7
    try clear Z5_0 Z5_1
    try clear Z6_0 Z6_1
    try clear Z8_0 Z8_1
    try clear F5
    try clear F6
    try clear F8
    try clear p2
    obtain ⟨x3_2, x17_2, rfl, rfl, HA, HK2, BK104, HB⟩ := hrel
    cases gk with
    | zero => exact absurd HA.out (by simp [bitmap_Valid.l0])
    | succ k2 =>
     have H := HA.out; clear HA; simp only [bitmap_Valid.l0] at H; by_cases c9 : x17_2 < (l0_1.length : Int); rotate_left
     ·rw [if_neg c9] at H; have c9b0 := df_ c9; clear c9; obtain rfl := oi_ H; obtain ⟨Z23_0, Z23_1, F23⟩ := bc2 BK104.out; go_wp2
      go_ret
      exact ⟨z3_, hs_⟩
     rw [if_pos c9] at H; have c9b0 := dt_ c9; clear c9; by_cases c10 : 0 ≤ x17_2; rotate_left
     ·rw [if_neg c10] at H; exact no_ H
     rw [if_pos c10] at H; have c10b0 := dt_ c10; clear c10; by_cases c11 : x17_2 < (l0_1.length : Int); rotate_left
     ·rw [if_neg c11] at H; exact no_ H
     rw [if_pos c11] at H; have c11b0 := dt_ c11; clear c11; by_cases c12 : (rd l0_1 x17_2) < 1; rotate_left
     ·rw [if_neg c12] at H; have c12b0 := df_ c12; clear c12; by_cases c20 : (rd l0_1 x17_2) > a0_0
      ·rw [if_pos c20] at H; have c20b0 := dt_ c20; clear c20; obtain rfl := oi_ H; have p105 : 0 ≤ (x17_2 : Int) := y0_; have q105 : x17_2 < (l0_1.length : Int) := y0_; obtain ⟨ad105, e105, hx105_0⟩ := Kd.at_int HR0_1.out x17_2 p105 q105
       cases e105
       replace hx105_0 := (HB.out.cell (World.block_lt_of_cell? w _ hx105_0)).trans hx105_0; replace p105 := eq_true p105; replace q105 := eq_true q105; obtain ⟨Z21_0, Z21_1, F21⟩ := bc2 BK104.out; go_wp2
       go_ret
       exact ⟨z3_, hs_⟩
      rw [if_neg c20] at H; have c20b0 := df_ c20; clear c20; have H' := Aside0.mk H; clear H; have p105 : 0 ≤ (x17_2 : Int) := y0_; have q105 : x17_2 < (l0_1.length : Int) := y0_; obtain ⟨ad105, e105, hx105_0⟩ := Kd.at_int HR0_1.out x17_2 p105 q105
      cases e105
      replace hx105_0 := (HB.out.cell (World.block_lt_of_cell? w _ hx105_0)).trans hx105_0; replace p105 := eq_true p105; replace q105 := eq_true q105; obtain ⟨Z22_0, Z22_1, F22⟩ := bc2 BK104.out; go_wp2
      go_roundg k2
      case measure => have := HJ1.out; have := HK2.out; omega
      case rel => exact ⟨(wrap64 (x3_2 + (rd l0_1 x17_2))), (wrap64 (x17_2 + 1)), z1_, z1_, H', ⟨by have := HJ1.out; have := HK2.out; omega⟩, ⟨bk_ BK104.out⟩, ⟨hs_⟩⟩
     rw [if_pos c12] at H; have c12b0 := dt_ c12; clear c12; by_cases c13 : x17_2 > 0
     ·rw [if_pos c13] at H; have c13b0 := dt_ c13; clear c13; obtain rfl := oi_ H; have p105 : 0 ≤ (x17_2 : Int) := y0_; have q105 : x17_2 < (l0_1.length : Int) := y0_; obtain ⟨ad105, e105, hx105_0⟩ := Kd.at_int HR0_1.out x17_2 p105 q105
      cases e105
      replace hx105_0 := (HB.out.cell (World.block_lt_of_cell? w _ hx105_0)).trans hx105_0; replace p105 := eq_true p105; replace q105 := eq_true q105; go_wp2
      go_ret
      exact ⟨z3_, hs_⟩
     rw [if_neg c13] at H; have c13b0 := df_ c13; clear c13; by_cases c14 : (rd l0_1 x17_2) < 0
     ·rw [if_pos c14] at H; have c14b0 := dt_ c14; clear c14; obtain rfl := oi_ H; have p105 : 0 ≤ (x17_2 : Int) := y0_; have q105 : x17_2 < (l0_1.length : Int) := y0_; obtain ⟨ad105, e105, hx105_0⟩ := Kd.at_int HR0_1.out x17_2 p105 q105
      cases e105
      replace hx105_0 := (HB.out.cell (World.block_lt_of_cell? w _ hx105_0)).trans hx105_0; replace p105 := eq_true p105; replace q105 := eq_true q105; go_wp2
      go_ret
      exact ⟨z3_, hs_⟩
     rw [if_neg c14] at H; have c14b0 := df_ c14; clear c14; by_cases c15 : (l0_1.length : Int) = 1
     ·rw [if_pos c15] at H; have c15b0 := et_ c15; have c15b1 := nf_ c15; clear c15; obtain rfl := oi_ H; have p105 : 0 ≤ (x17_2 : Int) := y0_; have q105 : x17_2 < (l0_1.length : Int) := y0_; obtain ⟨ad105, e105, hx105_0⟩ := Kd.at_int HR0_1.out x17_2 p105 q105
      cases e105
      replace hx105_0 := (HB.out.cell (World.block_lt_of_cell? w _ hx105_0)).trans hx105_0; replace p105 := eq_true p105; replace q105 := eq_true q105; obtain ⟨Z16_0, Z16_1, F16⟩ := bc2 BK104.out; go_wp2
      go_ret
      exact ⟨z3_, hs_⟩
     rw [if_neg c15] at H; have c15b0 := ef_ c15; have c15b1 := nt_ c15; by_cases c17 : (rd l0_1 x17_2) > a0_0
     ·rw [if_pos c17] at H; have c17b0 := dt_ c17; clear c17; obtain rfl := oi_ H; have p105 : 0 ≤ (x17_2 : Int) := y0_; have q105 : x17_2 < (l0_1.length : Int) := y0_; obtain ⟨ad105, e105, hx105_0⟩ := Kd.at_int HR0_1.out x17_2 p105 q105
      cases e105
      replace hx105_0 := (HB.out.cell (World.block_lt_of_cell? w _ hx105_0)).trans hx105_0; replace p105 := eq_true p105; replace q105 := eq_true q105; obtain ⟨Z18_0, Z18_1, F18⟩ := bc2 BK104.out; go_wp2
      go_ret
      exact ⟨z3_, hs_⟩
     rw [if_neg c17] at H; have c17b0 := df_ c17; clear c17; have H' := Aside0.mk H; clear H; have p105 : 0 ≤ (x17_2 : Int) := y0_; have q105 : x17_2 < (l0_1.length : Int) := y0_; obtain ⟨ad105, e105, hx105_0⟩ := Kd.at_int HR0_1.out x17_2 p105 q105
     cases e105
     replace hx105_0 := (HB.out.cell (World.block_lt_of_cell? w _ hx105_0)).trans hx105_0; replace p105 := eq_true p105; replace q105 := eq_true q105; obtain ⟨Z19_0, Z19_1, F19⟩ := bc2 BK104.out; go_wp2
     go_roundg k2
     case measure => have := HJ1.out; have := HK2.out; omega
     case rel => exact ⟨(wrap64 (x3_2 + (rd l0_1 x17_2))), (wrap64 (x17_2 + 1)), z1_, z1_, H', ⟨by have := HJ1.out; have := HK2.out; omega⟩, ⟨bk_ BK104.out⟩, ⟨hs_⟩⟩


mutual
def bitmap_List.l0 : Nat → List Int → Int → List Int → Int → Int → Option (List Int)
 | 0, _, _, _, _, _ => none
 | k + 1, x3, x4, x12, x13, x14 => if x14 < x13 then (if 0 ≤ x14 then (if x14 < (x12.length : Int) then (bitmap_List.l1 k x3 x4 x14 (rd x12 x14) x4 x12 x13 x14) else (none)) else (none)) else (some x3)
def bitmap_List.l1 : Nat → List Int → Int → Int → Int → Int → List Int → Int → Int → Option (List Int)
 | 0, _, _, _, _, _, _, _, _ => none
 | k + 1, x3, x4, x5, x6, x7, x12, x13, x14 => if (Int.tmod x5 2) = 1 then (if x7 < (wrap64 (x4 + x6)) then (if x3.length < 17592186044416 then (bitmap_List.l1 k (x3 ++ [x7]) x4 x5 x6 (wrap64 (x7 + 1)) x12 x13 x14) else (none)) else (bitmap_List.l0 k x3 (wrap64 (x4 + x6)) x12 x13 (wrap64 (x14 + 1)))) else (bitmap_List.l0 k x3 (wrap64 (x4 + x6)) x12 x13 (wrap64 (x14 + 1)))
end
def bitmap_List.f (k : Nat) (a0_0 : Int) (l0_1 : List Int) : Option (List Int) := (bitmap_Valid.f k a0_0 l0_1).bind fun t131 => (if t131 = true then (bitmap_List.l0 k ([] : List Int) 0 l0_1 (l0_1.length : Int) 0) else (some ([] : List Int)))
set_option maxHeartbeats 8000000 in
set_option maxRecDepth 100000 in
theorem bitmap_List.calls (k : Nat) (a0_0 : Int) (A0_1 : Option Addr) (c0_1 : Nat) (l0_1 : List Int) (r : List Int) (w : World) (hr0_1 : Kd.C (Kd.int .i64) w A0_1 l0_1.length l0_1) (hc0_1 : l0_1.length ≤ c0_1) (h : bitmap_List.f k a0_0 l0_1 = some r) :
  Calls Try.prog 12 #[.agg #[.int .i64 a0_0, .slice A0_1 l0_1.length c0_1]] w fun e w' => ∃ v0_ : Value, e = .returned (v0_) ∧ Kd.R (Kd.int .i64) 3 w' w.heap.size (fun _ => True) v0_ r ∧ Below w.heap.size w w' := by
 have hu25 := Try.underlying25; have HR0_1 := Aside0.mk hr0_1; have HC0_1 := Aside0.mk hc0_1; clear hr0_1 hc0_1; have HB := Aside0.mk (Below.refl w.heap.size w); unfold bitmap_List.f at h; have H := h; clear h; obtain ⟨t131, A2, H⟩ := bx_ H; by_cases c3 : t131 = true; rotate_left
 ·replace c3 := Bool.eq_false_iff.mpr c3; subst c3; rw [if_neg nft_] at H; obtain rfl := oi_ H; go_enter Try.func12, Try.ntmps12; go_wp2_with (first | ((with_reducible refine gate_dst (N := 1) rfl ?_); refine be_ (cs := #[.int .i64 a0_0, .slice A0_1 l0_1.length c0_1]) (t := 25) ?_; intro gb130 hg w15 hbox hb; have BK130 := Aside0.mk (hbox); have GW130 := ag_ hg HB; have GE130 := ag_ hg HB; replace HB := ah_ HB hb; clear hb hbox hg; obtain ⟨Z16_0, Z16_1, F16⟩ := bc2 BK130.out) | ((with_reducible refine gate_callee (f := 15) rfl ?_); refine gl_ (some 9) Try.func15 #[.agg #[.int .i64 a0_0, .slice A0_1 l0_1.length c0_1]] ?_; (with_reducible refine (bitmap_Valid.calls k a0_0 _ _ l0_1 false _ ?side1 ?side2 A2.out).mono ?_); (case side1 => repeat (first | exact (Kd.C_below HR0_1.out HB.out) | (with_reducible refine Kd.C_alloc ?_ _) | (with_reducible refine Kd.C_drewN ?_ _) | (with_reducible refine Kd.C_drew ?_))); (case side2 => exact HC0_1.out); rintro e w17 ⟨rfl, hb⟩; refine ⟨_, rfl, ?_⟩; replace BK130 := ab_ BK130 hb; replace HB := hbs_ hb; (try clear hb); (try clear hb2); (try clear hk); (try clear hi)))
  go_ret
  exact ⟨_, z3_, z7_, hs_⟩
 subst c3; rw [if_pos rfl] at H; have H' := Aside0.mk H; clear H; go_enter Try.func12, Try.ntmps12; go_wp2_with (first | ((with_reducible refine gate_dst (N := 1) rfl ?_); refine be_ (cs := #[.int .i64 a0_0, .slice A0_1 l0_1.length c0_1]) (t := 25) ?_; intro gb130 hg w4 hbox hb; have BK130 := Aside0.mk (hbox); have GW130 := ag_ hg HB; have GE130 := ag_ hg HB; replace HB := ah_ HB hb; clear hb hbox hg; obtain ⟨Z5_0, Z5_1, F5⟩ := bc2 BK130.out) | ((with_reducible refine gate_callee (f := 15) rfl ?_); refine gl_ (some 9) Try.func15 #[.agg #[.int .i64 a0_0, .slice A0_1 l0_1.length c0_1]] ?_; (with_reducible refine (bitmap_Valid.calls k a0_0 _ _ l0_1 true _ ?side1 ?side2 A2.out).mono ?_); (case side1 => repeat (first | exact (Kd.C_below HR0_1.out HB.out) | (with_reducible refine Kd.C_alloc ?_ _) | (with_reducible refine Kd.C_drewN ?_ _) | (with_reducible refine Kd.C_drew ?_))); (case side2 => exact HC0_1.out); rintro e w6 ⟨rfl, hb⟩; refine ⟨_, rfl, ?_⟩; replace BK130 := ab_ BK130 hb; replace HB := hbs_ hb; (try clear hb); (try clear hb2); (try clear hk); (try clear hi); obtain ⟨Z7_0, Z7_1, F7⟩ := bc2 BK130.out)); go_loopg [3, 4, 14] k (fun kq v3 v4 v14 w' => ∃ (x3_1 : List Int) (x4_1 : Int) (x14_1 : Int), v4 = .int .i64 x4_1 ∧ v14 = .int .i64 x14_1 ∧ Aside0 (bitmap_List.l0 kq x3_1 x4_1 l0_1 (l0_1.length : Int) x14_1 = some r) ∧ Aside0 (kq ≤ k) ∧ Aside0 (Kd.R (Kd.int .i64) 3 w' w.heap.size (fun _ => True) v3 x3_1) ∧ Aside0 (w'.heap[gb130]? = some (.cells #[.int .i64 a0_0, (.slice A0_1 l0_1.length c0_1)] 25 (0, 0))) ∧ Aside0 (Below w.heap.size w w'))
 case atStart => exact ⟨(([] : List Int)), (0), (0), z1_, z1_, H', ⟨Nat.le_refl _⟩, ⟨z7_⟩, ⟨bk_ BK130.out⟩, ⟨hs_⟩⟩
 case round =>
  clear H'; try clear c1
  try clear p2
  try clear c3
  try clear Z5_0 Z5_1
  try clear Z7_0 Z7_1
  try clear F5
  try clear F7
  obtain ⟨x3_1, x4_1, x14_1, rfl, rfl, HA, HK1, HO_3, BK130, HB⟩ := hrel
  cases gk with
  | zero => exact absurd HA.out (by simp [bitmap_List.l0])
  | succ k1 =>
   have H := HA.out; clear HA; simp only [bitmap_List.l0] at H; by_cases c8 : x14_1 < (l0_1.length : Int); rotate_left
   ·rw [if_neg c8] at H; have c8b0 := df_ c8; clear c8; obtain rfl := oi_ H; go_wp2
    go_ret
    exact ⟨_, z3_, rk_ HO_3.out, hs_⟩
   rw [if_pos c8] at H; have c8b0 := dt_ c8; clear c8; by_cases c9 : 0 ≤ x14_1; rotate_left
   ·rw [if_neg c9] at H; exact no_ H
   rw [if_pos c9] at H; have c9b0 := dt_ c9; clear c9; by_cases c10 : x14_1 < (l0_1.length : Int); rotate_left
   ·rw [if_neg c10] at H; exact no_ H
   rw [if_pos c10] at H; have c10b0 := dt_ c10; clear c10; have H' := Aside0.mk H; clear H; have p132 : 0 ≤ (x14_1 : Int) := y0_; have q132 : x14_1 < (l0_1.length : Int) := y0_; obtain ⟨ad132, e132, hx132_0⟩ := Kd.at_int HR0_1.out x14_1 p132 q132
   cases e132
   replace hx132_0 := (HB.out.cell (World.block_lt_of_cell? w _ hx132_0)).trans hx132_0; replace p132 := eq_true p132; replace q132 := eq_true q132; go_wp2
   go_loopg [3, 7] k1 (fun kq v3 v7 w' => ∃ (x3_2 : List Int) (x7_2 : Int), v7 = .int .i64 x7_2 ∧ Aside0 (bitmap_List.l1 kq x3_2 x4_1 x14_1 (rd l0_1 x14_1) x7_2 l0_1 (l0_1.length : Int) x14_1 = some r) ∧ Aside0 (kq ≤ k1) ∧ Aside0 (Kd.R (Kd.int .i64) 3 w' w.heap.size (fun _ => True) v3 x3_2) ∧ Aside0 (w'.heap[gb130]? = some (.cells #[.int .i64 a0_0, (.slice (some ad132) l0_1.length c0_1)] 25 (0, 0))) ∧ Aside0 (Below w.heap.size w w'))
   case atStart => exact ⟨(x3_1), (x4_1), z1_, H', ⟨Nat.le_refl _⟩, ⟨z8_⟩, ⟨bk_ BK130.out⟩, ⟨hs_⟩⟩
   case round =>
    clear H'; try clear c1
    try clear p1
    try clear q1
    try clear hx1
    try clear p2
    try clear c3
    try clear c8
    try clear c8b0
    try clear c9
    try clear c9b0
    try clear c10
    try clear c10b0
    try clear Z5_0 Z5_1
    try clear Z7_0 Z7_1
    try clear F5
    try clear F7
    try clear hx132_0
    try clear p132
    try clear p2
    try clear q132
    obtain ⟨x3_2, x7_2, rfl, HA, HK2, HO_3, BK130, HB⟩ := hrel
    cases gk with
    | zero => exact absurd HA.out (by simp [bitmap_List.l1])
    | succ k2 =>
     have H := HA.out; clear HA; simp only [bitmap_List.l1] at H; by_cases c11 : (Int.tmod x14_1 2) = 1; rotate_left
     ·rw [if_neg c11] at H; have c11b0 := ef_ c11; have c11b1 := nt_ c11; have H' := Aside0.mk H; clear H; go_wp2
      go_roundg k2
      case measure => have := HK1.out; have := HK2.out; omega
      case rel => exact ⟨(x3_2), (wrap64 (x4_1 + (rd l0_1 x14_1))), (wrap64 (x14_1 + 1)), z1_, z1_, H', ⟨by have := HK1.out; have := HK2.out; omega⟩, ⟨z8_⟩, ⟨bk_ BK130.out⟩, ⟨hs_⟩⟩
     rw [if_pos c11] at H; have c11b0 := et_ c11; have c11b1 := nf_ c11; clear c11; by_cases c12 : x7_2 < (wrap64 (x4_1 + (rd l0_1 x14_1))); rotate_left
     ·rw [if_neg c12] at H; have c12b0 := df_ c12; clear c12; have H' := Aside0.mk H; clear H; go_wp2
      go_roundg k2
      case measure => have := HK1.out; have := HK2.out; omega
      case rel => exact ⟨(x3_2), (wrap64 (x4_1 + (rd l0_1 x14_1))), (wrap64 (x14_1 + 1)), z1_, z1_, H', ⟨by have := HK1.out; have := HK2.out; omega⟩, ⟨z8_⟩, ⟨bk_ BK130.out⟩, ⟨hs_⟩⟩
     rw [if_pos c12] at H; have c12b0 := dt_ c12; clear c12; by_cases c13 : x3_2.length < 17592186044416; rotate_left
     ·rw [if_neg c13] at H; exact no_ H
     rw [if_pos c13] at H; have LMc13 := Aside0.mk c13; clear c13; obtain ⟨y133, hy133⟩ : ∃ y_ : List Int, y_ = (x3_2 ++ [x7_2]) := ⟨_, rfl⟩; replace H : (bitmap_List.l1 k2 y133 x4_1 x14_1 (rd l0_1 x14_1) (wrap64 (x7_2 + 1)) l0_1 (l0_1.length : Int) x14_1) = some r := by first | (rw [hy133]; with_reducible exact H) | (have H2_ := (Option.bind_some _ _).symm.trans H; rw [hy133]; with_reducible exact H2_) | (have H2_ := (Option.bind_some _ _).symm.trans H; with_reducible exact H2_) | with_reducible exact H | (rw [hy133]; exact H) | exact H
     have Ny133 := Aside0.mk hy133; clear hy133; have H' := Aside0.mk H; clear H; go_wp2_with (first | ((with_reducible refine gate_builtin (b := .append) (xs := #[.tmp 32, .tmp 34]) rfl ?_); at_builtin; refine Kd.R_append (Kd.int .i64) (w0 := w) w.heap.size rfl (.tmp 32) (.tmp 34) 22 3 (.int .i64 0) 8 rfl Try.underlying22 info3 rfl (by decide) (by omega) u3 x3_2 x7_2 [.int .i64 x7_2] (fun _ => True) (fun _ => False) rfl rfl ?aP (fun _ hk => hk.elim) ?aF ?aO ?aB ?aS ?aL ?_; (case aP => exact rfl); (case aB => exact (hs_)); (case aF => exact (fun _ _ => trivial)); (case aO => exact (rk_ HO_3.out)); (case aS => exact (below_size (hs_))); (case aL => have := LMc13.out; omega); intro v134 w14 ho hb hg hat; rw [← Ny133.out] at ho; have n0_ := Aside0.mk (blk_grown (g := gb130) (o := .cells #[.int .i64 a0_0, .slice (some ad132) l0_1.length c0_1] 25 (0, 0)) (bk_ BK130.out) hg (Kd.R_ne HO_3.out BK130.out (by decide))); have n1_ := Aside0.mk (hb); have n2_ := Aside0.mk (ho); clear BK130; clear HB; clear HO_3; have BK130 := n0_; have HB := n1_; have HO135 := n2_; clear n0_ n1_ n2_; clear ho hb hg hat)); go_roundg k2
     case measure => have := HK1.out; have := HK2.out; omega
     case rel => exact ⟨(y133), (wrap64 (x7_2 + 1)), z1_, H', ⟨by have := HK1.out; have := HK2.out; omega⟩, ⟨by (with_reducible repeat (first | apply Kd.R_alloc | apply Kd.R_drewN | apply Kd.R_drew)); exact HO135.out⟩, ⟨bk_ BK130.out⟩, ⟨hs_⟩⟩


def graftagelaw27_few.f (a0_0 : Int) (l0_1 : List Int) : Option (Bool) := if a0_0 ≤ 300 then (some (decide ((l0_1.length : Int) ≤ 300))) else (some false)
set_option maxHeartbeats 8000000 in
set_option maxRecDepth 100000 in
theorem graftagelaw27_few.calls (a0_0 : Int) (A0_1 : Option Addr) (c0_1 : Nat) (l0_1 : List Int) (r : Bool) (w : World) (hr0_1 : Kd.C (Kd.int .i64) w A0_1 l0_1.length l0_1) (hc0_1 : l0_1.length ≤ c0_1) (h : graftagelaw27_few.f a0_0 l0_1 = some r) :
  Calls Try.prog 14 #[.agg #[.int .i64 a0_0, .slice A0_1 l0_1.length c0_1]] w fun e w' => e = .returned (.bool r) ∧ Below w.heap.size w w' := by
 have hu25 := Try.underlying25; have HR0_1 := Aside0.mk hr0_1; have HC0_1 := Aside0.mk hc0_1; clear hr0_1 hc0_1; have HB := Aside0.mk (Below.refl w.heap.size w); unfold graftagelaw27_few.f at h; have H := h; clear h; by_cases c2 : a0_0 ≤ 300
 ·rw [if_pos c2] at H; have c2b0 := dt_ c2; clear c2; obtain rfl := oi_ H; go_enter Try.func14, Try.ntmps14; go_wp2_with (first | ((with_reducible refine gate_dst (N := 1) rfl ?_); (try (refine gate_guard (by rfl) ?_; dsimp only)); refine be_ (cs := #[.int .i64 a0_0, .slice A0_1 l0_1.length c0_1]) (t := 25) ?_; intro gb103 hg w3 hbox hb; have BK103 := Aside0.mk (hbox); have GW103 := ag_ hg HB; have GE103 := ag_ hg HB; replace HB := ah_ HB hb; clear hb hbox hg; obtain ⟨Z4_0, Z4_1, F4⟩ := bc2 BK103.out)); go_ret
  exact ⟨z3_, hs_⟩
 rw [if_neg c2] at H; have c2b0 := df_ c2; clear c2; obtain rfl := oi_ H; go_enter Try.func14, Try.ntmps14; go_wp2_with (first | ((with_reducible refine gate_dst (N := 1) rfl ?_); (try (refine gate_guard (by rfl) ?_; dsimp only)); refine be_ (cs := #[.int .i64 a0_0, .slice A0_1 l0_1.length c0_1]) (t := 25) ?_; intro gb103 hg w5 hbox hb; have BK103 := Aside0.mk (hbox); have GW103 := ag_ hg HB; have GE103 := ag_ hg HB; replace HB := ah_ HB hb; clear hb hbox hg; obtain ⟨Z6_0, Z6_1, F6⟩ := bc2 BK103.out)); go_ret
 exact ⟨z3_, hs_⟩


def graftageref27_Ints.l0 : Nat → List Int → List Int → Int → Option (Bool)
 | 0, _, _, _ => none
 | k + 1, x0, x1, x5 => if x5 < (x0.length : Int) then (if 0 ≤ x5 then (if x5 < (x1.length : Int) then (if (rd x0 x5) = (rd x1 x5) then (graftageref27_Ints.l0 k x0 x1 (wrap64 (x5 + 1))) else (some false)) else (none)) else (none)) else (some true)
def graftageref27_Ints.f (k : Nat) (l0 : List Int) (l1 : List Int) : Option (Bool) := if (l0.length : Int) = (l1.length : Int) then (graftageref27_Ints.l0 k l0 l1 0) else (some false)
theorem graftageref27_Ints.mono_l : ∀ k, (∀ y0 y1 y2, LeO (graftageref27_Ints.l0 k y0 y1 y2) (graftageref27_Ints.l0 (k + 1) y0 y1 y2))
 | 0 => fun _ _ _ r h => by simp [graftageref27_Ints.l0] at h
 | k + 1 => by
  have ih0 := graftageref27_Ints.mono_l k
  ·intro y0 y1 y2
   unfold graftageref27_Ints.l0
   have m0_ := @ih0
   exact mz_
theorem graftageref27_Ints.mono : ∀ a0 a1 k, LeO (graftageref27_Ints.f k a0 a1) (graftageref27_Ints.f (k + 1) a0 a1) := by
 intro a0 a1 k; have ih0 := graftageref27_Ints.mono_l k; unfold graftageref27_Ints.f; have m0_ := @ih0; exact mz_
set_option maxHeartbeats 8000000 in
set_option maxRecDepth 100000 in
theorem graftageref27_Ints.calls (k : Nat) (A0 : Option Addr) (c0 : Nat) (l0 : List Int) (A1 : Option Addr) (c1 : Nat) (l1 : List Int) (r : Bool) (w : World) (hr0 : Kd.C (Kd.int .i64) w A0 l0.length l0) (hc0 : l0.length ≤ c0) (hr1 : Kd.C (Kd.int .i64) w A1 l1.length l1) (hc1 : l1.length ≤ c1) (h : graftageref27_Ints.f k l0 l1 = some r) :
  Calls Try.prog 11 #[.slice A0 l0.length c0, .slice A1 l1.length c1] w fun e w' => e = .returned (.bool r) ∧ Drawn0 w w' := by
 have HR0 := Aside0.mk hr0; have HC0 := Aside0.mk hc0; clear hr0 hc0; have HR1 := Aside0.mk hr1; have HC1 := Aside0.mk hc1; clear hr1 hc1; unfold graftageref27_Ints.f at h; have H := h; clear h; by_cases c3 : (l0.length : Int) = (l1.length : Int); rotate_left
 ·rw [if_neg c3] at H; have c3b0 := ef_ c3; have c3b1 := nt_ c3; have c3b2 : (l0.length == l1.length) = false := by first | simpa using c3 | (simp at c3 ⊢; omega)
  obtain rfl := oi_ H; go_enter Try.func11, Try.ntmps11; go_wp2
  repeat (go_quiet (fail); try go_wp2)
  go_ret
  exact ⟨z1_, z4_⟩
 rw [if_pos c3] at H; have c3b0 := et_ c3; have c3b1 := nf_ c3; have c3b2 : (l0.length == l1.length) = true := by first | simpa using c3 | (simp at c3 ⊢; omega)
 clear c3; have H' := Aside0.mk H; clear H; go_enter Try.func11, Try.ntmps11; go_wp2
 repeat (go_quiet (fail); try go_wp2)
 go_loopg [5] k (fun kq v5 w' => ∃ (x5_1 : Int), v5 = .int .i64 x5_1 ∧ Aside0 (graftageref27_Ints.l0 kq l0 l1 x5_1 = some r) ∧ Aside0 (kq ≤ k) ∧ Drawn0 w w')
 case atStart => exact ⟨(0), z1_, H', ⟨Nat.le_refl _⟩, z4_⟩
 case round =>
  clear H'; try clear c1
  try clear p2
  try clear c3
  try clear c3b0
  try clear c3b1
  try clear c3b2
  obtain ⟨x5_1, rfl, HA, HK1, ⟨m1, rfl⟩⟩ := hrel
  cases gk with
  | zero => exact absurd HA.out (by simp [graftageref27_Ints.l0])
  | succ k1 =>
   have H := HA.out; clear HA; simp only [graftageref27_Ints.l0] at H; by_cases c4 : x5_1 < (l0.length : Int); rotate_left
   ·rw [if_neg c4] at H; have c4b0 := df_ c4; clear c4; obtain rfl := oi_ H; go_wp2
    repeat (go_quiet (fail); try go_wp2)
    go_ret
    exact ⟨z1_, z4_⟩
   rw [if_pos c4] at H; have c4b0 := dt_ c4; clear c4; by_cases c5 : 0 ≤ x5_1; rotate_left
   ·rw [if_neg c5] at H; exact no_ H
   rw [if_pos c5] at H; have c5b0 := dt_ c5; clear c5; by_cases c6 : x5_1 < (l1.length : Int); rotate_left
   ·rw [if_neg c6] at H; exact no_ H
   rw [if_pos c6] at H; have c6b0 := dt_ c6; clear c6; by_cases c7 : (rd l0 x5_1) = (rd l1 x5_1); rotate_left
   ·rw [if_neg c7] at H; have c7b0 := ef_ c7; have c7b1 := nt_ c7; obtain rfl := oi_ H; have p101 : 0 ≤ (x5_1 : Int) := y0_; have q101 : x5_1 < (l0.length : Int) := y0_; obtain ⟨ad101, e101, hx101_0⟩ := Kd.at_int HR0.out x5_1 p101 q101
    cases e101
    replace p101 := eq_true p101; replace q101 := eq_true q101; have p102 : 0 ≤ (x5_1 : Int) := y0_; have q102 : x5_1 < (l1.length : Int) := y0_; obtain ⟨ad102, e102, hx102_0⟩ := Kd.at_int HR1.out x5_1 p102 q102
    cases e102
    replace p102 := eq_true p102; replace q102 := eq_true q102; go_wp2
    repeat (go_quiet (fail); try go_wp2)
    go_ret
    exact ⟨z1_, z4_⟩
   rw [if_pos c7] at H; have c7b0 := et_ c7; have c7b1 := nf_ c7; clear c7; have H' := Aside0.mk H; clear H; have p101 : 0 ≤ (x5_1 : Int) := y0_; have q101 : x5_1 < (l0.length : Int) := y0_; obtain ⟨ad101, e101, hx101_0⟩ := Kd.at_int HR0.out x5_1 p101 q101
   cases e101
   replace p101 := eq_true p101; replace q101 := eq_true q101; have p102 : 0 ≤ (x5_1 : Int) := y0_; have q102 : x5_1 < (l1.length : Int) := y0_; obtain ⟨ad102, e102, hx102_0⟩ := Kd.at_int HR1.out x5_1 p102 q102
   cases e102
   replace p102 := eq_true p102; replace q102 := eq_true q102; go_wp2
   repeat (go_quiet (fail); try go_wp2)
   go_roundg k1
   case measure => have := HK1.out; omega
   case rel => exact ⟨(wrap64 (x5_1 + 1)), z1_, H', ⟨by have := HK1.out; omega⟩, z4_⟩


def graftageref27_Same.f (k : Nat) (a0_0 : Int) (l0_1 : List Int) (a1_0 : Int) (l1_1 : List Int) : Option (Bool) := if a0_0 = a1_0 then ((graftageref27_Ints.f k l0_1 l1_1).bind fun t129 => (some t129)) else (some false)
set_option maxHeartbeats 8000000 in
set_option maxRecDepth 100000 in
theorem graftageref27_Same.calls (k : Nat) (a0_0 : Int) (A0_1 : Option Addr) (c0_1 : Nat) (l0_1 : List Int) (a1_0 : Int) (A1_1 : Option Addr) (c1_1 : Nat) (l1_1 : List Int) (r : Bool) (w : World) (hr0_1 : Kd.C (Kd.int .i64) w A0_1 l0_1.length l0_1) (hc0_1 : l0_1.length ≤ c0_1) (hr1_1 : Kd.C (Kd.int .i64) w A1_1 l1_1.length l1_1) (hc1_1 : l1_1.length ≤ c1_1) (h : graftageref27_Same.f k a0_0 l0_1 a1_0 l1_1 = some r) :
  Calls Try.prog 10 #[.agg #[.int .i64 a0_0, .slice A0_1 l0_1.length c0_1], .agg #[.int .i64 a1_0, .slice A1_1 l1_1.length c1_1]] w fun e w' => e = .returned (.bool r) ∧ Below w.heap.size w w' := by
 have hu25 := Try.underlying25; have HR0_1 := Aside0.mk hr0_1; have HC0_1 := Aside0.mk hc0_1; clear hr0_1 hc0_1; have HR1_1 := Aside0.mk hr1_1; have HC1_1 := Aside0.mk hc1_1; clear hr1_1 hc1_1; have HB := Aside0.mk (Below.refl w.heap.size w); unfold graftageref27_Same.f at h; have H := h; clear h; by_cases c3 : a0_0 = a1_0; rotate_left
 ·rw [if_neg c3] at H; have c3b0 := ef_ c3; have c3b1 := nt_ c3; obtain rfl := oi_ H; go_enter Try.func10, Try.ntmps10; go_wp2_with (first | ((with_reducible refine gate_dst (N := 2) rfl ?_); refine be_ (cs := #[.int .i64 a0_0, .slice A0_1 l0_1.length c0_1]) (t := 25) ?_; intro gb127 hg w10 hbox hb; have BK127 := Aside0.mk (hbox); have GW127 := ag_ hg HB; have GE127 := ag_ hg HB; replace HB := ah_ HB hb; clear hb hbox hg) | ((with_reducible refine gate_dst (N := 3) rfl ?_); refine be_ (cs := #[.int .i64 a1_0, .slice A1_1 l1_1.length c1_1]) (t := 25) ?_; intro gb128 hg w11 hbox hb; have BK128 := Aside0.mk (hbox); have GW128 := Aside0.mk ((by rw [hg]; exact (below_size (hs_)) : w.heap.size ≤ gb128)); have GE128 := Aside0.mk ((by rw [hg]; exact (below_size (hs_)) : w.heap.size ≤ gb128)); replace HB := hbs_ hb; have NB127_128 := Aside0.mk (nl2_ hg BK127.out); have NB128_127 := Aside0.mk (ng2_ hg BK127.out); replace BK127 := ab_ BK127 hb; clear hb hbox hg; have hnb12 := NB127_128.out; have hnc12 := NB128_127.out; obtain ⟨Z13_0, Z13_1, F13⟩ := bc2 BK127.out; obtain ⟨Z14_0, Z14_1, F14⟩ := bc2 BK128.out)); go_ret
  exact ⟨z3_, hs_⟩
 rw [if_pos c3] at H; have c3b0 := et_ c3; have c3b1 := nf_ c3; clear c3; obtain ⟨t129, A4, H⟩ := bx_ H; obtain rfl := oi_ H; go_enter Try.func10, Try.ntmps10; go_wp2_with (first | ((with_reducible refine gate_dst (N := 2) rfl ?_); refine be_ (cs := #[.int .i64 a0_0, .slice A0_1 l0_1.length c0_1]) (t := 25) ?_; intro gb127 hg w5 hbox hb; have BK127 := Aside0.mk (hbox); have GW127 := ag_ hg HB; have GE127 := ag_ hg HB; replace HB := ah_ HB hb; clear hb hbox hg) | ((with_reducible refine gate_dst (N := 3) rfl ?_); refine be_ (cs := #[.int .i64 a1_0, .slice A1_1 l1_1.length c1_1]) (t := 25) ?_; intro gb128 hg w6 hbox hb; have BK128 := Aside0.mk (hbox); have GW128 := Aside0.mk ((by rw [hg]; exact (below_size (hs_)) : w.heap.size ≤ gb128)); have GE128 := Aside0.mk ((by rw [hg]; exact (below_size (hs_)) : w.heap.size ≤ gb128)); replace HB := hbs_ hb; have NB127_128 := Aside0.mk (nl2_ hg BK127.out); have NB128_127 := Aside0.mk (ng2_ hg BK127.out); replace BK127 := ab_ BK127 hb; clear hb hbox hg; have hnb7 := NB127_128.out; have hnc7 := NB128_127.out; obtain ⟨Z8_0, Z8_1, F8⟩ := bc2 BK127.out; obtain ⟨Z9_0, Z9_1, F9⟩ := bc2 BK128.out) | (go_at_call 11; (with_reducible refine (graftageref27_Ints.calls k _ _ l0_1 _ _ l1_1 t129 _ ?side1 ?side2 ?side3 ?side4 A4.out).mono ?_); (case side1 => repeat (first | exact (Kd.C_below HR0_1.out HB.out) | (with_reducible refine Kd.C_alloc ?_ _) | (with_reducible refine Kd.C_drewN ?_ _) | (with_reducible refine Kd.C_drew ?_))); (case side2 => exact HC0_1.out); (case side3 => repeat (first | exact (Kd.C_below HR1_1.out HB.out) | (with_reducible refine Kd.C_alloc ?_ _) | (with_reducible refine Kd.C_drewN ?_ _) | (with_reducible refine Kd.C_drew ?_))); (case side4 => exact HC1_1.out); rintro e w' ⟨rfl, ⟨nd, rfl⟩⟩)); go_ret
 exact ⟨z3_, hs_⟩

end Go.Proofs.Ytibnkopdkfjgpaa.Q


/- A call of a function value, as one step of a walk. -/
namespace Go.Proofs.Ytibnkopdkfjgpaa.Q
open Go.RowKit Go.Proofs.YtibnkopdkfjgpaaW.PrintWords Go.Proofs.YtibnkopdkfjgpaaW.PrintLast Go.Proofs.YtibnkopdkfjgpaaW.PrintMore
variable {P : Program} {ops : Array Oper} {Q : Exit → Act → World → Prop}
end Go.Proofs.Ytibnkopdkfjgpaa.Q


namespace Go.Proofs.Ytibnkopdkfjgpaa.Q
open Go.RowKit Go.Proofs.YtibnkopdkfjgpaaW.PrintWords Go.Proofs.YtibnkopdkfjgpaaW.PrintLast Go.Proofs.YtibnkopdkfjgpaaW.PrintMore
attribute [local go_sem] max2_int min2_int max_two min_two max_three min_three max_four min_four   -- for this text's walks alone

mutual
def bitmap_bits.l0 : Nat → Int → (Int → Option (Bool)) → Int → Int → List Int → Option (Int × List Int)
 | 0, _, _, _, _, _ => none
 | k + 1, x0, x1, x6, x103000, x103001 => if x6 < x0 then (bitmap_bits.l1 k x0 x1 x6 (((x103001.length : Int) % 2) == 1) 0 x103000 x103001) else (some (x103000, x103001))
def bitmap_bits.l1 : Nat → Int → (Int → Option (Bool)) → Int → Bool → Int → Int → List Int → Option (Int × List Int)
 | 0, _, _, _, _, _, _, _ => none
 | k + 1, x0, x1, x6, x7, x8, x103000, x103001 => if x6 < x0 then ((x1 x6).bind fun t103 => (if (t103 == x7) = true then (bitmap_bits.l1 k x0 x1 (wrap64 (x6 + 1)) x7 (wrap64 (x8 + 1)) x103000 x103001) else (if x103001.length < 17592186044416 then (bitmap_bits.l0 k x0 x1 x6 x103000 (x103001 ++ [x8])) else (none)))) else (if x103001.length < 17592186044416 then (bitmap_bits.l0 k x0 x1 x6 x103000 (x103001 ++ [x8])) else (none))
end
def bitmap_bits.f (k : Nat) (a0 : Int) (a1 : (Int → Option (Bool))) : Option (Int × List Int) := bitmap_bits.l0 k a0 a1 0 a0 ([] : List Int)
theorem bitmap_bits.mono_l : ∀ k, (∀ y0 y1 y2 y3 y4, LeO (bitmap_bits.l0 k y0 y1 y2 y3 y4) (bitmap_bits.l0 (k + 1) y0 y1 y2 y3 y4)) ∧ (∀ y0 y1 y2 y3 y4 y5 y6, LeO (bitmap_bits.l1 k y0 y1 y2 y3 y4 y5 y6) (bitmap_bits.l1 (k + 1) y0 y1 y2 y3 y4 y5 y6))
 | 0 => ⟨fun _ _ _ _ _ r h => by simp [bitmap_bits.l0] at h, fun _ _ _ _ _ _ _ r h => by simp [bitmap_bits.l1] at h⟩
 | k + 1 => by
  obtain ⟨ih0, ih1⟩ := bitmap_bits.mono_l k
  refine ⟨?_, ?_⟩
  ·intro y0 y1 y2 y3 y4
   unfold bitmap_bits.l0
   have m0_ := @ih0
   have m1_ := @ih1
   exact mz_
  ·intro y0 y1 y2 y3 y4 y5 y6
   unfold bitmap_bits.l1
   have m0_ := @ih0
   have m1_ := @ih1
   exact mz_
theorem bitmap_bits.mono : ∀ a0 a1 k, LeO (bitmap_bits.f k a0 a1) (bitmap_bits.f (k + 1) a0 a1) := by
 intro a0 a1 k; obtain ⟨ih0, ih1⟩ := bitmap_bits.mono_l k; unfold bitmap_bits.f; have m0_ := @ih0; have m1_ := @ih1; exact mz_
set_option maxHeartbeats 8000000 in
set_option maxRecDepth 100000 in
theorem bitmap_bits.calls (k : Nat) (a0 : Int) (G1_ : Nat) (B1_ : Array Value) (a1 : (Int → Option (Bool))) (r1 : Int) (r2 : List Int) (w : World) (eg1_ : ∀ args w, (callFunc G1_ args).run Try.prog w = .ok (.enter G1_ args) w) (hq1_ : ∀ (z0 : Int) (zr0 : Bool) (W_ : World), Below w.heap.size w W_ → a1 z0 = some zr0 → Calls Try.prog G1_ (#[.int .i64 z0] ++ B1_) W_ fun e w' => e = .returned (.bool zr0) ∧ Below W_.heap.size W_ w') (h : bitmap_bits.f k a0 a1 = some (r1, r2)) :
  Calls Try.prog 26 #[.int .i64 a0, .func (.func G1_) #[] B1_] w fun e w' => ∃ v1_ : Value, e = .returned (.agg #[.int .i64 r1, v1_]) ∧ Kd.R (Kd.int .i64) 3 w' w.heap.size (fun _ => True) v1_ r2 ∧ Below w.heap.size w w' := by
 have hu25 := Try.underlying25; have HB := Aside0.mk (Below.refl w.heap.size w); unfold bitmap_bits.f at h; have H := h; clear h; have H' := Aside0.mk H; clear H; go_enter Try.func26, Try.ntmps26; go_wp2_with (first | ((with_reducible refine gate_dst (N := 4) rfl ?_); refine be_ (cs := #[.int .i64 0, .slice none 0 0]) (t := 25) ?_; intro gb101 hg w3 hbox hb; have BK101 := Aside0.mk (hbox); have GW101 := ag_ hg HB; have GE101 := ag_ hg HB; replace HB := ah_ HB hb; clear hb hbox hg) | ((with_reducible refine gate_dst (N := 5) rfl ?_); refine be_ (cs := #[.int .i64 0, .slice none 0 0]) (t := 25) ?_; intro gb102 hg w4 hbox hb; have BK102 := Aside0.mk (hbox); have GW102 := Aside0.mk ((by rw [hg]; exact (below_size (hs_)) : w.heap.size ≤ gb102)); have GE102 := Aside0.mk ((by rw [hg]; exact (below_size (hs_)) : w.heap.size ≤ gb102)); replace HB := hbs_ hb; have NB101_102 := Aside0.mk (nl2_ hg BK101.out); have NB102_101 := Aside0.mk (ng2_ hg BK101.out); replace BK101 := ab_ BK101 hb; clear hb hbox hg; have hnb5 := NB102_101.out; have hnc5 := NB101_102.out; obtain ⟨Z6_0, Z6_1, F6⟩ := bc2 BK102.out)); go_loopg [6] k (fun kq v6 w' => ∃ (x6_1 : Int) (x103001_1 : List Int) (u103001 : Value), v6 = .int .i64 x6_1 ∧ Aside0 (bitmap_bits.l0 kq a0 a1 x6_1 a0 x103001_1 = some (r1, r2)) ∧ Aside0 (kq ≤ k) ∧ Aside0 (Kd.R (Kd.int .i64) 3 w' w.heap.size (fun _ => True) u103001 x103001_1) ∧ Aside0 (w'.heap[gb101]? = some (.cells #[.int .i64 0, (.slice none 0 0)] 25 (0, 0))) ∧ Aside0 (w'.heap[gb102]? = some (.cells #[.int .i64 a0, u103001] 25 (0, 0))) ∧ Aside0 (Below w.heap.size w w'))
 case atStart => exact ⟨(0), (([] : List Int)), (.slice none 0 0), z1_, H', ⟨Nat.le_refl _⟩, ⟨z7_⟩, ⟨by have b_ := BK101; have f_ := NB101_102; exact zb_⟩, ⟨by have b_ := BK102; exact zb_⟩, ⟨hs_⟩⟩
 case round =>
  clear H'; try clear c2
  try clear p2
  try clear c5
  try clear Z6_0 Z6_1 F6_0 F6_1
  obtain ⟨x6_1, x103001_1, u103001, rfl, HA, HK1, HO_103001, BK101, BK102, HB⟩ := hrel
  cases gk with
  | zero => exact absurd HA.out (by simp [bitmap_bits.l0])
  | succ k1 =>
   have H := HA.out; clear HA; simp only [bitmap_bits.l0] at H; by_cases c7 : x6_1 < a0; rotate_left
   ·rw [if_neg c7] at H; have c7b0 := df_ c7; clear c7; obtain ⟨rfl, rfl⟩ := pj2_ H; have hnb28 := NB102_101.out; have hnc28 := NB101_102.out; obtain ⟨Z29_0, Z29_1, F29⟩ := bc2 BK102.out; obtain ⟨Z30_0, Z30_1, F30⟩ := bc2 BK101.out; obtain ⟨Ao31, co31, eo31⟩ := Kd.R_slice HO_103001.out; subst eo31; go_wp2
    refine bodyPost_ret (results_cell_row rfl _ _ gb101 25 #[.int .i64 a0, .slice Ao31 x103001_1.length co31] (0, 0) _ rfl (by have b_ := BK101; exact zb_) Try.underlying25 rfl (by kernel_rfl)) rfl ?_; exact ⟨_, z3_, by (with_reducible repeat (first | apply Kd.R_alloc | apply Kd.R_drewN | apply Kd.R_drew)); exact Kd.R_mono (Kd.R_far (p := ⟨gb101, 1, none⟩) (Kd.R_far (p := ⟨gb101, 0, none⟩) (Kd.R_types HO_103001.out BK101.out (by decide)) (fun _ hk => hk.2) (.int .i64 a0)) (fun _ hk => hk.2) (.slice Ao31 x103001_1.length co31)) (fun _ hk => trivial), hs_⟩
   rw [if_pos c7] at H; have c7b0 := dt_ c7; clear c7; have H' := Aside0.mk H; clear H; have hnb8 := NB102_101.out; have hnc8 := NB101_102.out; obtain ⟨Z9_0, Z9_1, F9⟩ := bc2 BK102.out; obtain ⟨Ao10, co10, eo10⟩ := Kd.R_slice HO_103001.out; subst eo10; go_wp2
   go_loopg [6, 8] k1 (fun kq v6 v8 w' => ∃ (x6_2 : Int) (x8_2 : Int), v6 = .int .i64 x6_2 ∧ v8 = .int .i64 x8_2 ∧ Aside0 (bitmap_bits.l1 kq a0 a1 x6_2 (((x103001_1.length : Int) % 2) == 1) x8_2 a0 x103001_1 = some (r1, r2)) ∧ Aside0 (kq ≤ k1) ∧ Aside0 (Kd.R (Kd.int .i64) 3 w' w.heap.size (fun _ => True) (.slice Ao10 x103001_1.length co10) x103001_1) ∧ Aside0 (w'.heap[gb101]? = some (.cells #[.int .i64 0, (.slice none 0 0)] 25 (0, 0))) ∧ Aside0 (w'.heap[gb102]? = some (.cells #[.int .i64 a0, (.slice Ao10 x103001_1.length co10)] 25 (0, 0))) ∧ Aside0 (Below w.heap.size w w'))
   case atStart => exact ⟨(x6_1), (0), z1_, z1_, H', ⟨Nat.le_refl _⟩, ⟨by (with_reducible repeat (first | apply Kd.R_alloc | apply Kd.R_drewN | apply Kd.R_drew)); exact HO_103001.out⟩, ⟨bk_ BK101.out⟩, ⟨bk_ BK102.out⟩, ⟨hs_⟩⟩
   case round =>
    clear H'; try clear c2
    try clear p2
    try clear c5
    try clear c7
    try clear c7b0
    try clear c8
    try clear Z6_0 Z6_1
    try clear Z9_0 Z9_1
    try clear F6
    try clear F9
    try clear p2
    obtain ⟨x6_2, x8_2, rfl, rfl, HA, HK2, HO_103001, BK101, BK102, HB⟩ := hrel
    cases gk with
    | zero => exact absurd HA.out (by simp [bitmap_bits.l1])
    | succ k2 =>
     have H := HA.out; clear HA; simp only [bitmap_bits.l1] at H; by_cases c11 : x6_2 < a0; rotate_left
     ·rw [if_neg c11] at H; have c11b0 := df_ c11; clear c11; by_cases c22 : x103001_1.length < 17592186044416; rotate_left
      ·rw [if_neg c22] at H; exact no_ H
      rw [if_pos c22] at H; have LMc22 := Aside0.mk c22; clear c22; obtain ⟨y107, hy107⟩ : ∃ y_ : List Int, y_ = (x103001_1 ++ [x8_2]) := ⟨_, rfl⟩; replace H : (bitmap_bits.l0 k2 a0 a1 x6_2 a0 y107) = some (r1, r2) := by first | (rw [hy107]; with_reducible exact H) | (have H2_ := (Option.bind_some _ _).symm.trans H; rw [hy107]; with_reducible exact H2_) | (have H2_ := (Option.bind_some _ _).symm.trans H; with_reducible exact H2_) | with_reducible exact H | (rw [hy107]; exact H) | exact H
      have Ny107 := Aside0.mk hy107; clear hy107; have H' := Aside0.mk H; clear H; have hnb23 := NB102_101.out; have hnc23 := NB101_102.out; obtain ⟨Z24_0, Z24_1, F24⟩ := bc2 BK102.out; go_wp2_with (first | ((with_reducible refine gate_builtin (b := .append) (xs := #[.tmp 34, .tmp 36]) rfl ?_); at_builtin; refine Kd.R_append (Kd.int .i64) (w0 := w) w.heap.size rfl (.tmp 34) (.tmp 36) 22 3 (.int .i64 0) 8 rfl Try.underlying22 info3 rfl (by decide) (by omega) (.slice Ao10 x103001_1.length co10) x103001_1 x8_2 [.int .i64 x8_2] (fun _ => True) (fun _ => False) rfl rfl ?aP (fun _ hk => hk.elim) ?aF ?aO ?aB ?aS ?aL ?_; (case aP => exact rfl); (case aB => exact (hs_)); (case aF => exact (fun _ _ => trivial)); (case aO => exact (rk_ HO_103001.out)); (case aS => exact (below_size (hs_))); (case aL => have := LMc22.out; omega); intro v108 w25 ho hb hg hat; rw [← Ny107.out] at ho; have n0_ := Aside0.mk (blk_grown (g := gb101) (o := .cells #[.int .i64 0, .slice none 0 0] 25 (0, 0)) (bk_ BK101.out) hg (Kd.R_ne HO_103001.out BK101.out (by decide))); have n1_ := Aside0.mk (blk_grown (g := gb102) (o := .cells #[.int .i64 a0, .slice Ao10 x103001_1.length co10] 25 (0, 0)) (bk_ BK102.out) hg (Kd.R_ne HO_103001.out BK102.out (by decide))); have n2_ := Aside0.mk (hb); have n3_ := Aside0.mk (ho); clear BK101; clear BK102; clear HB; clear HO_103001; have BK101 := n0_; have BK102 := n1_; have HB := n2_; have HO109 := n3_; clear n0_ n1_ n2_ n3_; clear ho hb hg hat; obtain ⟨Ao26, co26, eo26⟩ := Kd.R_slice HO109.out; subst eo26; obtain ⟨Z27_0, Z27_1, F27⟩ := bc2 BK102.out)); go_roundg k2
      case measure => have := HK1.out; have := HK2.out; omega
      case rel => exact ⟨(x6_2), (y107), (.slice Ao26 y107.length co26), z1_, H', ⟨by have := HK1.out; have := HK2.out; omega⟩, ⟨by (with_reducible repeat (first | apply Kd.R_alloc | apply Kd.R_drewN | apply Kd.R_drew)); exact Kd.R_mono (Kd.R_far (p := ⟨gb102, 1, none⟩) (Kd.R_types HO109.out BK102.out (by decide)) (fun _ hk => hk.2) (.slice Ao26 y107.length co26)) (fun _ hk => trivial)⟩, ⟨by have b_ := BK101; have f_ := NB101_102; exact zb_⟩, ⟨by have b_ := BK102; exact zb_⟩, ⟨hs_⟩⟩
     rw [if_pos c11] at H; have c11b0 := dt_ c11; clear c11; obtain ⟨t103, A12, H⟩ := bx_ H; by_cases c13 : (t103 == (((x103001_1.length : Int) % 2) == 1)) = true
     ·rw [if_pos c13] at H; have c13b0 : (t103 == (((x103001_1.length : Int) % 2) == 1)) = true := c13; (try (have c13b1 : decide (t103 = (((x103001_1.length : Int) % 2) == 1)) = true := by simpa using c13))
      (try (have c13b2 : (t103 == (((x103001_1.length : Int) % 2) == 1)) = true := by simpa using c13))
      clear c13; have H' := Aside0.mk H; clear H; go_wp2_with (first | (go_at_fn G1_; refine calls_of_args (args' := (#[.int .i64 x6_2] ++ B1_)) (by first | rfl | simp) ?_; (refine (hq1_ x6_2 t103 _  ?side1 A12.out).mono ?_); (case side1 => repeat (first | (with_reducible first | exact HB.out | apply below_alloc | apply pw_below_drewN | apply below_drew1 | refine below_set ?_ GE101.out | refine below_set ?_ GE102.out) | exact HB.out)); rintro e w14 ⟨rfl, hb⟩; replace HO_103001 := Aside0.mk (Kd.R_below (rk_ HO_103001.out) hb); replace BK101 := ab_ BK101 hb; replace BK102 := ab_ BK102 hb; replace HB := hbs_ hb; (try clear hb); (try clear hb2); (try clear hk); (try clear hi)))
      go_roundg k2
      case measure => have := HK1.out; have := HK2.out; omega
      case rel => exact ⟨(wrap64 (x6_2 + 1)), (wrap64 (x8_2 + 1)), z1_, z1_, H', ⟨by have := HK1.out; have := HK2.out; omega⟩, ⟨by (with_reducible repeat (first | apply Kd.R_alloc | apply Kd.R_drewN | apply Kd.R_drew)); exact HO_103001.out⟩, ⟨bk_ BK101.out⟩, ⟨bk_ BK102.out⟩, ⟨hs_⟩⟩
     rw [if_neg c13] at H; have c13b0 : (t103 == (((x103001_1.length : Int) % 2) == 1)) = false := by simpa using c13
     (try (have c13b1 : decide (t103 = (((x103001_1.length : Int) % 2) == 1)) = false := by simpa using c13))
     (try (have c13b2 : (t103 == (((x103001_1.length : Int) % 2) == 1)) = false := by simpa using c13))
     (try (have c13b3 : ¬ (t103 = (((x103001_1.length : Int) % 2) == 1)) := by simpa using c13))
     clear c13; by_cases c15 : x103001_1.length < 17592186044416; rotate_left
     ·rw [if_neg c15] at H; exact no_ H
     rw [if_pos c15] at H; have LMc15 := Aside0.mk c15; clear c15; obtain ⟨y104, hy104⟩ : ∃ y_ : List Int, y_ = (x103001_1 ++ [x8_2]) := ⟨_, rfl⟩; replace H : (bitmap_bits.l0 k2 a0 a1 x6_2 a0 y104) = some (r1, r2) := by first | (rw [hy104]; with_reducible exact H) | (have H2_ := (Option.bind_some _ _).symm.trans H; rw [hy104]; with_reducible exact H2_) | (have H2_ := (Option.bind_some _ _).symm.trans H; with_reducible exact H2_) | with_reducible exact H | (rw [hy104]; exact H) | exact H
     have Ny104 := Aside0.mk hy104; clear hy104; have H' := Aside0.mk H; clear H; go_wp2_with (first | (go_at_fn G1_; refine calls_of_args (args' := (#[.int .i64 x6_2] ++ B1_)) (by first | rfl | simp) ?_; (refine (hq1_ x6_2 t103 _  ?side1 A12.out).mono ?_); (case side1 => repeat (first | (with_reducible first | exact HB.out | apply below_alloc | apply pw_below_drewN | apply below_drew1 | refine below_set ?_ GE101.out | refine below_set ?_ GE102.out) | exact HB.out)); rintro e w16 ⟨rfl, hb⟩; replace HO_103001 := Aside0.mk (Kd.R_below (rk_ HO_103001.out) hb); replace BK101 := ab_ BK101 hb; replace BK102 := ab_ BK102 hb; replace HB := hbs_ hb; (try clear hb); (try clear hb2); (try clear hk); (try clear hi); have hnb17 := NB102_101.out; have hnc17 := NB101_102.out; obtain ⟨Z18_0, Z18_1, F18⟩ := bc2 BK102.out) | ((with_reducible refine gate_builtin (b := .append) (xs := #[.tmp 34, .tmp 36]) rfl ?_); at_builtin; refine Kd.R_append (Kd.int .i64) (w0 := w) w.heap.size rfl (.tmp 34) (.tmp 36) 22 3 (.int .i64 0) 8 rfl Try.underlying22 info3 rfl (by decide) (by omega) (.slice Ao10 x103001_1.length co10) x103001_1 x8_2 [.int .i64 x8_2] (fun _ => True) (fun _ => False) rfl rfl ?aP (fun _ hk => hk.elim) ?aF ?aO ?aB ?aS ?aL ?_; (case aP => exact rfl); (case aB => exact (hs_)); (case aF => exact (fun _ _ => trivial)); (case aO => exact (rk_ HO_103001.out)); (case aS => exact (below_size (hs_))); (case aL => have := LMc15.out; omega); intro v105 w19 ho hb hg hat; rw [← Ny104.out] at ho; have n0_ := Aside0.mk (blk_grown (g := gb101) (o := .cells #[.int .i64 0, .slice none 0 0] 25 (0, 0)) (bk_ BK101.out) hg (Kd.R_ne HO_103001.out BK101.out (by decide))); have n1_ := Aside0.mk (blk_grown (g := gb102) (o := .cells #[.int .i64 a0, .slice Ao10 x103001_1.length co10] 25 (0, 0)) (bk_ BK102.out) hg (Kd.R_ne HO_103001.out BK102.out (by decide))); have n2_ := Aside0.mk (hb); have n3_ := Aside0.mk (ho); clear BK101; clear BK102; clear HB; clear HO_103001; have BK101 := n0_; have BK102 := n1_; have HB := n2_; have HO106 := n3_; clear n0_ n1_ n2_ n3_; clear ho hb hg hat; obtain ⟨Ao20, co20, eo20⟩ := Kd.R_slice HO106.out; subst eo20; obtain ⟨Z21_0, Z21_1, F21⟩ := bc2 BK102.out)); go_roundg k2
     case measure => have := HK1.out; have := HK2.out; omega
     case rel => exact ⟨(x6_2), (y104), (.slice Ao20 y104.length co20), z1_, H', ⟨by have := HK1.out; have := HK2.out; omega⟩, ⟨by (with_reducible repeat (first | apply Kd.R_alloc | apply Kd.R_drewN | apply Kd.R_drew)); exact Kd.R_mono (Kd.R_far (p := ⟨gb102, 1, none⟩) (Kd.R_types HO106.out BK102.out (by decide)) (fun _ hk => hk.2) (.slice Ao20 y104.length co20)) (fun _ hk => trivial)⟩, ⟨by have b_ := BK101; have f_ := NB101_102; exact zb_⟩, ⟨by have b_ := BK102; exact zb_⟩, ⟨hs_⟩⟩


def bitmap_Of_1.f (a0 : Int) (l1_0 : List Bool) : Option (Bool) := if 0 ≤ a0 then (if a0 < (l1_0.length : Int) then (some (rdOf false l1_0 a0)) else (none)) else (none)
set_option maxHeartbeats 8000000 in
set_option maxRecDepth 100000 in
theorem bitmap_Of_1.calls (a0 : Int) (gc1 : Nat) (A1_0 : Option Addr) (c1_0 : Nat) (l1_0 : List Bool) (r : Bool) (w : World) (hb1 : w.heap[gc1]? = some (.cells #[.slice A1_0 l1_0.length c1_0] 40 (0, 0))) (hr1_0 : Kd.C Kd.bool w A1_0 l1_0.length l1_0) (hc1_0 : l1_0.length ≤ c1_0) (h : bitmap_Of_1.f a0 l1_0 = some r) :
  Calls Try.prog 27 #[.int .i64 a0, .pointer (some ⟨gc1, 0, none⟩)] w fun e w' => e = .returned (.bool r) ∧ Drawn0 w w' := by
 have BK1 := Aside0.mk hb1; clear hb1; have HR1_0 := Aside0.mk hr1_0; have HC1_0 := Aside0.mk hc1_0; clear hr1_0 hc1_0; unfold bitmap_Of_1.f at h; have H := h; clear h; by_cases c2 : 0 ≤ a0; rotate_left
 ·rw [if_neg c2] at H; exact no_ H
 rw [if_pos c2] at H; have c2b0 := dt_ c2; clear c2; by_cases c3 : a0 < (l1_0.length : Int); rotate_left
 ·rw [if_neg c3] at H; exact no_ H
 rw [if_pos c3] at H; have c3b0 := dt_ c3; clear c3; obtain rfl := oi_ H; obtain ⟨Z4_0, F4⟩ := bc1 BK1.out; have p101 : 0 ≤ (a0 : Int) := y0_; have q101 : a0 < (l1_0.length : Int) := y0_; obtain ⟨ad101, e101, hx101_0⟩ := Kd.at_bool HR1_0.out a0 p101 q101
 cases e101
 replace p101 := eq_true p101; replace q101 := eq_true q101; go_enter Try.func27, Try.ntmps27; go_wp2
 go_ret
 exact ⟨z1_, z4_⟩


mutual
def bitmap_Of.j0 : Nat → Int → List Int → Bool → Option (Int × List Int × Int)
 | 0, _, _, _ => none
 | k + 1, x0, x1, x14 => if x14 = true then (some (0, ([] : List Int), 1)) else (if 0 ≤ x0 then (if (x0 : Int).toNat ≤ 281474976710656 then (bitmap_Of.l0 k x0 x1 (x1.length : Int) 0 (List.replicate (x0 : Int).toNat false)) else (none)) else (none))
def bitmap_Of.l0 : Nat → Int → List Int → Int → Int → List Bool → Option (Int × List Int × Int)
 | 0, _, _, _, _, _ => none
 | k + 1, x0, x18, x19, x20, x107000 => if x20 < x19 then (if 0 ≤ x20 then (if x20 < (x18.length : Int) then (if (rd x18 x20) < 0 then (some (0, ([] : List Int), 1)) else (if (rd x18 x20) ≥ x0 then (some (0, ([] : List Int), 1)) else (if 0 ≤ (rd x18 x20) then (if (rd x18 x20) < (x107000.length : Int) then (bitmap_Of.l0 k x0 x18 x19 (wrap64 (x20 + 1)) (x107000.set ((rd x18 x20) : Int).toNat true)) else (none)) else (none)))) else (none)) else (none)) else ((bitmap_bits.f k x0 (fun z0 => bitmap_Of_1.f z0 x107000)).bind fun bt109 => (some (bt109.1, bt109.2, 0)))
end
def bitmap_Of.f (k : Nat) (a0 : Int) (l1 : List Int) : Option (Int × List Int × Int) := if a0 < 0 then (bitmap_Of.j0 k a0 l1 true) else (bitmap_Of.j0 k a0 l1 (decide (a0 > 1048576)))
theorem bitmap_Of.mono_l : ∀ k, (∀ y0 y1 y2, LeO (bitmap_Of.j0 k y0 y1 y2) (bitmap_Of.j0 (k + 1) y0 y1 y2)) ∧ (∀ y0 y1 y2 y3 y4, LeO (bitmap_Of.l0 k y0 y1 y2 y3 y4) (bitmap_Of.l0 (k + 1) y0 y1 y2 y3 y4))
 | 0 => ⟨fun _ _ _ r h => by simp [bitmap_Of.j0] at h, fun _ _ _ _ _ r h => by simp [bitmap_Of.l0] at h⟩
 | k + 1 => by
  obtain ⟨ih0, ih1⟩ := bitmap_Of.mono_l k
  refine ⟨?_, ?_⟩
  ·intro y0 y1 y2
   unfold bitmap_Of.j0
   have m0_ := @ih0
   have m1_ := @ih1
   have m2_ := @bitmap_bits.mono
   exact mz_
  ·intro y0 y1 y2 y3 y4
   unfold bitmap_Of.l0
   have m0_ := @ih0
   have m1_ := @ih1
   have m2_ := @bitmap_bits.mono
   exact mz_
theorem bitmap_Of.mono : ∀ a0 a1 k, LeO (bitmap_Of.f k a0 a1) (bitmap_Of.f (k + 1) a0 a1) := by
 intro a0 a1 k; obtain ⟨ih0, ih1⟩ := bitmap_Of.mono_l k; unfold bitmap_Of.f; have m0_ := @ih0; have m1_ := @ih1; have m2_ := @bitmap_bits.mono; exact mz_
set_option maxHeartbeats 8000000 in
set_option maxRecDepth 100000 in
theorem bitmap_Of.calls (k : Nat) (a0 : Int) (A1 : Option Addr) (c1 : Nat) (l1 : List Int) (r1 : Int) (r2 : List Int) (r3 : Int) (w : World) (hr1 : Kd.C (Kd.int .i64) w A1 l1.length l1) (hc1 : l1.length ≤ c1) (h : bitmap_Of.f k a0 l1 = some (r1, r2, r3)) :
  Calls Try.prog 8 #[.int .i64 a0, .slice A1 l1.length c1] w fun e w' => ∃ v1_ : Value, e = .returned (.tuple #[.agg #[.int .i64 r1, v1_], .int .i64 r3]) ∧ Kd.R (Kd.int .i64) 3 w' w.heap.size (fun _ => True) v1_ r2 ∧ Below w.heap.size w w' := by
 have hu25 := Try.underlying25; have hu40 := Try.underlying40; have HR1 := Aside0.mk hr1; have HC1 := Aside0.mk hc1; clear hr1 hc1; have HB := Aside0.mk (Below.refl w.heap.size w); unfold bitmap_Of.f at h; have H := h; clear h; have HC3 := Aside0.mk H; clear H; go_enter Try.func8, Try.ntmps8; go_upto_region 1 with (first | ((with_reducible refine gate_dst (N := 4) rfl ?_); refine be_ (cs := #[.int .i64 0, .slice none 0 0]) (t := 25) ?_; intro gb102 hg w4 hbox hb; have BK102 := Aside0.mk (hbox); have GW102 := ag_ hg HB; have GE102 := ag_ hg HB; replace HB := ah_ HB hb; clear hb hbox hg)); (try simp only [Act.put, List.setIfInBounds_toArray, List.set_cons_zero, List.set_cons_succ])
 go_cut [14] (fun v14 wc => ∃ (kq : Nat) (x14_2 : Bool), v14 = .bool x14_2 ∧ Aside0 (bitmap_Of.j0 kq a0 l1 x14_2 = some (r1, r2, r3)) ∧ Aside0 (kq ≤ k) ∧ Aside0 (wc.heap[gb102]? = some (.cells #[.int .i64 0, (.slice none 0 0)] 25 (0, 0))) ∧ Aside0 (Below w.heap.size w wc))
 case first =>
  have H := HC3.out; clear HC3; by_cases c5 : a0 < 0
  ·rw [if_pos c5] at H; have c5b0 := dt_ c5; clear c5; (first | rw [c5b0] | (simp only [i64_w, i32_w]; rw [c5b0]) | skip); have H' := Aside0.mk H; clear H; go_wp2
   go_meet
   case rel => exact ⟨_, (true), z1_, H', ⟨z6_⟩, ⟨bk_ BK102.out⟩, ⟨hs_⟩⟩
  rw [if_neg c5] at H; have c5b0 := df_ c5; clear c5; (first | rw [c5b0] | (simp only [i64_w, i32_w]; rw [c5b0]) | skip); have H' := Aside0.mk H; clear H; go_wp2
  go_meet
  case rel => exact ⟨_, (decide (a0 > 1048576)), z1_, H', ⟨z6_⟩, ⟨bk_ BK102.out⟩, ⟨hs_⟩⟩
 case rest =>
  clear HC3; try clear c1
  try clear p2
  try clear c5
  try clear c5b0
  obtain ⟨kq, x14_2, rfl, HA, HJ2, BK102, HB⟩ := hcut
  cases kq with
  | zero => exact absurd HA.out (by simp [bitmap_Of.j0])
  | succ kj2 =>
   have H := HA.out; clear HA; simp only [bitmap_Of.j0] at H; by_cases c6 : x14_2 = true
   ·subst c6; rw [if_pos rfl] at H; obtain ⟨rfl, rfl, rfl⟩ := pj3_ H; obtain ⟨Z7_0, Z7_1, F7⟩ := bc2 BK102.out; go_wp2
    refine bodyPost_ret (results_ct rfl _ _ gb102 25 #[.int .i64 0, .slice none 0 0] (0, 0) _ rfl (by have b_ := BK102; exact zb_) Try.underlying25 rfl (by kernel_rfl)) rfl ?_; exact ⟨_, z3_, z7_, hs_⟩
   replace c6 := Bool.eq_false_iff.mpr c6; subst c6; rw [if_neg nft_] at H; by_cases c8 : 0 ≤ a0; rotate_left
   ·rw [if_neg c8] at H; exact no_ H
   rw [if_pos c8] at H; have c8b0 := eq_true c8; have c8b1 := dt_ c8; clear c8; by_cases c9 : (a0 : Int).toNat ≤ 281474976710656; rotate_left
   ·rw [if_neg c9] at H; exact no_ H
   rw [if_pos c9] at H; have c9b0 := eq_true c9; have c9b1 := dt_ c9; clear c9; obtain ⟨y103, hy103⟩ : ∃ y_ : List Bool, y_ = (List.replicate (a0 : Int).toNat false) := ⟨_, rfl⟩; replace H : (bitmap_Of.l0 kj2 a0 l1 (l1.length : Int) 0 y103) = some (r1, r2, r3) := by first | (rw [hy103]; with_reducible exact H) | (have H2_ := (Option.bind_some _ _).symm.trans H; rw [hy103]; with_reducible exact H2_) | (have H2_ := (Option.bind_some _ _).symm.trans H; with_reducible exact H2_) | with_reducible exact H | (rw [hy103]; exact H) | exact H
   have Ny103 := Aside0.mk hy103; clear hy103; have H' := Aside0.mk H; clear H; go_wp2_with (first | ((with_reducible refine gate_dst (N := 17) rfl ?_); refine Kd.R_make Kd.bool _ 4 rfl (N := 17) rfl 40 _ _ rfl a0 rfl rfl Try.underlying40 (.bool false) 1 info4 rfl (by decide) (by omega) false (ok := fun _ => True) (okp := fun _ => True) rfl (fun _ hk => hk) trivial (y0_) (Nat.le_trans (Nat.mul_le_mul_right _ (y0_ : a0.toNat ≤ 281474976710656)) (by omega)) (Below.refl _ _) (Nat.le_refl _) ?_; intro v104 w10 ho11 hb hg_ hnew_; clear hg_ hnew_; (first | rw [← Ny103.out] at ho11 | (simp only [Int.reduceToNat] at ho11; rw [← Ny103.out] at ho11)); have HO105 := Aside0.mk (Kd.R_lower ho11 (below_size (hs_))); replace BK102 := ab_ BK102 hb; replace HB := hbs_ hb; clear hb ho11) | ((with_reducible refine gate_dst (N := 6) rfl ?_); refine be_ (cs := #[.slice none 0 0]) (t := 40) ?_; intro gb106 hg w12 hbox hb; replace HO105 := Aside0.mk (Kd.R_below (rk_ HO105.out) hb); have BK106 := Aside0.mk (hbox); have GW106 := Aside0.mk ((by rw [hg]; exact (below_size (hs_)) : w.heap.size ≤ gb106)); have GE106 := Aside0.mk ((by rw [hg]; exact (below_size (hs_)) : w.heap.size ≤ gb106)); replace HB := hbs_ hb; have NB102_106 := Aside0.mk (nl2_ hg BK102.out); have NB106_102 := Aside0.mk (ng2_ hg BK102.out); replace BK102 := ab_ BK102 hb; clear hb hbox hg; obtain ⟨Ao13, co13, eo13⟩ := Kd.R_slice HO105.out; subst eo13; have hnb14 := NB106_102.out; have hnc14 := NB102_106.out; obtain ⟨Z15_0, F15⟩ := bc1 BK106.out)); go_loopg [20] kj2 (fun kq v20 w' => ∃ (x20_2 : Int) (x103000_2 : Int) (x107000_2 : List Bool) (u107000 : Value), v20 = .int .i64 x20_2 ∧ Aside0 (bitmap_Of.l0 kq a0 l1 (l1.length : Int) x20_2 x107000_2 = some (r1, r2, r3)) ∧ Aside0 (kq ≤ kj2) ∧ Aside0 (Kd.R Kd.bool 4 w' w.heap.size (fun _ => True) u107000 x107000_2) ∧ Aside0 (w'.heap[gb102]? = some (.cells #[.int .i64 x103000_2, (.slice none 0 0)] 25 (0, 0))) ∧ Aside0 (w'.heap[gb106]? = some (.cells #[u107000] 40 (0, 0))) ∧ Aside0 (Below w.heap.size w w'))
   case atStart => exact ⟨(0), (0), (y103), (.slice Ao13 y103.length co13), z1_, H', ⟨Nat.le_refl _⟩, ⟨by (with_reducible repeat (first | apply Kd.R_alloc | apply Kd.R_drewN | apply Kd.R_drew)); exact Kd.R_mono (Kd.R_far (p := ⟨gb106, 0, none⟩) (Kd.R_types HO105.out BK106.out (by decide)) (fun _ hk => hk.2) (.slice Ao13 y103.length co13)) (fun _ hk => trivial)⟩, ⟨by have b_ := BK102; have f_ := NB102_106; exact zb_⟩, ⟨by have b_ := BK106; exact zb_⟩, ⟨hs_⟩⟩
   case round =>
    clear H'; try clear c1
    try clear p2
    try clear c5
    try clear c5b0
    try clear c6
    try clear c8
    try clear c8b0
    try clear c8b1
    try clear c9
    try clear c9b0
    try clear c9b1
    try clear c14
    try clear Z15_0
    try clear Z7_0 Z7_1
    try clear F15
    try clear F7
    try clear p2
    obtain ⟨x20_2, x103000_2, x107000_2, u107000, rfl, HA, HK2, HO_107000, BK102, BK106, HB⟩ := hrel
    cases gk with
    | zero => exact absurd HA.out (by simp [bitmap_Of.l0])
    | succ k2 =>
     have H := HA.out; clear HA; simp only [bitmap_Of.l0] at H; by_cases c16 : x20_2 < (l1.length : Int); rotate_left
     ·rw [if_neg c16] at H; have c16b0 := df_ c16; clear c16; obtain ⟨⟨t109, t110⟩, A32, H⟩ := bx_ H; dsimp only at H; obtain ⟨rfl, rfl, rfl⟩ := pj3_ H; obtain ⟨Ao33, co33, eo33⟩ := Kd.R_slice HO_107000.out; subst eo33; go_wp2_with (first | ((with_reducible refine gate_callee (f := 26) rfl ?_); refine gl_ (some 38) Try.func26 #[.int .i64 a0, .func (.func 27) #[] #[.pointer (some ⟨gb106, 0, none⟩)]] ?_; (with_reducible refine (bitmap_bits.calls k2 a0 27 #[.pointer (some ⟨gb106, 0, none⟩)] (fun z0 => bitmap_Of_1.f z0 x107000_2) t109 t110 _ ?side1 ?side2 A32.out).mono ?_); (case side1 => exact fun args w => enters_ Try.func27 rfl rfl args w); (case side2 => intro z0_ z1_ W_ hB_ h_; exact (bitmap_Of_1.calls z0_ gb106 _ _ x107000_2 z1_ W_  (blk_below (bk_ BK106.out) hB_) (Kd.C_below (by repeat (first | exact (Kd.R_reads' HO_107000.out).2.2 | (with_reducible refine Kd.C_alloc ?_ _) | (with_reducible refine Kd.C_drewN ?_ _) | (with_reducible refine Kd.C_drew ?_))) hB_) (by exact (Kd.R_reads' HO_107000.out).2.1) h_).mono (fun e w' hx_ => ⟨hx_.1, hx_.2.below⟩)); rintro e w34 ⟨v111, rfl, ho0, hb⟩; refine ⟨_, rfl, ?_⟩; replace HO_107000 := Aside0.mk (Kd.R_below (rk_ HO_107000.out) hb); have HO112 := Aside0.mk (Kd.R_lower ho0 (below_size (hs_))); replace BK102 := ab_ BK102 hb; replace BK106 := ab_ BK106 hb; replace HB := hbs_ hb; (try clear hb); (try clear hb2); (try clear hk); (try clear hi); (try clear ho0); have hnb35 := NB102_106.out; have hnc35 := NB106_102.out; obtain ⟨Z36_0, Z36_1, F36⟩ := bc2 BK102.out; obtain ⟨Ao37, co37, eo37⟩ := Kd.R_slice HO112.out; subst eo37)); refine bodyPost_ret (results_ct rfl _ _ gb102 25 #[.int .i64 t109, .slice Ao37 t110.length co37] (0, 0) _ rfl (by have b_ := BK102; exact zb_) Try.underlying25 rfl (by kernel_rfl)) rfl ?_; exact ⟨_, z3_, by (with_reducible repeat (first | apply Kd.R_alloc | apply Kd.R_drewN | apply Kd.R_drew)); exact Kd.R_mono (Kd.R_far (p := ⟨gb102, 1, none⟩) (Kd.R_far (p := ⟨gb102, 0, none⟩) (Kd.R_types HO112.out BK102.out (by decide)) (fun _ hk => hk.2) (.int .i64 t109)) (fun _ hk => hk.2) (.slice Ao37 t110.length co37)) (fun _ hk => trivial), hs_⟩
     rw [if_pos c16] at H; have c16b0 := dt_ c16; clear c16; by_cases c17 : 0 ≤ x20_2; rotate_left
     ·rw [if_neg c17] at H; exact no_ H
     rw [if_pos c17] at H; have c17b0 := dt_ c17; clear c17; by_cases c18 : x20_2 < (l1.length : Int); rotate_left
     ·rw [if_neg c18] at H; exact no_ H
     rw [if_pos c18] at H; have c18b0 := dt_ c18; clear c18; by_cases c19 : (rd l1 x20_2) < 0
     ·rw [if_pos c19] at H; have c19b0 := dt_ c19; clear c19; obtain ⟨rfl, rfl, rfl⟩ := pj3_ H; have p107 : 0 ≤ (x20_2 : Int) := y0_; have q107 : x20_2 < (l1.length : Int) := y0_; obtain ⟨ad107, e107, hx107_0⟩ := Kd.at_int HR1.out x20_2 p107 q107
      cases e107
      replace hx107_0 := (HB.out.cell (World.block_lt_of_cell? w _ hx107_0)).trans hx107_0; replace p107 := eq_true p107; replace q107 := eq_true q107; have hnb20 := NB102_106.out; have hnc20 := NB106_102.out; obtain ⟨Z21_0, Z21_1, F21⟩ := bc2 BK102.out; go_wp2
      refine bodyPost_ret (results_ct rfl _ _ gb102 25 #[.int .i64 0, .slice none 0 0] (0, 0) _ rfl (by have b_ := BK102; exact zb_) Try.underlying25 rfl (by kernel_rfl)) rfl ?_; exact ⟨_, z3_, z7_, hs_⟩
     rw [if_neg c19] at H; have c19b0 := df_ c19; clear c19; by_cases c22 : (rd l1 x20_2) ≥ a0
     ·rw [if_pos c22] at H; have c22b0 := dt_ c22; clear c22; obtain ⟨rfl, rfl, rfl⟩ := pj3_ H; have p107 : 0 ≤ (x20_2 : Int) := y0_; have q107 : x20_2 < (l1.length : Int) := y0_; obtain ⟨ad107, e107, hx107_0⟩ := Kd.at_int HR1.out x20_2 p107 q107
      cases e107
      replace hx107_0 := (HB.out.cell (World.block_lt_of_cell? w _ hx107_0)).trans hx107_0; replace p107 := eq_true p107; replace q107 := eq_true q107; have hnb23 := NB102_106.out; have hnc23 := NB106_102.out; obtain ⟨Z24_0, Z24_1, F24⟩ := bc2 BK102.out; go_wp2
      refine bodyPost_ret (results_ct rfl _ _ gb102 25 #[.int .i64 0, .slice none 0 0] (0, 0) _ rfl (by have b_ := BK102; exact zb_) Try.underlying25 rfl (by kernel_rfl)) rfl ?_; exact ⟨_, z3_, z7_, hs_⟩
     rw [if_neg c22] at H; have c22b0 := df_ c22; clear c22; by_cases c25 : 0 ≤ (rd l1 x20_2); rotate_left
     ·rw [if_neg c25] at H; exact no_ H
     rw [if_pos c25] at H; have c25b0 := dt_ c25; clear c25; by_cases c26 : (rd l1 x20_2) < (x107000_2.length : Int); rotate_left
     ·rw [if_neg c26] at H; exact no_ H
     rw [if_pos c26] at H; have c26b0 := dt_ c26; clear c26; obtain ⟨y108, hy108⟩ : ∃ y_ : List Bool, y_ = (x107000_2.set ((rd l1 x20_2) : Int).toNat true) := ⟨_, rfl⟩; replace H : (bitmap_Of.l0 k2 a0 l1 (l1.length : Int) (wrap64 (x20_2 + 1)) y108) = some (r1, r2, r3) := by first | (rw [hy108]; with_reducible exact H) | (have H2_ := (Option.bind_some _ _).symm.trans H; rw [hy108]; with_reducible exact H2_) | (have H2_ := (Option.bind_some _ _).symm.trans H; with_reducible exact H2_) | with_reducible exact H | (rw [hy108]; exact H) | exact H
     have Ny108 := Aside0.mk hy108; clear hy108; have H' := Aside0.mk H; clear H; have p107 : 0 ≤ (x20_2 : Int) := y0_; have q107 : x20_2 < (l1.length : Int) := y0_; obtain ⟨ad107, e107, hx107_0⟩ := Kd.at_int HR1.out x20_2 p107 q107
     cases e107
     replace hx107_0 := (HB.out.cell (World.block_lt_of_cell? w _ hx107_0)).trans hx107_0; replace p107 := eq_true p107; replace q107 := eq_true q107; have hnb28 := NB106_102.out; have hnc28 := NB102_106.out; obtain ⟨Z29_0, F29⟩ := bc1 BK106.out; have p27 : 0 ≤ ((rd l1 x20_2) : Int) := y0_; have q27 : ((rd l1 x20_2) : Int) < ((x107000_2.length : Int) : Int) := y0_; obtain ⟨go27, co27, eo27, gb27, gl27, cl27, HG27⟩ := Kd.R_form HO_107000.out (by omega); (first | cases eo27 | (injection eo27 with ea_ en_ ec_; (first | subst ea_ | (injection ea_ with ea_; subst ea_)); subst ec_; clear en_)); have GB27 := Aside0.mk gb27; have GG27 := Aside0.mk HG27; clear gb27 gl27 HG27; obtain ⟨hx27_0, hf27_0⟩ := Kd.R_celln false HO_107000.out ((rd l1 x20_2) : Int) p27 q27; replace p27 := eq_true p27; replace q27 := eq_true q27; have HP30 := Kd.R_putg HO_107000.out ((rd l1 x20_2) : Int) true; go_wp2_with (first | ((with_reducible refine gate_store (t := 4) (p := 34) rfl ?_); refine store_event (t := 4) (p := 34) (v := ?vo_w31) (w1 := (wr.setCell ⟨go27, ((rd l1 x20_2) : Int).toNat, none⟩ (.bool true))) ?hg ?ho ?hn ?hr ?_; (case ho => rfl); (case hg => rfl); (case hn => rfl); (case hr => first | (go_simp; done) | (go_simp; rfl)); intro w31 hw; have hg : wr.grownBy w31 (some go27) := (by rw [hw]; exact HP30.2); have hp_ : Kd.R Kd.bool 4 w31 w.heap.size (fun _ => True) (.slice (some ⟨go27, 0, none⟩) x107000_2.length co27) y108 := (by rw [hw, Ny108.out]; exact HP30.1); clear HP30; replace BK102 := Aside0.mk (blk_grown (g := gb102) (o := .cells #[.int .i64 x103000_2, .slice none 0 0] 25 (0, 0)) (bk_ BK102.out) hg (Kd.R_ne HO_107000.out BK102.out (by decide))); replace BK106 := Aside0.mk (blk_grown (g := gb106) (o := .cells #[.slice (some ⟨go27, 0, none⟩) x107000_2.length co27] 40 (0, 0)) (bk_ BK106.out) hg (Kd.R_ne HO_107000.out BK106.out (by decide))); replace HO_107000 := Aside0.mk (hp_); replace HB := Aside0.mk ((by rw [hw]; exact below_set (HB.out) GB27.out : Below w.heap.size w w31)); clear hg hw hp_)); go_roundg k2
     case measure => have := HJ2.out; have := HK2.out; omega
     case rel => exact ⟨(wrap64 (x20_2 + 1)), (x103000_2), (y108), (.slice (some ⟨go27, 0, none⟩) x107000_2.length co27), z1_, H', ⟨by have := HJ2.out; have := HK2.out; omega⟩, ⟨by (with_reducible repeat (first | apply Kd.R_alloc | apply Kd.R_drewN | apply Kd.R_drew)); exact HO_107000.out⟩, ⟨bk_ BK102.out⟩, ⟨bk_ BK106.out⟩, ⟨hs_⟩⟩


def graftagelaw27_lives.f (k : Nat)  : Option (Bool) := (bitmap_Of.f k 5 (([2, 1] : List Int))).bind fun bt104 => ((bitmap_Of.f k 2 (([0, 1] : List Int))).bind fun bt113 => ((bitmap_Of.f k 3 ([] : List Int)).bind fun bt119 => (if bt104.2.2 = 0 then ((graftageref27_Ints.f k bt104.2.1 (([1, 2, 2] : List Int))).bind fun t128 => (if t128 = true then (if bt113.2.2 = 0 then ((graftageref27_Ints.f k bt113.2.1 (([0, 2] : List Int))).bind fun t132 => (if t132 = true then (if bt119.2.2 = 0 then ((graftageref27_Ints.f k bt119.2.1 (([3] : List Int))).bind fun t136 => (some t136)) else (some false)) else (some false))) else (some false)) else (some false))) else (some false))))
theorem graftagelaw27_lives.mono : ∀ k, LeO (graftagelaw27_lives.f k ) (graftagelaw27_lives.f (k + 1) ) := by
 intro  k; unfold graftagelaw27_lives.f; have m0_ := @bitmap_Of.mono; have m1_ := @graftageref27_Ints.mono; exact mz_
set_option maxHeartbeats 8000000 in
set_option maxRecDepth 100000 in
theorem graftagelaw27_lives.calls (k : Nat)  (r : Bool) (w : World) (h : graftagelaw27_lives.f k  = some r) :
  Calls Try.prog 7 #[] w fun e w' => e = .returned (.bool r) ∧ Below w.heap.size w w' := by
 have hu25 := Try.underlying25; have HB := Aside0.mk (Below.refl w.heap.size w); unfold graftagelaw27_lives.f at h; have H := h; clear h; obtain ⟨y101, hy101⟩ : ∃ y_ : List Int, y_ = (([2, 1] : List Int)) := ⟨_, rfl⟩; replace H : ((bitmap_Of.f k 5 y101).bind fun bt104 => ((bitmap_Of.f k 2 (([0, 1] : List Int))).bind fun bt113 => ((bitmap_Of.f k 3 ([] : List Int)).bind fun bt119 => (if bt104.2.2 = 0 then ((graftageref27_Ints.f k bt104.2.1 (([1, 2, 2] : List Int))).bind fun t128 => (if t128 = true then (if bt113.2.2 = 0 then ((graftageref27_Ints.f k bt113.2.1 (([0, 2] : List Int))).bind fun t132 => (if t132 = true then (if bt119.2.2 = 0 then ((graftageref27_Ints.f k bt119.2.1 (([3] : List Int))).bind fun t136 => (some t136)) else (some false)) else (some false))) else (some false)) else (some false))) else (some false))))) = some r := by first | (rw [hy101]; with_reducible exact H) | (have H2_ := (Option.bind_some _ _).symm.trans H; rw [hy101]; with_reducible exact H2_) | (have H2_ := (Option.bind_some _ _).symm.trans H; with_reducible exact H2_) | with_reducible exact H | (rw [hy101]; exact H) | exact H
 have Ny101 := Aside0.mk hy101; clear hy101; obtain ⟨⟨t104, t105, t108⟩, A1, H⟩ := bx_ H; dsimp only at H; obtain ⟨y110, hy110⟩ : ∃ y_ : List Int, y_ = (([0, 1] : List Int)) := ⟨_, rfl⟩; replace H : ((bitmap_Of.f k 2 y110).bind fun bt113 => ((bitmap_Of.f k 3 ([] : List Int)).bind fun bt119 => (if t108 = 0 then ((graftageref27_Ints.f k t105 (([1, 2, 2] : List Int))).bind fun t128 => (if t128 = true then (if bt113.2.2 = 0 then ((graftageref27_Ints.f k bt113.2.1 (([0, 2] : List Int))).bind fun t132 => (if t132 = true then (if bt119.2.2 = 0 then ((graftageref27_Ints.f k bt119.2.1 (([3] : List Int))).bind fun t136 => (some t136)) else (some false)) else (some false))) else (some false)) else (some false))) else (some false)))) = some r := by first | (rw [hy110]; with_reducible exact H) | (have H2_ := (Option.bind_some _ _).symm.trans H; rw [hy110]; with_reducible exact H2_) | (have H2_ := (Option.bind_some _ _).symm.trans H; with_reducible exact H2_) | with_reducible exact H | (rw [hy110]; exact H) | exact H
 have Ny110 := Aside0.mk hy110; clear hy110; obtain ⟨⟨t113, t114, t117⟩, A2, H⟩ := bx_ H; dsimp only at H; obtain ⟨⟨t119, t120, t123⟩, A3, H⟩ := bx_ H; dsimp only at H; by_cases c4 : t108 = 0; rotate_left
 ·rw [if_neg c4] at H; have c4b0 := ef_ c4; have c4b1 := nt_ c4; obtain rfl := oi_ H; go_enter Try.func7, Try.ntmps7; have tk23_ : True := trivial; have tk24_ : True := trivial; have tk25_ : True := trivial; go_wp2_with (first | ((with_reducible refine gate_dst (N := 8) rfl ?_); (try (refine gate_guard (by rfl) ?_; dsimp only)); refine Kd.R_lit (Kd.int .i64) _ 3 ?hg (N := 8) ?hd (xs := ([2, 1] : List Int)) (inner := [.int .i64 2, .int .i64 1]) (ok := fun _ => True) (okp := fun _ => True) ?hr ?hp (fun _ hk => hk) trivial (Below.refl _ _) (Nat.le_refl _) (by simp) ?_; (case hd => rfl); (case hg => rfl); (case hr => first | (go_simp; done) | (go_simp; rfl)); (case hp => exact (Reps.one (show Kd.M (Kd.int .i64) _ _ _ 2 [.int .i64 2] from rfl) (Reps.one (show Kd.M (Kd.int .i64) _ _ _ 1 [.int .i64 1] from rfl) (Reps.none _ _)))); intro v102 w153 ho154 hb hg_ hnew_; clear hg_ hnew_; (first | rw [← Ny101.out] at ho154 | (simp only [Int.reduceToNat] at ho154; rw [← Ny101.out] at ho154)); have HO103 := Aside0.mk (Kd.R_lower ho154 (below_size (hb_ HB.out))); replace HB := ah_ HB hb; clear hb ho154; obtain ⟨Ao155, co155, eo155⟩ := Kd.R_slice HO103.out; subst eo155) | (have _t := tk23_; (with_reducible refine gate_callee (f := 8) rfl ?_); refine gl_ (some 9) Try.func8 #[.int .i64 5, .slice Ao155 y101.length co155] ?_; (with_reducible refine (bitmap_Of.calls k 5 _ _ y101 t104 t105 t108 _ ?side1 ?side2 A1.out).mono ?_); (case side1 => repeat (first | exact (Kd.R_reads' HO103.out).2.2 | (with_reducible refine Kd.C_alloc ?_ _) | (with_reducible refine Kd.C_drewN ?_ _) | (with_reducible refine Kd.C_drew ?_))); (case side2 => exact (Kd.R_reads' HO103.out).2.1); rintro e w156 ⟨v106, rfl, ho0, hb⟩; refine ⟨_, rfl, ?_⟩; have HO107 := Aside0.mk (Kd.R_lower (Kd.R_new' ho0 (Kd.R_lt (rk_ HO103.out))) (below_size (hb_ HB.out))); replace HO103 := Aside0.mk (Kd.R_elder' (rk_ HO103.out) (Kd.R_base ho0) hb); replace HB := ah_ HB hb; (try clear hb); (try clear hb2); (try clear hk); (try clear hi); (try clear ho0); clear tk23_) | ((with_reducible refine gate_dst (N := 1) rfl ?_); (try (refine gate_guard (by rfl) ?_; dsimp only)); refine be_ (cs := #[.int .i64 0, .slice none 0 0]) (t := 25) ?_; intro gb109 hg w157 hbox hb; replace HO103 := Aside0.mk (Kd.R_below (rk_ HO103.out) hb); replace HO107 := Aside0.mk (Kd.R_below (rk_ HO107.out) hb); have BK109 := Aside0.mk (hbox); have GW109 := ag_ hg HB; have GE109 := ag_ hg HB; replace HB := ah_ HB hb; clear hb hbox hg; obtain ⟨Z158_0, Z158_1, F158⟩ := bc2 BK109.out; obtain ⟨Ao159, co159, eo159⟩ := Kd.R_slice HO107.out; subst eo159) | ((with_reducible refine gate_dst (N := 13) rfl ?_); (try (refine gate_guard (by rfl) ?_; dsimp only)); refine Kd.R_lit (Kd.int .i64) _ 3 ?hg (N := 13) ?hd (xs := ([0, 1] : List Int)) (inner := [.int .i64 0, .int .i64 1]) (ok := fun _ => True) (okp := fun _ => True) ?hr ?hp (fun _ hk => hk) trivial (Below.refl _ _) (Nat.le_refl _) (by simp) ?_; (case hd => rfl); (case hg => rfl); (case hr => first | (go_simp; done) | (go_simp; rfl)); (case hp => exact (Reps.one (show Kd.M (Kd.int .i64) _ _ _ 0 [.int .i64 0] from rfl) (Reps.one (show Kd.M (Kd.int .i64) _ _ _ 1 [.int .i64 1] from rfl) (Reps.none _ _)))); intro v111 w160 ho161 hb hg_ hnew_; clear hg_ hnew_; (first | rw [← Ny110.out] at ho161 | (simp only [Int.reduceToNat] at ho161; rw [← Ny110.out] at ho161)); have HO112 := Aside0.mk (Kd.R_lower (Kd.R_new' (Kd.R_new' ho161 (Kd.R_lt (by (with_reducible repeat (first | apply Kd.R_alloc | apply Kd.R_drewN | apply Kd.R_drew)); exact (Kd.R_mono (Kd.R_far (p := ⟨gb109, 1, none⟩) (Kd.R_far (p := ⟨gb109, 0, none⟩) (Kd.R_types HO103.out BK109.out (by decide)) (fun _ hk => hk.2) (.int .i64 t104)) (fun _ hk => hk.2) (.slice Ao159 t105.length co159)) (fun _ h_ => h_.1))))) (Kd.R_lt (by (with_reducible repeat (first | apply Kd.R_alloc | apply Kd.R_drewN | apply Kd.R_drew)); exact (Kd.R_mono (Kd.R_far (p := ⟨gb109, 1, none⟩) (Kd.R_far (p := ⟨gb109, 0, none⟩) (Kd.R_types HO107.out BK109.out (by decide)) (fun _ hk => hk.2) (.int .i64 t104)) (fun _ hk => hk.2) (.slice Ao159 t105.length co159)) (fun _ h_ => h_.1))))) (below_size (hs_))); replace HO103 := Aside0.mk (Kd.R_elder' (by (with_reducible repeat (first | apply Kd.R_alloc | apply Kd.R_drewN | apply Kd.R_drew)); exact (Kd.R_mono (Kd.R_far (p := ⟨gb109, 1, none⟩) (Kd.R_far (p := ⟨gb109, 0, none⟩) (Kd.R_types HO103.out BK109.out (by decide)) (fun _ hk => hk.2) (.int .i64 t104)) (fun _ hk => hk.2) (.slice Ao159 t105.length co159)) (fun _ h_ => h_.1))) (Kd.R_base ho161) hb); replace HO107 := Aside0.mk (Kd.R_elder' (by (with_reducible repeat (first | apply Kd.R_alloc | apply Kd.R_drewN | apply Kd.R_drew)); exact (Kd.R_mono (Kd.R_far (p := ⟨gb109, 1, none⟩) (Kd.R_far (p := ⟨gb109, 0, none⟩) (Kd.R_types HO107.out BK109.out (by decide)) (fun _ hk => hk.2) (.int .i64 t104)) (fun _ hk => hk.2) (.slice Ao159 t105.length co159)) (fun _ h_ => h_.1))) (Kd.R_base ho161) hb); replace BK109 := Aside0.mk (blk_below (g := gb109) (o := .cells #[.int .i64 t104, .slice Ao159 t105.length co159] 25 (0, 0)) (by have b_ := BK109; exact zb_) hb); replace HB := hbs_ hb; clear hb ho161; obtain ⟨Ao162, co162, eo162⟩ := Kd.R_slice HO112.out; subst eo162) | (have _t := tk24_; (with_reducible refine gate_callee (f := 8) rfl ?_); refine gl_ (some 14) Try.func8 #[.int .i64 2, .slice Ao162 y110.length co162] ?_; (with_reducible refine (bitmap_Of.calls k 2 _ _ y110 t113 t114 t117 _ ?side1 ?side2 A2.out).mono ?_); (case side1 => repeat (first | exact (Kd.R_reads' HO112.out).2.2 | (with_reducible refine Kd.C_alloc ?_ _) | (with_reducible refine Kd.C_drewN ?_ _) | (with_reducible refine Kd.C_drew ?_))); (case side2 => exact (Kd.R_reads' HO112.out).2.1); rintro e w163 ⟨v115, rfl, ho0, hb⟩; refine ⟨_, rfl, ?_⟩; have HO116 := Aside0.mk (Kd.R_lower (Kd.R_new' (Kd.R_new' (Kd.R_new' ho0 (Kd.R_lt (rk_ HO103.out))) (Kd.R_lt (rk_ HO107.out))) (Kd.R_lt (rk_ HO112.out))) (below_size (hs_))); replace HO103 := Aside0.mk (Kd.R_elder' (rk_ HO103.out) (Kd.R_base ho0) hb); replace HO107 := Aside0.mk (Kd.R_elder' (rk_ HO107.out) (Kd.R_base ho0) hb); replace HO112 := Aside0.mk (Kd.R_elder' (rk_ HO112.out) (Kd.R_base ho0) hb); replace BK109 := ab_ BK109 hb; replace HB := hbs_ hb; (try clear hb); (try clear hb2); (try clear hk); (try clear hi); (try clear ho0); clear tk24_) | ((with_reducible refine gate_dst (N := 3) rfl ?_); (try (refine gate_guard (by rfl) ?_; dsimp only)); refine be_ (cs := #[.int .i64 0, .slice none 0 0]) (t := 25) ?_; intro gb118 hg w164 hbox hb; replace HO103 := Aside0.mk (Kd.R_below (rk_ HO103.out) hb); replace HO107 := Aside0.mk (Kd.R_below (rk_ HO107.out) hb); replace HO112 := Aside0.mk (Kd.R_below (rk_ HO112.out) hb); replace HO116 := Aside0.mk (Kd.R_below (rk_ HO116.out) hb); have BK118 := Aside0.mk (hbox); have GW118 := Aside0.mk ((by rw [hg]; exact (below_size (hs_)) : w.heap.size ≤ gb118)); have GE118 := Aside0.mk ((by rw [hg]; exact (below_size (hs_)) : w.heap.size ≤ gb118)); replace HB := hbs_ hb; have NB109_118 := Aside0.mk (nl2_ hg BK109.out); have NB118_109 := Aside0.mk (ng2_ hg BK109.out); replace BK109 := ab_ BK109 hb; clear hb hbox hg; have hnb165 := NB118_109.out; have hnc165 := NB109_118.out; obtain ⟨Z166_0, Z166_1, F166⟩ := bc2 BK118.out; obtain ⟨Ao167, co167, eo167⟩ := Kd.R_slice HO116.out; subst eo167) | (have _t := tk25_; (with_reducible refine gate_callee (f := 8) rfl ?_); refine gl_ (some 18) Try.func8 #[.int .i64 3, .slice none 0 0] ?_; (refine (bitmap_Of.calls k 3 _ _ ([] : List Int) t119 t120 t123 _ ?side1 ?side2 A3.out).mono ?_); (case side1 => exact Kd.C_nil _ _); (case side2 => exact Nat.le_refl _); rintro e w168 ⟨v121, rfl, ho0, hb⟩; refine ⟨_, rfl, ?_⟩; have HO122 := Aside0.mk (Kd.R_lower (Kd.R_new' (Kd.R_new' (Kd.R_new' (Kd.R_new' ho0 (Kd.R_lt (by (with_reducible repeat (first | apply Kd.R_alloc | apply Kd.R_drewN | apply Kd.R_drew)); exact (Kd.R_mono (Kd.R_far (p := ⟨gb118, 1, none⟩) (Kd.R_far (p := ⟨gb118, 0, none⟩) (Kd.R_types HO103.out BK118.out (by decide)) (fun _ hk => hk.2) (.int .i64 t113)) (fun _ hk => hk.2) (.slice Ao167 t114.length co167)) (fun _ h_ => h_.1))))) (Kd.R_lt (by (with_reducible repeat (first | apply Kd.R_alloc | apply Kd.R_drewN | apply Kd.R_drew)); exact (Kd.R_mono (Kd.R_far (p := ⟨gb118, 1, none⟩) (Kd.R_far (p := ⟨gb118, 0, none⟩) (Kd.R_types HO107.out BK118.out (by decide)) (fun _ hk => hk.2) (.int .i64 t113)) (fun _ hk => hk.2) (.slice Ao167 t114.length co167)) (fun _ h_ => h_.1))))) (Kd.R_lt (by (with_reducible repeat (first | apply Kd.R_alloc | apply Kd.R_drewN | apply Kd.R_drew)); exact (Kd.R_mono (Kd.R_far (p := ⟨gb118, 1, none⟩) (Kd.R_far (p := ⟨gb118, 0, none⟩) (Kd.R_types HO112.out BK118.out (by decide)) (fun _ hk => hk.2) (.int .i64 t113)) (fun _ hk => hk.2) (.slice Ao167 t114.length co167)) (fun _ h_ => h_.1))))) (Kd.R_lt (by (with_reducible repeat (first | apply Kd.R_alloc | apply Kd.R_drewN | apply Kd.R_drew)); exact (Kd.R_mono (Kd.R_far (p := ⟨gb118, 1, none⟩) (Kd.R_far (p := ⟨gb118, 0, none⟩) (Kd.R_types HO116.out BK118.out (by decide)) (fun _ hk => hk.2) (.int .i64 t113)) (fun _ hk => hk.2) (.slice Ao167 t114.length co167)) (fun _ h_ => h_.1))))) (below_size (hs_))); replace HO103 := Aside0.mk (Kd.R_elder' (by (with_reducible repeat (first | apply Kd.R_alloc | apply Kd.R_drewN | apply Kd.R_drew)); exact (Kd.R_mono (Kd.R_far (p := ⟨gb118, 1, none⟩) (Kd.R_far (p := ⟨gb118, 0, none⟩) (Kd.R_types HO103.out BK118.out (by decide)) (fun _ hk => hk.2) (.int .i64 t113)) (fun _ hk => hk.2) (.slice Ao167 t114.length co167)) (fun _ h_ => h_.1))) (Kd.R_base ho0) hb); replace HO107 := Aside0.mk (Kd.R_elder' (by (with_reducible repeat (first | apply Kd.R_alloc | apply Kd.R_drewN | apply Kd.R_drew)); exact (Kd.R_mono (Kd.R_far (p := ⟨gb118, 1, none⟩) (Kd.R_far (p := ⟨gb118, 0, none⟩) (Kd.R_types HO107.out BK118.out (by decide)) (fun _ hk => hk.2) (.int .i64 t113)) (fun _ hk => hk.2) (.slice Ao167 t114.length co167)) (fun _ h_ => h_.1))) (Kd.R_base ho0) hb); replace HO112 := Aside0.mk (Kd.R_elder' (by (with_reducible repeat (first | apply Kd.R_alloc | apply Kd.R_drewN | apply Kd.R_drew)); exact (Kd.R_mono (Kd.R_far (p := ⟨gb118, 1, none⟩) (Kd.R_far (p := ⟨gb118, 0, none⟩) (Kd.R_types HO112.out BK118.out (by decide)) (fun _ hk => hk.2) (.int .i64 t113)) (fun _ hk => hk.2) (.slice Ao167 t114.length co167)) (fun _ h_ => h_.1))) (Kd.R_base ho0) hb); replace HO116 := Aside0.mk (Kd.R_elder' (by (with_reducible repeat (first | apply Kd.R_alloc | apply Kd.R_drewN | apply Kd.R_drew)); exact (Kd.R_mono (Kd.R_far (p := ⟨gb118, 1, none⟩) (Kd.R_far (p := ⟨gb118, 0, none⟩) (Kd.R_types HO116.out BK118.out (by decide)) (fun _ hk => hk.2) (.int .i64 t113)) (fun _ hk => hk.2) (.slice Ao167 t114.length co167)) (fun _ h_ => h_.1))) (Kd.R_base ho0) hb); replace BK109 := Aside0.mk (blk_below (g := gb109) (o := .cells #[.int .i64 t104, .slice Ao159 t105.length co159] 25 (0, 0)) (by have b_ := BK109; have f_ := NB109_118; exact zb_) hb); replace BK118 := Aside0.mk (blk_below (g := gb118) (o := .cells #[.int .i64 t113, .slice Ao167 t114.length co167] 25 (0, 0)) (by have b_ := BK118; exact zb_) hb); replace HB := hbs_ hb; (try clear hb); (try clear hb2); (try clear hk); (try clear hi); (try clear ho0); clear tk25_) | ((with_reducible refine gate_dst (N := 5) rfl ?_); (try (refine gate_guard (by rfl) ?_; dsimp only)); refine be_ (cs := #[.int .i64 0, .slice none 0 0]) (t := 25) ?_; intro gb124 hg w169 hbox hb; replace HO103 := Aside0.mk (Kd.R_below (rk_ HO103.out) hb); replace HO107 := Aside0.mk (Kd.R_below (rk_ HO107.out) hb); replace HO112 := Aside0.mk (Kd.R_below (rk_ HO112.out) hb); replace HO116 := Aside0.mk (Kd.R_below (rk_ HO116.out) hb); replace HO122 := Aside0.mk (Kd.R_below (rk_ HO122.out) hb); have BK124 := Aside0.mk (hbox); have GW124 := Aside0.mk ((by rw [hg]; exact (below_size (hs_)) : w.heap.size ≤ gb124)); have GE124 := Aside0.mk ((by rw [hg]; exact (below_size (hs_)) : w.heap.size ≤ gb124)); replace HB := hbs_ hb; have NB109_124 := Aside0.mk (nl2_ hg BK109.out); have NB124_109 := Aside0.mk (ng2_ hg BK109.out); replace BK109 := ab_ BK109 hb; have NB118_124 := Aside0.mk (nl2_ hg BK118.out); have NB124_118 := Aside0.mk (ng2_ hg BK118.out); replace BK118 := ab_ BK118 hb; clear hb hbox hg; have hnb170 := NB124_109.out; have hnc170 := NB109_124.out; have hnb171 := NB124_118.out; have hnc171 := NB118_124.out; obtain ⟨Z172_0, Z172_1, F172⟩ := bc2 BK124.out; obtain ⟨Ao173, co173, eo173⟩ := Kd.R_slice HO122.out; subst eo173))
  go_ret
  exact ⟨z3_, hs_⟩
 rw [if_pos c4] at H; have c4b0 := et_ c4; have c4b1 := nf_ c4; clear c4; obtain ⟨y125, hy125⟩ : ∃ y_ : List Int, y_ = (([1, 2, 2] : List Int)) := ⟨_, rfl⟩; replace H : ((graftageref27_Ints.f k t105 y125).bind fun t128 => (if t128 = true then (if t117 = 0 then ((graftageref27_Ints.f k t114 (([0, 2] : List Int))).bind fun t132 => (if t132 = true then (if t123 = 0 then ((graftageref27_Ints.f k t120 (([3] : List Int))).bind fun t136 => (some t136)) else (some false)) else (some false))) else (some false)) else (some false))) = some r := by first | (rw [hy125]; with_reducible exact H) | (have H2_ := (Option.bind_some _ _).symm.trans H; rw [hy125]; with_reducible exact H2_) | (have H2_ := (Option.bind_some _ _).symm.trans H; with_reducible exact H2_) | with_reducible exact H | (rw [hy125]; exact H) | exact H
 have Ny125 := Aside0.mk hy125; clear hy125; obtain ⟨t128, A5, H⟩ := bx_ H; by_cases c6 : t128 = true; rotate_left
 ·replace c6 := Bool.eq_false_iff.mpr c6; subst c6; rw [if_neg nft_] at H; obtain rfl := oi_ H; go_enter Try.func7, Try.ntmps7; have tk20_ : True := trivial; have tk21_ : True := trivial; have tk22_ : True := trivial; go_wp2_with (first | ((with_reducible refine gate_dst (N := 8) rfl ?_); (try (refine gate_guard (by rfl) ?_; dsimp only)); refine Kd.R_lit (Kd.int .i64) _ 3 ?hg (N := 8) ?hd (xs := ([2, 1] : List Int)) (inner := [.int .i64 2, .int .i64 1]) (ok := fun _ => True) (okp := fun _ => True) ?hr ?hp (fun _ hk => hk) trivial (Below.refl _ _) (Nat.le_refl _) (by simp) ?_; (case hd => rfl); (case hg => rfl); (case hr => first | (go_simp; done) | (go_simp; rfl)); (case hp => exact (Reps.one (show Kd.M (Kd.int .i64) _ _ _ 2 [.int .i64 2] from rfl) (Reps.one (show Kd.M (Kd.int .i64) _ _ _ 1 [.int .i64 1] from rfl) (Reps.none _ _)))); intro v102 w128 ho129 hb hg_ hnew_; clear hg_ hnew_; (first | rw [← Ny101.out] at ho129 | (simp only [Int.reduceToNat] at ho129; rw [← Ny101.out] at ho129)); have HO103 := Aside0.mk (Kd.R_lower ho129 (below_size (hb_ HB.out))); replace HB := ah_ HB hb; clear hb ho129; obtain ⟨Ao130, co130, eo130⟩ := Kd.R_slice HO103.out; subst eo130) | (have _t := tk20_; (with_reducible refine gate_callee (f := 8) rfl ?_); refine gl_ (some 9) Try.func8 #[.int .i64 5, .slice Ao130 y101.length co130] ?_; (with_reducible refine (bitmap_Of.calls k 5 _ _ y101 t104 t105 t108 _ ?side1 ?side2 A1.out).mono ?_); (case side1 => repeat (first | exact (Kd.R_reads' HO103.out).2.2 | (with_reducible refine Kd.C_alloc ?_ _) | (with_reducible refine Kd.C_drewN ?_ _) | (with_reducible refine Kd.C_drew ?_))); (case side2 => exact (Kd.R_reads' HO103.out).2.1); rintro e w131 ⟨v106, rfl, ho0, hb⟩; refine ⟨_, rfl, ?_⟩; have HO107 := Aside0.mk (Kd.R_lower (Kd.R_new' ho0 (Kd.R_lt (rk_ HO103.out))) (below_size (hb_ HB.out))); replace HO103 := Aside0.mk (Kd.R_elder' (rk_ HO103.out) (Kd.R_base ho0) hb); replace HB := ah_ HB hb; (try clear hb); (try clear hb2); (try clear hk); (try clear hi); (try clear ho0); clear tk20_) | ((with_reducible refine gate_dst (N := 1) rfl ?_); (try (refine gate_guard (by rfl) ?_; dsimp only)); refine be_ (cs := #[.int .i64 0, .slice none 0 0]) (t := 25) ?_; intro gb109 hg w132 hbox hb; replace HO103 := Aside0.mk (Kd.R_below (rk_ HO103.out) hb); replace HO107 := Aside0.mk (Kd.R_below (rk_ HO107.out) hb); have BK109 := Aside0.mk (hbox); have GW109 := ag_ hg HB; have GE109 := ag_ hg HB; replace HB := ah_ HB hb; clear hb hbox hg; obtain ⟨Z133_0, Z133_1, F133⟩ := bc2 BK109.out; obtain ⟨Ao134, co134, eo134⟩ := Kd.R_slice HO107.out; subst eo134) | ((with_reducible refine gate_dst (N := 13) rfl ?_); (try (refine gate_guard (by rfl) ?_; dsimp only)); refine Kd.R_lit (Kd.int .i64) _ 3 ?hg (N := 13) ?hd (xs := ([0, 1] : List Int)) (inner := [.int .i64 0, .int .i64 1]) (ok := fun _ => True) (okp := fun _ => True) ?hr ?hp (fun _ hk => hk) trivial (Below.refl _ _) (Nat.le_refl _) (by simp) ?_; (case hd => rfl); (case hg => rfl); (case hr => first | (go_simp; done) | (go_simp; rfl)); (case hp => exact (Reps.one (show Kd.M (Kd.int .i64) _ _ _ 0 [.int .i64 0] from rfl) (Reps.one (show Kd.M (Kd.int .i64) _ _ _ 1 [.int .i64 1] from rfl) (Reps.none _ _)))); intro v111 w135 ho136 hb hg_ hnew_; clear hg_ hnew_; (first | rw [← Ny110.out] at ho136 | (simp only [Int.reduceToNat] at ho136; rw [← Ny110.out] at ho136)); have HO112 := Aside0.mk (Kd.R_lower (Kd.R_new' (Kd.R_new' ho136 (Kd.R_lt (by (with_reducible repeat (first | apply Kd.R_alloc | apply Kd.R_drewN | apply Kd.R_drew)); exact (Kd.R_mono (Kd.R_far (p := ⟨gb109, 1, none⟩) (Kd.R_far (p := ⟨gb109, 0, none⟩) (Kd.R_types HO103.out BK109.out (by decide)) (fun _ hk => hk.2) (.int .i64 t104)) (fun _ hk => hk.2) (.slice Ao134 t105.length co134)) (fun _ h_ => h_.1))))) (Kd.R_lt (by (with_reducible repeat (first | apply Kd.R_alloc | apply Kd.R_drewN | apply Kd.R_drew)); exact (Kd.R_mono (Kd.R_far (p := ⟨gb109, 1, none⟩) (Kd.R_far (p := ⟨gb109, 0, none⟩) (Kd.R_types HO107.out BK109.out (by decide)) (fun _ hk => hk.2) (.int .i64 t104)) (fun _ hk => hk.2) (.slice Ao134 t105.length co134)) (fun _ h_ => h_.1))))) (below_size (hs_))); replace HO103 := Aside0.mk (Kd.R_elder' (by (with_reducible repeat (first | apply Kd.R_alloc | apply Kd.R_drewN | apply Kd.R_drew)); exact (Kd.R_mono (Kd.R_far (p := ⟨gb109, 1, none⟩) (Kd.R_far (p := ⟨gb109, 0, none⟩) (Kd.R_types HO103.out BK109.out (by decide)) (fun _ hk => hk.2) (.int .i64 t104)) (fun _ hk => hk.2) (.slice Ao134 t105.length co134)) (fun _ h_ => h_.1))) (Kd.R_base ho136) hb); replace HO107 := Aside0.mk (Kd.R_elder' (by (with_reducible repeat (first | apply Kd.R_alloc | apply Kd.R_drewN | apply Kd.R_drew)); exact (Kd.R_mono (Kd.R_far (p := ⟨gb109, 1, none⟩) (Kd.R_far (p := ⟨gb109, 0, none⟩) (Kd.R_types HO107.out BK109.out (by decide)) (fun _ hk => hk.2) (.int .i64 t104)) (fun _ hk => hk.2) (.slice Ao134 t105.length co134)) (fun _ h_ => h_.1))) (Kd.R_base ho136) hb); replace BK109 := Aside0.mk (blk_below (g := gb109) (o := .cells #[.int .i64 t104, .slice Ao134 t105.length co134] 25 (0, 0)) (by have b_ := BK109; exact zb_) hb); replace HB := hbs_ hb; clear hb ho136; obtain ⟨Ao137, co137, eo137⟩ := Kd.R_slice HO112.out; subst eo137) | (have _t := tk21_; (with_reducible refine gate_callee (f := 8) rfl ?_); refine gl_ (some 14) Try.func8 #[.int .i64 2, .slice Ao137 y110.length co137] ?_; (with_reducible refine (bitmap_Of.calls k 2 _ _ y110 t113 t114 t117 _ ?side1 ?side2 A2.out).mono ?_); (case side1 => repeat (first | exact (Kd.R_reads' HO112.out).2.2 | (with_reducible refine Kd.C_alloc ?_ _) | (with_reducible refine Kd.C_drewN ?_ _) | (with_reducible refine Kd.C_drew ?_))); (case side2 => exact (Kd.R_reads' HO112.out).2.1); rintro e w138 ⟨v115, rfl, ho0, hb⟩; refine ⟨_, rfl, ?_⟩; have HO116 := Aside0.mk (Kd.R_lower (Kd.R_new' (Kd.R_new' (Kd.R_new' ho0 (Kd.R_lt (rk_ HO103.out))) (Kd.R_lt (rk_ HO107.out))) (Kd.R_lt (rk_ HO112.out))) (below_size (hs_))); replace HO103 := Aside0.mk (Kd.R_elder' (rk_ HO103.out) (Kd.R_base ho0) hb); replace HO107 := Aside0.mk (Kd.R_elder' (rk_ HO107.out) (Kd.R_base ho0) hb); replace HO112 := Aside0.mk (Kd.R_elder' (rk_ HO112.out) (Kd.R_base ho0) hb); replace BK109 := ab_ BK109 hb; replace HB := hbs_ hb; (try clear hb); (try clear hb2); (try clear hk); (try clear hi); (try clear ho0); clear tk21_) | ((with_reducible refine gate_dst (N := 3) rfl ?_); (try (refine gate_guard (by rfl) ?_; dsimp only)); refine be_ (cs := #[.int .i64 0, .slice none 0 0]) (t := 25) ?_; intro gb118 hg w139 hbox hb; replace HO103 := Aside0.mk (Kd.R_below (rk_ HO103.out) hb); replace HO107 := Aside0.mk (Kd.R_below (rk_ HO107.out) hb); replace HO112 := Aside0.mk (Kd.R_below (rk_ HO112.out) hb); replace HO116 := Aside0.mk (Kd.R_below (rk_ HO116.out) hb); have BK118 := Aside0.mk (hbox); have GW118 := Aside0.mk ((by rw [hg]; exact (below_size (hs_)) : w.heap.size ≤ gb118)); have GE118 := Aside0.mk ((by rw [hg]; exact (below_size (hs_)) : w.heap.size ≤ gb118)); replace HB := hbs_ hb; have NB109_118 := Aside0.mk (nl2_ hg BK109.out); have NB118_109 := Aside0.mk (ng2_ hg BK109.out); replace BK109 := ab_ BK109 hb; clear hb hbox hg; have hnb140 := NB118_109.out; have hnc140 := NB109_118.out; obtain ⟨Z141_0, Z141_1, F141⟩ := bc2 BK118.out; obtain ⟨Ao142, co142, eo142⟩ := Kd.R_slice HO116.out; subst eo142) | (have _t := tk22_; (with_reducible refine gate_callee (f := 8) rfl ?_); refine gl_ (some 18) Try.func8 #[.int .i64 3, .slice none 0 0] ?_; (refine (bitmap_Of.calls k 3 _ _ ([] : List Int) t119 t120 t123 _ ?side1 ?side2 A3.out).mono ?_); (case side1 => exact Kd.C_nil _ _); (case side2 => exact Nat.le_refl _); rintro e w143 ⟨v121, rfl, ho0, hb⟩; refine ⟨_, rfl, ?_⟩; have HO122 := Aside0.mk (Kd.R_lower (Kd.R_new' (Kd.R_new' (Kd.R_new' (Kd.R_new' ho0 (Kd.R_lt (by (with_reducible repeat (first | apply Kd.R_alloc | apply Kd.R_drewN | apply Kd.R_drew)); exact (Kd.R_mono (Kd.R_far (p := ⟨gb118, 1, none⟩) (Kd.R_far (p := ⟨gb118, 0, none⟩) (Kd.R_types HO103.out BK118.out (by decide)) (fun _ hk => hk.2) (.int .i64 t113)) (fun _ hk => hk.2) (.slice Ao142 t114.length co142)) (fun _ h_ => h_.1))))) (Kd.R_lt (by (with_reducible repeat (first | apply Kd.R_alloc | apply Kd.R_drewN | apply Kd.R_drew)); exact (Kd.R_mono (Kd.R_far (p := ⟨gb118, 1, none⟩) (Kd.R_far (p := ⟨gb118, 0, none⟩) (Kd.R_types HO107.out BK118.out (by decide)) (fun _ hk => hk.2) (.int .i64 t113)) (fun _ hk => hk.2) (.slice Ao142 t114.length co142)) (fun _ h_ => h_.1))))) (Kd.R_lt (by (with_reducible repeat (first | apply Kd.R_alloc | apply Kd.R_drewN | apply Kd.R_drew)); exact (Kd.R_mono (Kd.R_far (p := ⟨gb118, 1, none⟩) (Kd.R_far (p := ⟨gb118, 0, none⟩) (Kd.R_types HO112.out BK118.out (by decide)) (fun _ hk => hk.2) (.int .i64 t113)) (fun _ hk => hk.2) (.slice Ao142 t114.length co142)) (fun _ h_ => h_.1))))) (Kd.R_lt (by (with_reducible repeat (first | apply Kd.R_alloc | apply Kd.R_drewN | apply Kd.R_drew)); exact (Kd.R_mono (Kd.R_far (p := ⟨gb118, 1, none⟩) (Kd.R_far (p := ⟨gb118, 0, none⟩) (Kd.R_types HO116.out BK118.out (by decide)) (fun _ hk => hk.2) (.int .i64 t113)) (fun _ hk => hk.2) (.slice Ao142 t114.length co142)) (fun _ h_ => h_.1))))) (below_size (hs_))); replace HO103 := Aside0.mk (Kd.R_elder' (by (with_reducible repeat (first | apply Kd.R_alloc | apply Kd.R_drewN | apply Kd.R_drew)); exact (Kd.R_mono (Kd.R_far (p := ⟨gb118, 1, none⟩) (Kd.R_far (p := ⟨gb118, 0, none⟩) (Kd.R_types HO103.out BK118.out (by decide)) (fun _ hk => hk.2) (.int .i64 t113)) (fun _ hk => hk.2) (.slice Ao142 t114.length co142)) (fun _ h_ => h_.1))) (Kd.R_base ho0) hb); replace HO107 := Aside0.mk (Kd.R_elder' (by (with_reducible repeat (first | apply Kd.R_alloc | apply Kd.R_drewN | apply Kd.R_drew)); exact (Kd.R_mono (Kd.R_far (p := ⟨gb118, 1, none⟩) (Kd.R_far (p := ⟨gb118, 0, none⟩) (Kd.R_types HO107.out BK118.out (by decide)) (fun _ hk => hk.2) (.int .i64 t113)) (fun _ hk => hk.2) (.slice Ao142 t114.length co142)) (fun _ h_ => h_.1))) (Kd.R_base ho0) hb); replace HO112 := Aside0.mk (Kd.R_elder' (by (with_reducible repeat (first | apply Kd.R_alloc | apply Kd.R_drewN | apply Kd.R_drew)); exact (Kd.R_mono (Kd.R_far (p := ⟨gb118, 1, none⟩) (Kd.R_far (p := ⟨gb118, 0, none⟩) (Kd.R_types HO112.out BK118.out (by decide)) (fun _ hk => hk.2) (.int .i64 t113)) (fun _ hk => hk.2) (.slice Ao142 t114.length co142)) (fun _ h_ => h_.1))) (Kd.R_base ho0) hb); replace HO116 := Aside0.mk (Kd.R_elder' (by (with_reducible repeat (first | apply Kd.R_alloc | apply Kd.R_drewN | apply Kd.R_drew)); exact (Kd.R_mono (Kd.R_far (p := ⟨gb118, 1, none⟩) (Kd.R_far (p := ⟨gb118, 0, none⟩) (Kd.R_types HO116.out BK118.out (by decide)) (fun _ hk => hk.2) (.int .i64 t113)) (fun _ hk => hk.2) (.slice Ao142 t114.length co142)) (fun _ h_ => h_.1))) (Kd.R_base ho0) hb); replace BK109 := Aside0.mk (blk_below (g := gb109) (o := .cells #[.int .i64 t104, .slice Ao134 t105.length co134] 25 (0, 0)) (by have b_ := BK109; have f_ := NB109_118; exact zb_) hb); replace BK118 := Aside0.mk (blk_below (g := gb118) (o := .cells #[.int .i64 t113, .slice Ao142 t114.length co142] 25 (0, 0)) (by have b_ := BK118; exact zb_) hb); replace HB := hbs_ hb; (try clear hb); (try clear hb2); (try clear hk); (try clear hi); (try clear ho0); clear tk22_) | ((with_reducible refine gate_dst (N := 5) rfl ?_); (try (refine gate_guard (by rfl) ?_; dsimp only)); refine be_ (cs := #[.int .i64 0, .slice none 0 0]) (t := 25) ?_; intro gb124 hg w144 hbox hb; replace HO103 := Aside0.mk (Kd.R_below (rk_ HO103.out) hb); replace HO107 := Aside0.mk (Kd.R_below (rk_ HO107.out) hb); replace HO112 := Aside0.mk (Kd.R_below (rk_ HO112.out) hb); replace HO116 := Aside0.mk (Kd.R_below (rk_ HO116.out) hb); replace HO122 := Aside0.mk (Kd.R_below (rk_ HO122.out) hb); have BK124 := Aside0.mk (hbox); have GW124 := Aside0.mk ((by rw [hg]; exact (below_size (hs_)) : w.heap.size ≤ gb124)); have GE124 := Aside0.mk ((by rw [hg]; exact (below_size (hs_)) : w.heap.size ≤ gb124)); replace HB := hbs_ hb; have NB109_124 := Aside0.mk (nl2_ hg BK109.out); have NB124_109 := Aside0.mk (ng2_ hg BK109.out); replace BK109 := ab_ BK109 hb; have NB118_124 := Aside0.mk (nl2_ hg BK118.out); have NB124_118 := Aside0.mk (ng2_ hg BK118.out); replace BK118 := ab_ BK118 hb; clear hb hbox hg; have hnb145 := NB124_109.out; have hnc145 := NB109_124.out; have hnb146 := NB124_118.out; have hnc146 := NB118_124.out; obtain ⟨Z147_0, Z147_1, F147⟩ := bc2 BK124.out; obtain ⟨Ao148, co148, eo148⟩ := Kd.R_slice HO122.out; subst eo148; obtain ⟨Z149_0, Z149_1, F149⟩ := bc2 BK109.out) | ((with_reducible refine gate_dst (N := 26) rfl ?_); (try (refine gate_guard (by rfl) ?_; dsimp only)); refine Kd.R_lit (Kd.int .i64) _ 3 ?hg (N := 26) ?hd (xs := ([1, 2, 2] : List Int)) (inner := [.int .i64 1, .int .i64 2, .int .i64 2]) (ok := fun _ => True) (okp := fun _ => True) ?hr ?hp (fun _ hk => hk) trivial (Below.refl _ _) (Nat.le_refl _) (by simp) ?_; (case hd => rfl); (case hg => rfl); (case hr => first | (go_simp; done) | (go_simp; rfl)); (case hp => exact (Reps.one (show Kd.M (Kd.int .i64) _ _ _ 1 [.int .i64 1] from rfl) (Reps.one (show Kd.M (Kd.int .i64) _ _ _ 2 [.int .i64 2] from rfl) (Reps.one (show Kd.M (Kd.int .i64) _ _ _ 2 [.int .i64 2] from rfl) (Reps.none _ _))))); intro v126 w150 ho151 hb hg_ hnew_; clear hg_ hnew_; (first | rw [← Ny125.out] at ho151 | (simp only [Int.reduceToNat] at ho151; rw [← Ny125.out] at ho151)); have HO127 := Aside0.mk (Kd.R_lower (Kd.R_new' (Kd.R_new' (Kd.R_new' (Kd.R_new' (Kd.R_new' ho151 (Kd.R_lt (by (with_reducible repeat (first | apply Kd.R_alloc | apply Kd.R_drewN | apply Kd.R_drew)); exact (Kd.R_mono (Kd.R_far (p := ⟨gb124, 1, none⟩) (Kd.R_far (p := ⟨gb124, 0, none⟩) (Kd.R_types HO103.out BK124.out (by decide)) (fun _ hk => hk.2) (.int .i64 t119)) (fun _ hk => hk.2) (.slice Ao148 t120.length co148)) (fun _ h_ => h_.1))))) (Kd.R_lt (by (with_reducible repeat (first | apply Kd.R_alloc | apply Kd.R_drewN | apply Kd.R_drew)); exact (Kd.R_mono (Kd.R_far (p := ⟨gb124, 1, none⟩) (Kd.R_far (p := ⟨gb124, 0, none⟩) (Kd.R_types HO107.out BK124.out (by decide)) (fun _ hk => hk.2) (.int .i64 t119)) (fun _ hk => hk.2) (.slice Ao148 t120.length co148)) (fun _ h_ => h_.1))))) (Kd.R_lt (by (with_reducible repeat (first | apply Kd.R_alloc | apply Kd.R_drewN | apply Kd.R_drew)); exact (Kd.R_mono (Kd.R_far (p := ⟨gb124, 1, none⟩) (Kd.R_far (p := ⟨gb124, 0, none⟩) (Kd.R_types HO112.out BK124.out (by decide)) (fun _ hk => hk.2) (.int .i64 t119)) (fun _ hk => hk.2) (.slice Ao148 t120.length co148)) (fun _ h_ => h_.1))))) (Kd.R_lt (by (with_reducible repeat (first | apply Kd.R_alloc | apply Kd.R_drewN | apply Kd.R_drew)); exact (Kd.R_mono (Kd.R_far (p := ⟨gb124, 1, none⟩) (Kd.R_far (p := ⟨gb124, 0, none⟩) (Kd.R_types HO116.out BK124.out (by decide)) (fun _ hk => hk.2) (.int .i64 t119)) (fun _ hk => hk.2) (.slice Ao148 t120.length co148)) (fun _ h_ => h_.1))))) (Kd.R_lt (by (with_reducible repeat (first | apply Kd.R_alloc | apply Kd.R_drewN | apply Kd.R_drew)); exact (Kd.R_mono (Kd.R_far (p := ⟨gb124, 1, none⟩) (Kd.R_far (p := ⟨gb124, 0, none⟩) (Kd.R_types HO122.out BK124.out (by decide)) (fun _ hk => hk.2) (.int .i64 t119)) (fun _ hk => hk.2) (.slice Ao148 t120.length co148)) (fun _ h_ => h_.1))))) (below_size (hs_))); replace HO103 := Aside0.mk (Kd.R_elder' (by (with_reducible repeat (first | apply Kd.R_alloc | apply Kd.R_drewN | apply Kd.R_drew)); exact (Kd.R_mono (Kd.R_far (p := ⟨gb124, 1, none⟩) (Kd.R_far (p := ⟨gb124, 0, none⟩) (Kd.R_types HO103.out BK124.out (by decide)) (fun _ hk => hk.2) (.int .i64 t119)) (fun _ hk => hk.2) (.slice Ao148 t120.length co148)) (fun _ h_ => h_.1))) (Kd.R_base ho151) hb); replace HO107 := Aside0.mk (Kd.R_elder' (by (with_reducible repeat (first | apply Kd.R_alloc | apply Kd.R_drewN | apply Kd.R_drew)); exact (Kd.R_mono (Kd.R_far (p := ⟨gb124, 1, none⟩) (Kd.R_far (p := ⟨gb124, 0, none⟩) (Kd.R_types HO107.out BK124.out (by decide)) (fun _ hk => hk.2) (.int .i64 t119)) (fun _ hk => hk.2) (.slice Ao148 t120.length co148)) (fun _ h_ => h_.1))) (Kd.R_base ho151) hb); replace HO112 := Aside0.mk (Kd.R_elder' (by (with_reducible repeat (first | apply Kd.R_alloc | apply Kd.R_drewN | apply Kd.R_drew)); exact (Kd.R_mono (Kd.R_far (p := ⟨gb124, 1, none⟩) (Kd.R_far (p := ⟨gb124, 0, none⟩) (Kd.R_types HO112.out BK124.out (by decide)) (fun _ hk => hk.2) (.int .i64 t119)) (fun _ hk => hk.2) (.slice Ao148 t120.length co148)) (fun _ h_ => h_.1))) (Kd.R_base ho151) hb); replace HO116 := Aside0.mk (Kd.R_elder' (by (with_reducible repeat (first | apply Kd.R_alloc | apply Kd.R_drewN | apply Kd.R_drew)); exact (Kd.R_mono (Kd.R_far (p := ⟨gb124, 1, none⟩) (Kd.R_far (p := ⟨gb124, 0, none⟩) (Kd.R_types HO116.out BK124.out (by decide)) (fun _ hk => hk.2) (.int .i64 t119)) (fun _ hk => hk.2) (.slice Ao148 t120.length co148)) (fun _ h_ => h_.1))) (Kd.R_base ho151) hb); replace HO122 := Aside0.mk (Kd.R_elder' (by (with_reducible repeat (first | apply Kd.R_alloc | apply Kd.R_drewN | apply Kd.R_drew)); exact (Kd.R_mono (Kd.R_far (p := ⟨gb124, 1, none⟩) (Kd.R_far (p := ⟨gb124, 0, none⟩) (Kd.R_types HO122.out BK124.out (by decide)) (fun _ hk => hk.2) (.int .i64 t119)) (fun _ hk => hk.2) (.slice Ao148 t120.length co148)) (fun _ h_ => h_.1))) (Kd.R_base ho151) hb); replace BK109 := Aside0.mk (blk_below (g := gb109) (o := .cells #[.int .i64 t104, .slice Ao134 t105.length co134] 25 (0, 0)) (by have b_ := BK109; have f_ := NB109_124; exact zb_) hb); replace BK118 := Aside0.mk (blk_below (g := gb118) (o := .cells #[.int .i64 t113, .slice Ao142 t114.length co142] 25 (0, 0)) (by have b_ := BK118; have f_ := NB118_124; exact zb_) hb); replace BK124 := Aside0.mk (blk_below (g := gb124) (o := .cells #[.int .i64 t119, .slice Ao148 t120.length co148] 25 (0, 0)) (by have b_ := BK124; exact zb_) hb); replace HB := hbs_ hb; clear hb ho151; obtain ⟨Ao152, co152, eo152⟩ := Kd.R_slice HO127.out; subst eo152) | (go_at_call 11; (with_reducible refine (graftageref27_Ints.calls k _ _ t105 _ _ y125 false _ ?side1 ?side2 ?side3 ?side4 A5.out).mono ?_); (case side1 => repeat (first | exact (Kd.R_reads' HO107.out).2.2 | (with_reducible refine Kd.C_alloc ?_ _) | (with_reducible refine Kd.C_drewN ?_ _) | (with_reducible refine Kd.C_drew ?_))); (case side2 => exact (Kd.R_reads' HO107.out).2.1); (case side3 => repeat (first | exact (Kd.R_reads' HO127.out).2.2 | (with_reducible refine Kd.C_alloc ?_ _) | (with_reducible refine Kd.C_drewN ?_ _) | (with_reducible refine Kd.C_drew ?_))); (case side4 => exact (Kd.R_reads' HO127.out).2.1); rintro e w' ⟨rfl, ⟨nd, rfl⟩⟩))
  go_ret
  exact ⟨z3_, hs_⟩
 subst c6; rw [if_pos rfl] at H; by_cases c7 : t117 = 0; rotate_left
 ·rw [if_neg c7] at H; have c7b0 := ef_ c7; have c7b1 := nt_ c7; obtain rfl := oi_ H; go_enter Try.func7, Try.ntmps7; have tk17_ : True := trivial; have tk18_ : True := trivial; have tk19_ : True := trivial; go_wp2_with (first | ((with_reducible refine gate_dst (N := 8) rfl ?_); (try (refine gate_guard (by rfl) ?_; dsimp only)); refine Kd.R_lit (Kd.int .i64) _ 3 ?hg (N := 8) ?hd (xs := ([2, 1] : List Int)) (inner := [.int .i64 2, .int .i64 1]) (ok := fun _ => True) (okp := fun _ => True) ?hr ?hp (fun _ hk => hk) trivial (Below.refl _ _) (Nat.le_refl _) (by simp) ?_; (case hd => rfl); (case hg => rfl); (case hr => first | (go_simp; done) | (go_simp; rfl)); (case hp => exact (Reps.one (show Kd.M (Kd.int .i64) _ _ _ 2 [.int .i64 2] from rfl) (Reps.one (show Kd.M (Kd.int .i64) _ _ _ 1 [.int .i64 1] from rfl) (Reps.none _ _)))); intro v102 w103 ho104 hb hg_ hnew_; clear hg_ hnew_; (first | rw [← Ny101.out] at ho104 | (simp only [Int.reduceToNat] at ho104; rw [← Ny101.out] at ho104)); have HO103 := Aside0.mk (Kd.R_lower ho104 (below_size (hb_ HB.out))); replace HB := ah_ HB hb; clear hb ho104; obtain ⟨Ao105, co105, eo105⟩ := Kd.R_slice HO103.out; subst eo105) | (have _t := tk17_; (with_reducible refine gate_callee (f := 8) rfl ?_); refine gl_ (some 9) Try.func8 #[.int .i64 5, .slice Ao105 y101.length co105] ?_; (with_reducible refine (bitmap_Of.calls k 5 _ _ y101 t104 t105 t108 _ ?side1 ?side2 A1.out).mono ?_); (case side1 => repeat (first | exact (Kd.R_reads' HO103.out).2.2 | (with_reducible refine Kd.C_alloc ?_ _) | (with_reducible refine Kd.C_drewN ?_ _) | (with_reducible refine Kd.C_drew ?_))); (case side2 => exact (Kd.R_reads' HO103.out).2.1); rintro e w106 ⟨v106, rfl, ho0, hb⟩; refine ⟨_, rfl, ?_⟩; have HO107 := Aside0.mk (Kd.R_lower (Kd.R_new' ho0 (Kd.R_lt (rk_ HO103.out))) (below_size (hb_ HB.out))); replace HO103 := Aside0.mk (Kd.R_elder' (rk_ HO103.out) (Kd.R_base ho0) hb); replace HB := ah_ HB hb; (try clear hb); (try clear hb2); (try clear hk); (try clear hi); (try clear ho0); clear tk17_) | ((with_reducible refine gate_dst (N := 1) rfl ?_); (try (refine gate_guard (by rfl) ?_; dsimp only)); refine be_ (cs := #[.int .i64 0, .slice none 0 0]) (t := 25) ?_; intro gb109 hg w107 hbox hb; replace HO103 := Aside0.mk (Kd.R_below (rk_ HO103.out) hb); replace HO107 := Aside0.mk (Kd.R_below (rk_ HO107.out) hb); have BK109 := Aside0.mk (hbox); have GW109 := ag_ hg HB; have GE109 := ag_ hg HB; replace HB := ah_ HB hb; clear hb hbox hg; obtain ⟨Z108_0, Z108_1, F108⟩ := bc2 BK109.out; obtain ⟨Ao109, co109, eo109⟩ := Kd.R_slice HO107.out; subst eo109) | ((with_reducible refine gate_dst (N := 13) rfl ?_); (try (refine gate_guard (by rfl) ?_; dsimp only)); refine Kd.R_lit (Kd.int .i64) _ 3 ?hg (N := 13) ?hd (xs := ([0, 1] : List Int)) (inner := [.int .i64 0, .int .i64 1]) (ok := fun _ => True) (okp := fun _ => True) ?hr ?hp (fun _ hk => hk) trivial (Below.refl _ _) (Nat.le_refl _) (by simp) ?_; (case hd => rfl); (case hg => rfl); (case hr => first | (go_simp; done) | (go_simp; rfl)); (case hp => exact (Reps.one (show Kd.M (Kd.int .i64) _ _ _ 0 [.int .i64 0] from rfl) (Reps.one (show Kd.M (Kd.int .i64) _ _ _ 1 [.int .i64 1] from rfl) (Reps.none _ _)))); intro v111 w110 ho111 hb hg_ hnew_; clear hg_ hnew_; (first | rw [← Ny110.out] at ho111 | (simp only [Int.reduceToNat] at ho111; rw [← Ny110.out] at ho111)); have HO112 := Aside0.mk (Kd.R_lower (Kd.R_new' (Kd.R_new' ho111 (Kd.R_lt (by (with_reducible repeat (first | apply Kd.R_alloc | apply Kd.R_drewN | apply Kd.R_drew)); exact (Kd.R_mono (Kd.R_far (p := ⟨gb109, 1, none⟩) (Kd.R_far (p := ⟨gb109, 0, none⟩) (Kd.R_types HO103.out BK109.out (by decide)) (fun _ hk => hk.2) (.int .i64 t104)) (fun _ hk => hk.2) (.slice Ao109 t105.length co109)) (fun _ h_ => h_.1))))) (Kd.R_lt (by (with_reducible repeat (first | apply Kd.R_alloc | apply Kd.R_drewN | apply Kd.R_drew)); exact (Kd.R_mono (Kd.R_far (p := ⟨gb109, 1, none⟩) (Kd.R_far (p := ⟨gb109, 0, none⟩) (Kd.R_types HO107.out BK109.out (by decide)) (fun _ hk => hk.2) (.int .i64 t104)) (fun _ hk => hk.2) (.slice Ao109 t105.length co109)) (fun _ h_ => h_.1))))) (below_size (hs_))); replace HO103 := Aside0.mk (Kd.R_elder' (by (with_reducible repeat (first | apply Kd.R_alloc | apply Kd.R_drewN | apply Kd.R_drew)); exact (Kd.R_mono (Kd.R_far (p := ⟨gb109, 1, none⟩) (Kd.R_far (p := ⟨gb109, 0, none⟩) (Kd.R_types HO103.out BK109.out (by decide)) (fun _ hk => hk.2) (.int .i64 t104)) (fun _ hk => hk.2) (.slice Ao109 t105.length co109)) (fun _ h_ => h_.1))) (Kd.R_base ho111) hb); replace HO107 := Aside0.mk (Kd.R_elder' (by (with_reducible repeat (first | apply Kd.R_alloc | apply Kd.R_drewN | apply Kd.R_drew)); exact (Kd.R_mono (Kd.R_far (p := ⟨gb109, 1, none⟩) (Kd.R_far (p := ⟨gb109, 0, none⟩) (Kd.R_types HO107.out BK109.out (by decide)) (fun _ hk => hk.2) (.int .i64 t104)) (fun _ hk => hk.2) (.slice Ao109 t105.length co109)) (fun _ h_ => h_.1))) (Kd.R_base ho111) hb); replace BK109 := Aside0.mk (blk_below (g := gb109) (o := .cells #[.int .i64 t104, .slice Ao109 t105.length co109] 25 (0, 0)) (by have b_ := BK109; exact zb_) hb); replace HB := hbs_ hb; clear hb ho111; obtain ⟨Ao112, co112, eo112⟩ := Kd.R_slice HO112.out; subst eo112) | (have _t := tk18_; (with_reducible refine gate_callee (f := 8) rfl ?_); refine gl_ (some 14) Try.func8 #[.int .i64 2, .slice Ao112 y110.length co112] ?_; (with_reducible refine (bitmap_Of.calls k 2 _ _ y110 t113 t114 t117 _ ?side1 ?side2 A2.out).mono ?_); (case side1 => repeat (first | exact (Kd.R_reads' HO112.out).2.2 | (with_reducible refine Kd.C_alloc ?_ _) | (with_reducible refine Kd.C_drewN ?_ _) | (with_reducible refine Kd.C_drew ?_))); (case side2 => exact (Kd.R_reads' HO112.out).2.1); rintro e w113 ⟨v115, rfl, ho0, hb⟩; refine ⟨_, rfl, ?_⟩; have HO116 := Aside0.mk (Kd.R_lower (Kd.R_new' (Kd.R_new' (Kd.R_new' ho0 (Kd.R_lt (rk_ HO103.out))) (Kd.R_lt (rk_ HO107.out))) (Kd.R_lt (rk_ HO112.out))) (below_size (hs_))); replace HO103 := Aside0.mk (Kd.R_elder' (rk_ HO103.out) (Kd.R_base ho0) hb); replace HO107 := Aside0.mk (Kd.R_elder' (rk_ HO107.out) (Kd.R_base ho0) hb); replace HO112 := Aside0.mk (Kd.R_elder' (rk_ HO112.out) (Kd.R_base ho0) hb); replace BK109 := ab_ BK109 hb; replace HB := hbs_ hb; (try clear hb); (try clear hb2); (try clear hk); (try clear hi); (try clear ho0); clear tk18_) | ((with_reducible refine gate_dst (N := 3) rfl ?_); (try (refine gate_guard (by rfl) ?_; dsimp only)); refine be_ (cs := #[.int .i64 0, .slice none 0 0]) (t := 25) ?_; intro gb118 hg w114 hbox hb; replace HO103 := Aside0.mk (Kd.R_below (rk_ HO103.out) hb); replace HO107 := Aside0.mk (Kd.R_below (rk_ HO107.out) hb); replace HO112 := Aside0.mk (Kd.R_below (rk_ HO112.out) hb); replace HO116 := Aside0.mk (Kd.R_below (rk_ HO116.out) hb); have BK118 := Aside0.mk (hbox); have GW118 := Aside0.mk ((by rw [hg]; exact (below_size (hs_)) : w.heap.size ≤ gb118)); have GE118 := Aside0.mk ((by rw [hg]; exact (below_size (hs_)) : w.heap.size ≤ gb118)); replace HB := hbs_ hb; have NB109_118 := Aside0.mk (nl2_ hg BK109.out); have NB118_109 := Aside0.mk (ng2_ hg BK109.out); replace BK109 := ab_ BK109 hb; clear hb hbox hg; have hnb115 := NB118_109.out; have hnc115 := NB109_118.out; obtain ⟨Z116_0, Z116_1, F116⟩ := bc2 BK118.out; obtain ⟨Ao117, co117, eo117⟩ := Kd.R_slice HO116.out; subst eo117) | (have _t := tk19_; (with_reducible refine gate_callee (f := 8) rfl ?_); refine gl_ (some 18) Try.func8 #[.int .i64 3, .slice none 0 0] ?_; (refine (bitmap_Of.calls k 3 _ _ ([] : List Int) t119 t120 t123 _ ?side1 ?side2 A3.out).mono ?_); (case side1 => exact Kd.C_nil _ _); (case side2 => exact Nat.le_refl _); rintro e w118 ⟨v121, rfl, ho0, hb⟩; refine ⟨_, rfl, ?_⟩; have HO122 := Aside0.mk (Kd.R_lower (Kd.R_new' (Kd.R_new' (Kd.R_new' (Kd.R_new' ho0 (Kd.R_lt (by (with_reducible repeat (first | apply Kd.R_alloc | apply Kd.R_drewN | apply Kd.R_drew)); exact (Kd.R_mono (Kd.R_far (p := ⟨gb118, 1, none⟩) (Kd.R_far (p := ⟨gb118, 0, none⟩) (Kd.R_types HO103.out BK118.out (by decide)) (fun _ hk => hk.2) (.int .i64 t113)) (fun _ hk => hk.2) (.slice Ao117 t114.length co117)) (fun _ h_ => h_.1))))) (Kd.R_lt (by (with_reducible repeat (first | apply Kd.R_alloc | apply Kd.R_drewN | apply Kd.R_drew)); exact (Kd.R_mono (Kd.R_far (p := ⟨gb118, 1, none⟩) (Kd.R_far (p := ⟨gb118, 0, none⟩) (Kd.R_types HO107.out BK118.out (by decide)) (fun _ hk => hk.2) (.int .i64 t113)) (fun _ hk => hk.2) (.slice Ao117 t114.length co117)) (fun _ h_ => h_.1))))) (Kd.R_lt (by (with_reducible repeat (first | apply Kd.R_alloc | apply Kd.R_drewN | apply Kd.R_drew)); exact (Kd.R_mono (Kd.R_far (p := ⟨gb118, 1, none⟩) (Kd.R_far (p := ⟨gb118, 0, none⟩) (Kd.R_types HO112.out BK118.out (by decide)) (fun _ hk => hk.2) (.int .i64 t113)) (fun _ hk => hk.2) (.slice Ao117 t114.length co117)) (fun _ h_ => h_.1))))) (Kd.R_lt (by (with_reducible repeat (first | apply Kd.R_alloc | apply Kd.R_drewN | apply Kd.R_drew)); exact (Kd.R_mono (Kd.R_far (p := ⟨gb118, 1, none⟩) (Kd.R_far (p := ⟨gb118, 0, none⟩) (Kd.R_types HO116.out BK118.out (by decide)) (fun _ hk => hk.2) (.int .i64 t113)) (fun _ hk => hk.2) (.slice Ao117 t114.length co117)) (fun _ h_ => h_.1))))) (below_size (hs_))); replace HO103 := Aside0.mk (Kd.R_elder' (by (with_reducible repeat (first | apply Kd.R_alloc | apply Kd.R_drewN | apply Kd.R_drew)); exact (Kd.R_mono (Kd.R_far (p := ⟨gb118, 1, none⟩) (Kd.R_far (p := ⟨gb118, 0, none⟩) (Kd.R_types HO103.out BK118.out (by decide)) (fun _ hk => hk.2) (.int .i64 t113)) (fun _ hk => hk.2) (.slice Ao117 t114.length co117)) (fun _ h_ => h_.1))) (Kd.R_base ho0) hb); replace HO107 := Aside0.mk (Kd.R_elder' (by (with_reducible repeat (first | apply Kd.R_alloc | apply Kd.R_drewN | apply Kd.R_drew)); exact (Kd.R_mono (Kd.R_far (p := ⟨gb118, 1, none⟩) (Kd.R_far (p := ⟨gb118, 0, none⟩) (Kd.R_types HO107.out BK118.out (by decide)) (fun _ hk => hk.2) (.int .i64 t113)) (fun _ hk => hk.2) (.slice Ao117 t114.length co117)) (fun _ h_ => h_.1))) (Kd.R_base ho0) hb); replace HO112 := Aside0.mk (Kd.R_elder' (by (with_reducible repeat (first | apply Kd.R_alloc | apply Kd.R_drewN | apply Kd.R_drew)); exact (Kd.R_mono (Kd.R_far (p := ⟨gb118, 1, none⟩) (Kd.R_far (p := ⟨gb118, 0, none⟩) (Kd.R_types HO112.out BK118.out (by decide)) (fun _ hk => hk.2) (.int .i64 t113)) (fun _ hk => hk.2) (.slice Ao117 t114.length co117)) (fun _ h_ => h_.1))) (Kd.R_base ho0) hb); replace HO116 := Aside0.mk (Kd.R_elder' (by (with_reducible repeat (first | apply Kd.R_alloc | apply Kd.R_drewN | apply Kd.R_drew)); exact (Kd.R_mono (Kd.R_far (p := ⟨gb118, 1, none⟩) (Kd.R_far (p := ⟨gb118, 0, none⟩) (Kd.R_types HO116.out BK118.out (by decide)) (fun _ hk => hk.2) (.int .i64 t113)) (fun _ hk => hk.2) (.slice Ao117 t114.length co117)) (fun _ h_ => h_.1))) (Kd.R_base ho0) hb); replace BK109 := Aside0.mk (blk_below (g := gb109) (o := .cells #[.int .i64 t104, .slice Ao109 t105.length co109] 25 (0, 0)) (by have b_ := BK109; have f_ := NB109_118; exact zb_) hb); replace BK118 := Aside0.mk (blk_below (g := gb118) (o := .cells #[.int .i64 t113, .slice Ao117 t114.length co117] 25 (0, 0)) (by have b_ := BK118; exact zb_) hb); replace HB := hbs_ hb; (try clear hb); (try clear hb2); (try clear hk); (try clear hi); (try clear ho0); clear tk19_) | ((with_reducible refine gate_dst (N := 5) rfl ?_); (try (refine gate_guard (by rfl) ?_; dsimp only)); refine be_ (cs := #[.int .i64 0, .slice none 0 0]) (t := 25) ?_; intro gb124 hg w119 hbox hb; replace HO103 := Aside0.mk (Kd.R_below (rk_ HO103.out) hb); replace HO107 := Aside0.mk (Kd.R_below (rk_ HO107.out) hb); replace HO112 := Aside0.mk (Kd.R_below (rk_ HO112.out) hb); replace HO116 := Aside0.mk (Kd.R_below (rk_ HO116.out) hb); replace HO122 := Aside0.mk (Kd.R_below (rk_ HO122.out) hb); have BK124 := Aside0.mk (hbox); have GW124 := Aside0.mk ((by rw [hg]; exact (below_size (hs_)) : w.heap.size ≤ gb124)); have GE124 := Aside0.mk ((by rw [hg]; exact (below_size (hs_)) : w.heap.size ≤ gb124)); replace HB := hbs_ hb; have NB109_124 := Aside0.mk (nl2_ hg BK109.out); have NB124_109 := Aside0.mk (ng2_ hg BK109.out); replace BK109 := ab_ BK109 hb; have NB118_124 := Aside0.mk (nl2_ hg BK118.out); have NB124_118 := Aside0.mk (ng2_ hg BK118.out); replace BK118 := ab_ BK118 hb; clear hb hbox hg; have hnb120 := NB124_109.out; have hnc120 := NB109_124.out; have hnb121 := NB124_118.out; have hnc121 := NB118_124.out; obtain ⟨Z122_0, Z122_1, F122⟩ := bc2 BK124.out; obtain ⟨Ao123, co123, eo123⟩ := Kd.R_slice HO122.out; subst eo123; obtain ⟨Z124_0, Z124_1, F124⟩ := bc2 BK109.out) | ((with_reducible refine gate_dst (N := 26) rfl ?_); (try (refine gate_guard (by rfl) ?_; dsimp only)); refine Kd.R_lit (Kd.int .i64) _ 3 ?hg (N := 26) ?hd (xs := ([1, 2, 2] : List Int)) (inner := [.int .i64 1, .int .i64 2, .int .i64 2]) (ok := fun _ => True) (okp := fun _ => True) ?hr ?hp (fun _ hk => hk) trivial (Below.refl _ _) (Nat.le_refl _) (by simp) ?_; (case hd => rfl); (case hg => rfl); (case hr => first | (go_simp; done) | (go_simp; rfl)); (case hp => exact (Reps.one (show Kd.M (Kd.int .i64) _ _ _ 1 [.int .i64 1] from rfl) (Reps.one (show Kd.M (Kd.int .i64) _ _ _ 2 [.int .i64 2] from rfl) (Reps.one (show Kd.M (Kd.int .i64) _ _ _ 2 [.int .i64 2] from rfl) (Reps.none _ _))))); intro v126 w125 ho126 hb hg_ hnew_; clear hg_ hnew_; (first | rw [← Ny125.out] at ho126 | (simp only [Int.reduceToNat] at ho126; rw [← Ny125.out] at ho126)); have HO127 := Aside0.mk (Kd.R_lower (Kd.R_new' (Kd.R_new' (Kd.R_new' (Kd.R_new' (Kd.R_new' ho126 (Kd.R_lt (by (with_reducible repeat (first | apply Kd.R_alloc | apply Kd.R_drewN | apply Kd.R_drew)); exact (Kd.R_mono (Kd.R_far (p := ⟨gb124, 1, none⟩) (Kd.R_far (p := ⟨gb124, 0, none⟩) (Kd.R_types HO103.out BK124.out (by decide)) (fun _ hk => hk.2) (.int .i64 t119)) (fun _ hk => hk.2) (.slice Ao123 t120.length co123)) (fun _ h_ => h_.1))))) (Kd.R_lt (by (with_reducible repeat (first | apply Kd.R_alloc | apply Kd.R_drewN | apply Kd.R_drew)); exact (Kd.R_mono (Kd.R_far (p := ⟨gb124, 1, none⟩) (Kd.R_far (p := ⟨gb124, 0, none⟩) (Kd.R_types HO107.out BK124.out (by decide)) (fun _ hk => hk.2) (.int .i64 t119)) (fun _ hk => hk.2) (.slice Ao123 t120.length co123)) (fun _ h_ => h_.1))))) (Kd.R_lt (by (with_reducible repeat (first | apply Kd.R_alloc | apply Kd.R_drewN | apply Kd.R_drew)); exact (Kd.R_mono (Kd.R_far (p := ⟨gb124, 1, none⟩) (Kd.R_far (p := ⟨gb124, 0, none⟩) (Kd.R_types HO112.out BK124.out (by decide)) (fun _ hk => hk.2) (.int .i64 t119)) (fun _ hk => hk.2) (.slice Ao123 t120.length co123)) (fun _ h_ => h_.1))))) (Kd.R_lt (by (with_reducible repeat (first | apply Kd.R_alloc | apply Kd.R_drewN | apply Kd.R_drew)); exact (Kd.R_mono (Kd.R_far (p := ⟨gb124, 1, none⟩) (Kd.R_far (p := ⟨gb124, 0, none⟩) (Kd.R_types HO116.out BK124.out (by decide)) (fun _ hk => hk.2) (.int .i64 t119)) (fun _ hk => hk.2) (.slice Ao123 t120.length co123)) (fun _ h_ => h_.1))))) (Kd.R_lt (by (with_reducible repeat (first | apply Kd.R_alloc | apply Kd.R_drewN | apply Kd.R_drew)); exact (Kd.R_mono (Kd.R_far (p := ⟨gb124, 1, none⟩) (Kd.R_far (p := ⟨gb124, 0, none⟩) (Kd.R_types HO122.out BK124.out (by decide)) (fun _ hk => hk.2) (.int .i64 t119)) (fun _ hk => hk.2) (.slice Ao123 t120.length co123)) (fun _ h_ => h_.1))))) (below_size (hs_))); replace HO103 := Aside0.mk (Kd.R_elder' (by (with_reducible repeat (first | apply Kd.R_alloc | apply Kd.R_drewN | apply Kd.R_drew)); exact (Kd.R_mono (Kd.R_far (p := ⟨gb124, 1, none⟩) (Kd.R_far (p := ⟨gb124, 0, none⟩) (Kd.R_types HO103.out BK124.out (by decide)) (fun _ hk => hk.2) (.int .i64 t119)) (fun _ hk => hk.2) (.slice Ao123 t120.length co123)) (fun _ h_ => h_.1))) (Kd.R_base ho126) hb); replace HO107 := Aside0.mk (Kd.R_elder' (by (with_reducible repeat (first | apply Kd.R_alloc | apply Kd.R_drewN | apply Kd.R_drew)); exact (Kd.R_mono (Kd.R_far (p := ⟨gb124, 1, none⟩) (Kd.R_far (p := ⟨gb124, 0, none⟩) (Kd.R_types HO107.out BK124.out (by decide)) (fun _ hk => hk.2) (.int .i64 t119)) (fun _ hk => hk.2) (.slice Ao123 t120.length co123)) (fun _ h_ => h_.1))) (Kd.R_base ho126) hb); replace HO112 := Aside0.mk (Kd.R_elder' (by (with_reducible repeat (first | apply Kd.R_alloc | apply Kd.R_drewN | apply Kd.R_drew)); exact (Kd.R_mono (Kd.R_far (p := ⟨gb124, 1, none⟩) (Kd.R_far (p := ⟨gb124, 0, none⟩) (Kd.R_types HO112.out BK124.out (by decide)) (fun _ hk => hk.2) (.int .i64 t119)) (fun _ hk => hk.2) (.slice Ao123 t120.length co123)) (fun _ h_ => h_.1))) (Kd.R_base ho126) hb); replace HO116 := Aside0.mk (Kd.R_elder' (by (with_reducible repeat (first | apply Kd.R_alloc | apply Kd.R_drewN | apply Kd.R_drew)); exact (Kd.R_mono (Kd.R_far (p := ⟨gb124, 1, none⟩) (Kd.R_far (p := ⟨gb124, 0, none⟩) (Kd.R_types HO116.out BK124.out (by decide)) (fun _ hk => hk.2) (.int .i64 t119)) (fun _ hk => hk.2) (.slice Ao123 t120.length co123)) (fun _ h_ => h_.1))) (Kd.R_base ho126) hb); replace HO122 := Aside0.mk (Kd.R_elder' (by (with_reducible repeat (first | apply Kd.R_alloc | apply Kd.R_drewN | apply Kd.R_drew)); exact (Kd.R_mono (Kd.R_far (p := ⟨gb124, 1, none⟩) (Kd.R_far (p := ⟨gb124, 0, none⟩) (Kd.R_types HO122.out BK124.out (by decide)) (fun _ hk => hk.2) (.int .i64 t119)) (fun _ hk => hk.2) (.slice Ao123 t120.length co123)) (fun _ h_ => h_.1))) (Kd.R_base ho126) hb); replace BK109 := Aside0.mk (blk_below (g := gb109) (o := .cells #[.int .i64 t104, .slice Ao109 t105.length co109] 25 (0, 0)) (by have b_ := BK109; have f_ := NB109_124; exact zb_) hb); replace BK118 := Aside0.mk (blk_below (g := gb118) (o := .cells #[.int .i64 t113, .slice Ao117 t114.length co117] 25 (0, 0)) (by have b_ := BK118; have f_ := NB118_124; exact zb_) hb); replace BK124 := Aside0.mk (blk_below (g := gb124) (o := .cells #[.int .i64 t119, .slice Ao123 t120.length co123] 25 (0, 0)) (by have b_ := BK124; exact zb_) hb); replace HB := hbs_ hb; clear hb ho126; obtain ⟨Ao127, co127, eo127⟩ := Kd.R_slice HO127.out; subst eo127) | (go_at_call 11; (with_reducible refine (graftageref27_Ints.calls k _ _ t105 _ _ y125 true _ ?side1 ?side2 ?side3 ?side4 A5.out).mono ?_); (case side1 => repeat (first | exact (Kd.R_reads' HO107.out).2.2 | (with_reducible refine Kd.C_alloc ?_ _) | (with_reducible refine Kd.C_drewN ?_ _) | (with_reducible refine Kd.C_drew ?_))); (case side2 => exact (Kd.R_reads' HO107.out).2.1); (case side3 => repeat (first | exact (Kd.R_reads' HO127.out).2.2 | (with_reducible refine Kd.C_alloc ?_ _) | (with_reducible refine Kd.C_drewN ?_ _) | (with_reducible refine Kd.C_drew ?_))); (case side4 => exact (Kd.R_reads' HO127.out).2.1); rintro e w' ⟨rfl, ⟨nd, rfl⟩⟩))
  go_ret
  exact ⟨z3_, hs_⟩
 rw [if_pos c7] at H; have c7b0 := et_ c7; have c7b1 := nf_ c7; clear c7; obtain ⟨y129, hy129⟩ : ∃ y_ : List Int, y_ = (([0, 2] : List Int)) := ⟨_, rfl⟩; replace H : ((graftageref27_Ints.f k t114 y129).bind fun t132 => (if t132 = true then (if t123 = 0 then ((graftageref27_Ints.f k t120 (([3] : List Int))).bind fun t136 => (some t136)) else (some false)) else (some false))) = some r := by first | (rw [hy129]; with_reducible exact H) | (have H2_ := (Option.bind_some _ _).symm.trans H; rw [hy129]; with_reducible exact H2_) | (have H2_ := (Option.bind_some _ _).symm.trans H; with_reducible exact H2_) | with_reducible exact H | (rw [hy129]; exact H) | exact H
 have Ny129 := Aside0.mk hy129; clear hy129; obtain ⟨t132, A8, H⟩ := bx_ H; by_cases c9 : t132 = true; rotate_left
 ·replace c9 := Bool.eq_false_iff.mpr c9; subst c9; rw [if_neg nft_] at H; obtain rfl := oi_ H; go_enter Try.func7, Try.ntmps7; have tk12_ : True := trivial; have tk13_ : True := trivial; have tk14_ : True := trivial; have tk15_ : True := trivial; have tk16_ : True := trivial; go_wp2_with (first | ((with_reducible refine gate_dst (N := 8) rfl ?_); (try (refine gate_guard (by rfl) ?_; dsimp only)); refine Kd.R_lit (Kd.int .i64) _ 3 ?hg (N := 8) ?hd (xs := ([2, 1] : List Int)) (inner := [.int .i64 2, .int .i64 1]) (ok := fun _ => True) (okp := fun _ => True) ?hr ?hp (fun _ hk => hk) trivial (Below.refl _ _) (Nat.le_refl _) (by simp) ?_; (case hd => rfl); (case hg => rfl); (case hr => first | (go_simp; done) | (go_simp; rfl)); (case hp => exact (Reps.one (show Kd.M (Kd.int .i64) _ _ _ 2 [.int .i64 2] from rfl) (Reps.one (show Kd.M (Kd.int .i64) _ _ _ 1 [.int .i64 1] from rfl) (Reps.none _ _)))); intro v102 w74 ho75 hb hg_ hnew_; clear hg_ hnew_; (first | rw [← Ny101.out] at ho75 | (simp only [Int.reduceToNat] at ho75; rw [← Ny101.out] at ho75)); have HO103 := Aside0.mk (Kd.R_lower ho75 (below_size (hb_ HB.out))); replace HB := ah_ HB hb; clear hb ho75; obtain ⟨Ao76, co76, eo76⟩ := Kd.R_slice HO103.out; subst eo76) | (have _t := tk12_; (with_reducible refine gate_callee (f := 8) rfl ?_); refine gl_ (some 9) Try.func8 #[.int .i64 5, .slice Ao76 y101.length co76] ?_; (with_reducible refine (bitmap_Of.calls k 5 _ _ y101 t104 t105 t108 _ ?side1 ?side2 A1.out).mono ?_); (case side1 => repeat (first | exact (Kd.R_reads' HO103.out).2.2 | (with_reducible refine Kd.C_alloc ?_ _) | (with_reducible refine Kd.C_drewN ?_ _) | (with_reducible refine Kd.C_drew ?_))); (case side2 => exact (Kd.R_reads' HO103.out).2.1); rintro e w77 ⟨v106, rfl, ho0, hb⟩; refine ⟨_, rfl, ?_⟩; have HO107 := Aside0.mk (Kd.R_lower (Kd.R_new' ho0 (Kd.R_lt (rk_ HO103.out))) (below_size (hb_ HB.out))); replace HO103 := Aside0.mk (Kd.R_elder' (rk_ HO103.out) (Kd.R_base ho0) hb); replace HB := ah_ HB hb; (try clear hb); (try clear hb2); (try clear hk); (try clear hi); (try clear ho0); clear tk12_) | ((with_reducible refine gate_dst (N := 1) rfl ?_); (try (refine gate_guard (by rfl) ?_; dsimp only)); refine be_ (cs := #[.int .i64 0, .slice none 0 0]) (t := 25) ?_; intro gb109 hg w78 hbox hb; replace HO103 := Aside0.mk (Kd.R_below (rk_ HO103.out) hb); replace HO107 := Aside0.mk (Kd.R_below (rk_ HO107.out) hb); have BK109 := Aside0.mk (hbox); have GW109 := ag_ hg HB; have GE109 := ag_ hg HB; replace HB := ah_ HB hb; clear hb hbox hg; obtain ⟨Z79_0, Z79_1, F79⟩ := bc2 BK109.out; obtain ⟨Ao80, co80, eo80⟩ := Kd.R_slice HO107.out; subst eo80) | ((with_reducible refine gate_dst (N := 13) rfl ?_); (try (refine gate_guard (by rfl) ?_; dsimp only)); refine Kd.R_lit (Kd.int .i64) _ 3 ?hg (N := 13) ?hd (xs := ([0, 1] : List Int)) (inner := [.int .i64 0, .int .i64 1]) (ok := fun _ => True) (okp := fun _ => True) ?hr ?hp (fun _ hk => hk) trivial (Below.refl _ _) (Nat.le_refl _) (by simp) ?_; (case hd => rfl); (case hg => rfl); (case hr => first | (go_simp; done) | (go_simp; rfl)); (case hp => exact (Reps.one (show Kd.M (Kd.int .i64) _ _ _ 0 [.int .i64 0] from rfl) (Reps.one (show Kd.M (Kd.int .i64) _ _ _ 1 [.int .i64 1] from rfl) (Reps.none _ _)))); intro v111 w81 ho82 hb hg_ hnew_; clear hg_ hnew_; (first | rw [← Ny110.out] at ho82 | (simp only [Int.reduceToNat] at ho82; rw [← Ny110.out] at ho82)); have HO112 := Aside0.mk (Kd.R_lower (Kd.R_new' (Kd.R_new' ho82 (Kd.R_lt (by (with_reducible repeat (first | apply Kd.R_alloc | apply Kd.R_drewN | apply Kd.R_drew)); exact (Kd.R_mono (Kd.R_far (p := ⟨gb109, 1, none⟩) (Kd.R_far (p := ⟨gb109, 0, none⟩) (Kd.R_types HO103.out BK109.out (by decide)) (fun _ hk => hk.2) (.int .i64 t104)) (fun _ hk => hk.2) (.slice Ao80 t105.length co80)) (fun _ h_ => h_.1))))) (Kd.R_lt (by (with_reducible repeat (first | apply Kd.R_alloc | apply Kd.R_drewN | apply Kd.R_drew)); exact (Kd.R_mono (Kd.R_far (p := ⟨gb109, 1, none⟩) (Kd.R_far (p := ⟨gb109, 0, none⟩) (Kd.R_types HO107.out BK109.out (by decide)) (fun _ hk => hk.2) (.int .i64 t104)) (fun _ hk => hk.2) (.slice Ao80 t105.length co80)) (fun _ h_ => h_.1))))) (below_size (hs_))); replace HO103 := Aside0.mk (Kd.R_elder' (by (with_reducible repeat (first | apply Kd.R_alloc | apply Kd.R_drewN | apply Kd.R_drew)); exact (Kd.R_mono (Kd.R_far (p := ⟨gb109, 1, none⟩) (Kd.R_far (p := ⟨gb109, 0, none⟩) (Kd.R_types HO103.out BK109.out (by decide)) (fun _ hk => hk.2) (.int .i64 t104)) (fun _ hk => hk.2) (.slice Ao80 t105.length co80)) (fun _ h_ => h_.1))) (Kd.R_base ho82) hb); replace HO107 := Aside0.mk (Kd.R_elder' (by (with_reducible repeat (first | apply Kd.R_alloc | apply Kd.R_drewN | apply Kd.R_drew)); exact (Kd.R_mono (Kd.R_far (p := ⟨gb109, 1, none⟩) (Kd.R_far (p := ⟨gb109, 0, none⟩) (Kd.R_types HO107.out BK109.out (by decide)) (fun _ hk => hk.2) (.int .i64 t104)) (fun _ hk => hk.2) (.slice Ao80 t105.length co80)) (fun _ h_ => h_.1))) (Kd.R_base ho82) hb); replace BK109 := Aside0.mk (blk_below (g := gb109) (o := .cells #[.int .i64 t104, .slice Ao80 t105.length co80] 25 (0, 0)) (by have b_ := BK109; exact zb_) hb); replace HB := hbs_ hb; clear hb ho82; obtain ⟨Ao83, co83, eo83⟩ := Kd.R_slice HO112.out; subst eo83) | (have _t := tk13_; (with_reducible refine gate_callee (f := 8) rfl ?_); refine gl_ (some 14) Try.func8 #[.int .i64 2, .slice Ao83 y110.length co83] ?_; (with_reducible refine (bitmap_Of.calls k 2 _ _ y110 t113 t114 t117 _ ?side1 ?side2 A2.out).mono ?_); (case side1 => repeat (first | exact (Kd.R_reads' HO112.out).2.2 | (with_reducible refine Kd.C_alloc ?_ _) | (with_reducible refine Kd.C_drewN ?_ _) | (with_reducible refine Kd.C_drew ?_))); (case side2 => exact (Kd.R_reads' HO112.out).2.1); rintro e w84 ⟨v115, rfl, ho0, hb⟩; refine ⟨_, rfl, ?_⟩; have HO116 := Aside0.mk (Kd.R_lower (Kd.R_new' (Kd.R_new' (Kd.R_new' ho0 (Kd.R_lt (rk_ HO103.out))) (Kd.R_lt (rk_ HO107.out))) (Kd.R_lt (rk_ HO112.out))) (below_size (hs_))); replace HO103 := Aside0.mk (Kd.R_elder' (rk_ HO103.out) (Kd.R_base ho0) hb); replace HO107 := Aside0.mk (Kd.R_elder' (rk_ HO107.out) (Kd.R_base ho0) hb); replace HO112 := Aside0.mk (Kd.R_elder' (rk_ HO112.out) (Kd.R_base ho0) hb); replace BK109 := ab_ BK109 hb; replace HB := hbs_ hb; (try clear hb); (try clear hb2); (try clear hk); (try clear hi); (try clear ho0); clear tk13_) | ((with_reducible refine gate_dst (N := 3) rfl ?_); (try (refine gate_guard (by rfl) ?_; dsimp only)); refine be_ (cs := #[.int .i64 0, .slice none 0 0]) (t := 25) ?_; intro gb118 hg w85 hbox hb; replace HO103 := Aside0.mk (Kd.R_below (rk_ HO103.out) hb); replace HO107 := Aside0.mk (Kd.R_below (rk_ HO107.out) hb); replace HO112 := Aside0.mk (Kd.R_below (rk_ HO112.out) hb); replace HO116 := Aside0.mk (Kd.R_below (rk_ HO116.out) hb); have BK118 := Aside0.mk (hbox); have GW118 := Aside0.mk ((by rw [hg]; exact (below_size (hs_)) : w.heap.size ≤ gb118)); have GE118 := Aside0.mk ((by rw [hg]; exact (below_size (hs_)) : w.heap.size ≤ gb118)); replace HB := hbs_ hb; have NB109_118 := Aside0.mk (nl2_ hg BK109.out); have NB118_109 := Aside0.mk (ng2_ hg BK109.out); replace BK109 := ab_ BK109 hb; clear hb hbox hg; have hnb86 := NB118_109.out; have hnc86 := NB109_118.out; obtain ⟨Z87_0, Z87_1, F87⟩ := bc2 BK118.out; obtain ⟨Ao88, co88, eo88⟩ := Kd.R_slice HO116.out; subst eo88) | (have _t := tk14_; (with_reducible refine gate_callee (f := 8) rfl ?_); refine gl_ (some 18) Try.func8 #[.int .i64 3, .slice none 0 0] ?_; (refine (bitmap_Of.calls k 3 _ _ ([] : List Int) t119 t120 t123 _ ?side1 ?side2 A3.out).mono ?_); (case side1 => exact Kd.C_nil _ _); (case side2 => exact Nat.le_refl _); rintro e w89 ⟨v121, rfl, ho0, hb⟩; refine ⟨_, rfl, ?_⟩; have HO122 := Aside0.mk (Kd.R_lower (Kd.R_new' (Kd.R_new' (Kd.R_new' (Kd.R_new' ho0 (Kd.R_lt (by (with_reducible repeat (first | apply Kd.R_alloc | apply Kd.R_drewN | apply Kd.R_drew)); exact (Kd.R_mono (Kd.R_far (p := ⟨gb118, 1, none⟩) (Kd.R_far (p := ⟨gb118, 0, none⟩) (Kd.R_types HO103.out BK118.out (by decide)) (fun _ hk => hk.2) (.int .i64 t113)) (fun _ hk => hk.2) (.slice Ao88 t114.length co88)) (fun _ h_ => h_.1))))) (Kd.R_lt (by (with_reducible repeat (first | apply Kd.R_alloc | apply Kd.R_drewN | apply Kd.R_drew)); exact (Kd.R_mono (Kd.R_far (p := ⟨gb118, 1, none⟩) (Kd.R_far (p := ⟨gb118, 0, none⟩) (Kd.R_types HO107.out BK118.out (by decide)) (fun _ hk => hk.2) (.int .i64 t113)) (fun _ hk => hk.2) (.slice Ao88 t114.length co88)) (fun _ h_ => h_.1))))) (Kd.R_lt (by (with_reducible repeat (first | apply Kd.R_alloc | apply Kd.R_drewN | apply Kd.R_drew)); exact (Kd.R_mono (Kd.R_far (p := ⟨gb118, 1, none⟩) (Kd.R_far (p := ⟨gb118, 0, none⟩) (Kd.R_types HO112.out BK118.out (by decide)) (fun _ hk => hk.2) (.int .i64 t113)) (fun _ hk => hk.2) (.slice Ao88 t114.length co88)) (fun _ h_ => h_.1))))) (Kd.R_lt (by (with_reducible repeat (first | apply Kd.R_alloc | apply Kd.R_drewN | apply Kd.R_drew)); exact (Kd.R_mono (Kd.R_far (p := ⟨gb118, 1, none⟩) (Kd.R_far (p := ⟨gb118, 0, none⟩) (Kd.R_types HO116.out BK118.out (by decide)) (fun _ hk => hk.2) (.int .i64 t113)) (fun _ hk => hk.2) (.slice Ao88 t114.length co88)) (fun _ h_ => h_.1))))) (below_size (hs_))); replace HO103 := Aside0.mk (Kd.R_elder' (by (with_reducible repeat (first | apply Kd.R_alloc | apply Kd.R_drewN | apply Kd.R_drew)); exact (Kd.R_mono (Kd.R_far (p := ⟨gb118, 1, none⟩) (Kd.R_far (p := ⟨gb118, 0, none⟩) (Kd.R_types HO103.out BK118.out (by decide)) (fun _ hk => hk.2) (.int .i64 t113)) (fun _ hk => hk.2) (.slice Ao88 t114.length co88)) (fun _ h_ => h_.1))) (Kd.R_base ho0) hb); replace HO107 := Aside0.mk (Kd.R_elder' (by (with_reducible repeat (first | apply Kd.R_alloc | apply Kd.R_drewN | apply Kd.R_drew)); exact (Kd.R_mono (Kd.R_far (p := ⟨gb118, 1, none⟩) (Kd.R_far (p := ⟨gb118, 0, none⟩) (Kd.R_types HO107.out BK118.out (by decide)) (fun _ hk => hk.2) (.int .i64 t113)) (fun _ hk => hk.2) (.slice Ao88 t114.length co88)) (fun _ h_ => h_.1))) (Kd.R_base ho0) hb); replace HO112 := Aside0.mk (Kd.R_elder' (by (with_reducible repeat (first | apply Kd.R_alloc | apply Kd.R_drewN | apply Kd.R_drew)); exact (Kd.R_mono (Kd.R_far (p := ⟨gb118, 1, none⟩) (Kd.R_far (p := ⟨gb118, 0, none⟩) (Kd.R_types HO112.out BK118.out (by decide)) (fun _ hk => hk.2) (.int .i64 t113)) (fun _ hk => hk.2) (.slice Ao88 t114.length co88)) (fun _ h_ => h_.1))) (Kd.R_base ho0) hb); replace HO116 := Aside0.mk (Kd.R_elder' (by (with_reducible repeat (first | apply Kd.R_alloc | apply Kd.R_drewN | apply Kd.R_drew)); exact (Kd.R_mono (Kd.R_far (p := ⟨gb118, 1, none⟩) (Kd.R_far (p := ⟨gb118, 0, none⟩) (Kd.R_types HO116.out BK118.out (by decide)) (fun _ hk => hk.2) (.int .i64 t113)) (fun _ hk => hk.2) (.slice Ao88 t114.length co88)) (fun _ h_ => h_.1))) (Kd.R_base ho0) hb); replace BK109 := Aside0.mk (blk_below (g := gb109) (o := .cells #[.int .i64 t104, .slice Ao80 t105.length co80] 25 (0, 0)) (by have b_ := BK109; have f_ := NB109_118; exact zb_) hb); replace BK118 := Aside0.mk (blk_below (g := gb118) (o := .cells #[.int .i64 t113, .slice Ao88 t114.length co88] 25 (0, 0)) (by have b_ := BK118; exact zb_) hb); replace HB := hbs_ hb; (try clear hb); (try clear hb2); (try clear hk); (try clear hi); (try clear ho0); clear tk14_) | ((with_reducible refine gate_dst (N := 5) rfl ?_); (try (refine gate_guard (by rfl) ?_; dsimp only)); refine be_ (cs := #[.int .i64 0, .slice none 0 0]) (t := 25) ?_; intro gb124 hg w90 hbox hb; replace HO103 := Aside0.mk (Kd.R_below (rk_ HO103.out) hb); replace HO107 := Aside0.mk (Kd.R_below (rk_ HO107.out) hb); replace HO112 := Aside0.mk (Kd.R_below (rk_ HO112.out) hb); replace HO116 := Aside0.mk (Kd.R_below (rk_ HO116.out) hb); replace HO122 := Aside0.mk (Kd.R_below (rk_ HO122.out) hb); have BK124 := Aside0.mk (hbox); have GW124 := Aside0.mk ((by rw [hg]; exact (below_size (hs_)) : w.heap.size ≤ gb124)); have GE124 := Aside0.mk ((by rw [hg]; exact (below_size (hs_)) : w.heap.size ≤ gb124)); replace HB := hbs_ hb; have NB109_124 := Aside0.mk (nl2_ hg BK109.out); have NB124_109 := Aside0.mk (ng2_ hg BK109.out); replace BK109 := ab_ BK109 hb; have NB118_124 := Aside0.mk (nl2_ hg BK118.out); have NB124_118 := Aside0.mk (ng2_ hg BK118.out); replace BK118 := ab_ BK118 hb; clear hb hbox hg; have hnb91 := NB124_109.out; have hnc91 := NB109_124.out; have hnb92 := NB124_118.out; have hnc92 := NB118_124.out; obtain ⟨Z93_0, Z93_1, F93⟩ := bc2 BK124.out; obtain ⟨Ao94, co94, eo94⟩ := Kd.R_slice HO122.out; subst eo94; obtain ⟨Z95_0, Z95_1, F95⟩ := bc2 BK109.out) | ((with_reducible refine gate_dst (N := 26) rfl ?_); (try (refine gate_guard (by rfl) ?_; dsimp only)); refine Kd.R_lit (Kd.int .i64) _ 3 ?hg (N := 26) ?hd (xs := ([1, 2, 2] : List Int)) (inner := [.int .i64 1, .int .i64 2, .int .i64 2]) (ok := fun _ => True) (okp := fun _ => True) ?hr ?hp (fun _ hk => hk) trivial (Below.refl _ _) (Nat.le_refl _) (by simp) ?_; (case hd => rfl); (case hg => rfl); (case hr => first | (go_simp; done) | (go_simp; rfl)); (case hp => exact (Reps.one (show Kd.M (Kd.int .i64) _ _ _ 1 [.int .i64 1] from rfl) (Reps.one (show Kd.M (Kd.int .i64) _ _ _ 2 [.int .i64 2] from rfl) (Reps.one (show Kd.M (Kd.int .i64) _ _ _ 2 [.int .i64 2] from rfl) (Reps.none _ _))))); intro v126 w96 ho97 hb hg_ hnew_; clear hg_ hnew_; (first | rw [← Ny125.out] at ho97 | (simp only [Int.reduceToNat] at ho97; rw [← Ny125.out] at ho97)); have HO127 := Aside0.mk (Kd.R_lower (Kd.R_new' (Kd.R_new' (Kd.R_new' (Kd.R_new' (Kd.R_new' ho97 (Kd.R_lt (by (with_reducible repeat (first | apply Kd.R_alloc | apply Kd.R_drewN | apply Kd.R_drew)); exact (Kd.R_mono (Kd.R_far (p := ⟨gb124, 1, none⟩) (Kd.R_far (p := ⟨gb124, 0, none⟩) (Kd.R_types HO103.out BK124.out (by decide)) (fun _ hk => hk.2) (.int .i64 t119)) (fun _ hk => hk.2) (.slice Ao94 t120.length co94)) (fun _ h_ => h_.1))))) (Kd.R_lt (by (with_reducible repeat (first | apply Kd.R_alloc | apply Kd.R_drewN | apply Kd.R_drew)); exact (Kd.R_mono (Kd.R_far (p := ⟨gb124, 1, none⟩) (Kd.R_far (p := ⟨gb124, 0, none⟩) (Kd.R_types HO107.out BK124.out (by decide)) (fun _ hk => hk.2) (.int .i64 t119)) (fun _ hk => hk.2) (.slice Ao94 t120.length co94)) (fun _ h_ => h_.1))))) (Kd.R_lt (by (with_reducible repeat (first | apply Kd.R_alloc | apply Kd.R_drewN | apply Kd.R_drew)); exact (Kd.R_mono (Kd.R_far (p := ⟨gb124, 1, none⟩) (Kd.R_far (p := ⟨gb124, 0, none⟩) (Kd.R_types HO112.out BK124.out (by decide)) (fun _ hk => hk.2) (.int .i64 t119)) (fun _ hk => hk.2) (.slice Ao94 t120.length co94)) (fun _ h_ => h_.1))))) (Kd.R_lt (by (with_reducible repeat (first | apply Kd.R_alloc | apply Kd.R_drewN | apply Kd.R_drew)); exact (Kd.R_mono (Kd.R_far (p := ⟨gb124, 1, none⟩) (Kd.R_far (p := ⟨gb124, 0, none⟩) (Kd.R_types HO116.out BK124.out (by decide)) (fun _ hk => hk.2) (.int .i64 t119)) (fun _ hk => hk.2) (.slice Ao94 t120.length co94)) (fun _ h_ => h_.1))))) (Kd.R_lt (by (with_reducible repeat (first | apply Kd.R_alloc | apply Kd.R_drewN | apply Kd.R_drew)); exact (Kd.R_mono (Kd.R_far (p := ⟨gb124, 1, none⟩) (Kd.R_far (p := ⟨gb124, 0, none⟩) (Kd.R_types HO122.out BK124.out (by decide)) (fun _ hk => hk.2) (.int .i64 t119)) (fun _ hk => hk.2) (.slice Ao94 t120.length co94)) (fun _ h_ => h_.1))))) (below_size (hs_))); replace HO103 := Aside0.mk (Kd.R_elder' (by (with_reducible repeat (first | apply Kd.R_alloc | apply Kd.R_drewN | apply Kd.R_drew)); exact (Kd.R_mono (Kd.R_far (p := ⟨gb124, 1, none⟩) (Kd.R_far (p := ⟨gb124, 0, none⟩) (Kd.R_types HO103.out BK124.out (by decide)) (fun _ hk => hk.2) (.int .i64 t119)) (fun _ hk => hk.2) (.slice Ao94 t120.length co94)) (fun _ h_ => h_.1))) (Kd.R_base ho97) hb); replace HO107 := Aside0.mk (Kd.R_elder' (by (with_reducible repeat (first | apply Kd.R_alloc | apply Kd.R_drewN | apply Kd.R_drew)); exact (Kd.R_mono (Kd.R_far (p := ⟨gb124, 1, none⟩) (Kd.R_far (p := ⟨gb124, 0, none⟩) (Kd.R_types HO107.out BK124.out (by decide)) (fun _ hk => hk.2) (.int .i64 t119)) (fun _ hk => hk.2) (.slice Ao94 t120.length co94)) (fun _ h_ => h_.1))) (Kd.R_base ho97) hb); replace HO112 := Aside0.mk (Kd.R_elder' (by (with_reducible repeat (first | apply Kd.R_alloc | apply Kd.R_drewN | apply Kd.R_drew)); exact (Kd.R_mono (Kd.R_far (p := ⟨gb124, 1, none⟩) (Kd.R_far (p := ⟨gb124, 0, none⟩) (Kd.R_types HO112.out BK124.out (by decide)) (fun _ hk => hk.2) (.int .i64 t119)) (fun _ hk => hk.2) (.slice Ao94 t120.length co94)) (fun _ h_ => h_.1))) (Kd.R_base ho97) hb); replace HO116 := Aside0.mk (Kd.R_elder' (by (with_reducible repeat (first | apply Kd.R_alloc | apply Kd.R_drewN | apply Kd.R_drew)); exact (Kd.R_mono (Kd.R_far (p := ⟨gb124, 1, none⟩) (Kd.R_far (p := ⟨gb124, 0, none⟩) (Kd.R_types HO116.out BK124.out (by decide)) (fun _ hk => hk.2) (.int .i64 t119)) (fun _ hk => hk.2) (.slice Ao94 t120.length co94)) (fun _ h_ => h_.1))) (Kd.R_base ho97) hb); replace HO122 := Aside0.mk (Kd.R_elder' (by (with_reducible repeat (first | apply Kd.R_alloc | apply Kd.R_drewN | apply Kd.R_drew)); exact (Kd.R_mono (Kd.R_far (p := ⟨gb124, 1, none⟩) (Kd.R_far (p := ⟨gb124, 0, none⟩) (Kd.R_types HO122.out BK124.out (by decide)) (fun _ hk => hk.2) (.int .i64 t119)) (fun _ hk => hk.2) (.slice Ao94 t120.length co94)) (fun _ h_ => h_.1))) (Kd.R_base ho97) hb); replace BK109 := Aside0.mk (blk_below (g := gb109) (o := .cells #[.int .i64 t104, .slice Ao80 t105.length co80] 25 (0, 0)) (by have b_ := BK109; have f_ := NB109_124; exact zb_) hb); replace BK118 := Aside0.mk (blk_below (g := gb118) (o := .cells #[.int .i64 t113, .slice Ao88 t114.length co88] 25 (0, 0)) (by have b_ := BK118; have f_ := NB118_124; exact zb_) hb); replace BK124 := Aside0.mk (blk_below (g := gb124) (o := .cells #[.int .i64 t119, .slice Ao94 t120.length co94] 25 (0, 0)) (by have b_ := BK124; exact zb_) hb); replace HB := hbs_ hb; clear hb ho97; obtain ⟨Ao98, co98, eo98⟩ := Kd.R_slice HO127.out; subst eo98) | (go_at_call 11; have _t := tk15_; (with_reducible refine (graftageref27_Ints.calls k _ _ t105 _ _ y125 true _ ?side1 ?side2 ?side3 ?side4 A5.out).mono ?_); (case side1 => repeat (first | exact (Kd.R_reads' HO107.out).2.2 | (with_reducible refine Kd.C_alloc ?_ _) | (with_reducible refine Kd.C_drewN ?_ _) | (with_reducible refine Kd.C_drew ?_))); (case side2 => exact (Kd.R_reads' HO107.out).2.1); (case side3 => repeat (first | exact (Kd.R_reads' HO127.out).2.2 | (with_reducible refine Kd.C_alloc ?_ _) | (with_reducible refine Kd.C_drewN ?_ _) | (with_reducible refine Kd.C_drew ?_))); (case side4 => exact (Kd.R_reads' HO127.out).2.1); rintro e w' ⟨rfl, ⟨nd, rfl⟩⟩; obtain ⟨Z99_0, Z99_1, F99⟩ := bc2 BK118.out; clear tk15_) | ((with_reducible refine gate_dst (N := 36) rfl ?_); (try (refine gate_guard (by rfl) ?_; dsimp only)); refine Kd.R_lit (Kd.int .i64) _ 3 ?hg (N := 36) ?hd (xs := ([0, 2] : List Int)) (inner := [.int .i64 0, .int .i64 2]) (ok := fun _ => True) (okp := fun _ => True) ?hr ?hp (fun _ hk => hk) trivial (Below.refl _ _) (Nat.le_refl _) (by simp) ?_; (case hd => rfl); (case hg => rfl); (case hr => first | (go_simp; done) | (go_simp; rfl)); (case hp => exact (Reps.one (show Kd.M (Kd.int .i64) _ _ _ 0 [.int .i64 0] from rfl) (Reps.one (show Kd.M (Kd.int .i64) _ _ _ 2 [.int .i64 2] from rfl) (Reps.none _ _)))); intro v130 w100 ho101 hb hg_ hnew_; clear hg_ hnew_; (first | rw [← Ny129.out] at ho101 | (simp only [Int.reduceToNat] at ho101; rw [← Ny129.out] at ho101)); have HO131 := Aside0.mk (Kd.R_lower (Kd.R_new' (Kd.R_new' (Kd.R_new' (Kd.R_new' (Kd.R_new' (Kd.R_new' ho101 (Kd.R_lt (rk_ HO103.out))) (Kd.R_lt (rk_ HO107.out))) (Kd.R_lt (rk_ HO112.out))) (Kd.R_lt (rk_ HO116.out))) (Kd.R_lt (rk_ HO122.out))) (Kd.R_lt (rk_ HO127.out))) (below_size (hs_))); replace HO103 := Aside0.mk (Kd.R_elder' (rk_ HO103.out) (Kd.R_base ho101) hb); replace HO107 := Aside0.mk (Kd.R_elder' (rk_ HO107.out) (Kd.R_base ho101) hb); replace HO112 := Aside0.mk (Kd.R_elder' (rk_ HO112.out) (Kd.R_base ho101) hb); replace HO116 := Aside0.mk (Kd.R_elder' (rk_ HO116.out) (Kd.R_base ho101) hb); replace HO122 := Aside0.mk (Kd.R_elder' (rk_ HO122.out) (Kd.R_base ho101) hb); replace HO127 := Aside0.mk (Kd.R_elder' (rk_ HO127.out) (Kd.R_base ho101) hb); replace BK109 := ab_ BK109 hb; replace BK118 := ab_ BK118 hb; replace BK124 := ab_ BK124 hb; replace HB := hbs_ hb; clear hb ho101; obtain ⟨Ao102, co102, eo102⟩ := Kd.R_slice HO131.out; subst eo102) | (go_at_call 11; have _t := tk16_; (with_reducible refine (graftageref27_Ints.calls k _ _ t114 _ _ y129 false _ ?side1 ?side2 ?side3 ?side4 A8.out).mono ?_); (case side1 => repeat (first | exact (Kd.R_reads' HO116.out).2.2 | (with_reducible refine Kd.C_alloc ?_ _) | (with_reducible refine Kd.C_drewN ?_ _) | (with_reducible refine Kd.C_drew ?_))); (case side2 => exact (Kd.R_reads' HO116.out).2.1); (case side3 => repeat (first | exact (Kd.R_reads' HO131.out).2.2 | (with_reducible refine Kd.C_alloc ?_ _) | (with_reducible refine Kd.C_drewN ?_ _) | (with_reducible refine Kd.C_drew ?_))); (case side4 => exact (Kd.R_reads' HO131.out).2.1); rintro e w' ⟨rfl, ⟨nd, rfl⟩⟩; clear tk16_))
  go_ret
  exact ⟨z3_, hs_⟩
 subst c9; rw [if_pos rfl] at H; by_cases c10 : t123 = 0; rotate_left
 ·rw [if_neg c10] at H; have c10b0 := ef_ c10; have c10b1 := nt_ c10; obtain rfl := oi_ H; go_enter Try.func7, Try.ntmps7; have tk7_ : True := trivial; have tk8_ : True := trivial; have tk9_ : True := trivial; have tk10_ : True := trivial; have tk11_ : True := trivial; go_wp2_with (first | ((with_reducible refine gate_dst (N := 8) rfl ?_); (try (refine gate_guard (by rfl) ?_; dsimp only)); refine Kd.R_lit (Kd.int .i64) _ 3 ?hg (N := 8) ?hd (xs := ([2, 1] : List Int)) (inner := [.int .i64 2, .int .i64 1]) (ok := fun _ => True) (okp := fun _ => True) ?hr ?hp (fun _ hk => hk) trivial (Below.refl _ _) (Nat.le_refl _) (by simp) ?_; (case hd => rfl); (case hg => rfl); (case hr => first | (go_simp; done) | (go_simp; rfl)); (case hp => exact (Reps.one (show Kd.M (Kd.int .i64) _ _ _ 2 [.int .i64 2] from rfl) (Reps.one (show Kd.M (Kd.int .i64) _ _ _ 1 [.int .i64 1] from rfl) (Reps.none _ _)))); intro v102 w45 ho46 hb hg_ hnew_; clear hg_ hnew_; (first | rw [← Ny101.out] at ho46 | (simp only [Int.reduceToNat] at ho46; rw [← Ny101.out] at ho46)); have HO103 := Aside0.mk (Kd.R_lower ho46 (below_size (hb_ HB.out))); replace HB := ah_ HB hb; clear hb ho46; obtain ⟨Ao47, co47, eo47⟩ := Kd.R_slice HO103.out; subst eo47) | (have _t := tk7_; (with_reducible refine gate_callee (f := 8) rfl ?_); refine gl_ (some 9) Try.func8 #[.int .i64 5, .slice Ao47 y101.length co47] ?_; (with_reducible refine (bitmap_Of.calls k 5 _ _ y101 t104 t105 t108 _ ?side1 ?side2 A1.out).mono ?_); (case side1 => repeat (first | exact (Kd.R_reads' HO103.out).2.2 | (with_reducible refine Kd.C_alloc ?_ _) | (with_reducible refine Kd.C_drewN ?_ _) | (with_reducible refine Kd.C_drew ?_))); (case side2 => exact (Kd.R_reads' HO103.out).2.1); rintro e w48 ⟨v106, rfl, ho0, hb⟩; refine ⟨_, rfl, ?_⟩; have HO107 := Aside0.mk (Kd.R_lower (Kd.R_new' ho0 (Kd.R_lt (rk_ HO103.out))) (below_size (hb_ HB.out))); replace HO103 := Aside0.mk (Kd.R_elder' (rk_ HO103.out) (Kd.R_base ho0) hb); replace HB := ah_ HB hb; (try clear hb); (try clear hb2); (try clear hk); (try clear hi); (try clear ho0); clear tk7_) | ((with_reducible refine gate_dst (N := 1) rfl ?_); (try (refine gate_guard (by rfl) ?_; dsimp only)); refine be_ (cs := #[.int .i64 0, .slice none 0 0]) (t := 25) ?_; intro gb109 hg w49 hbox hb; replace HO103 := Aside0.mk (Kd.R_below (rk_ HO103.out) hb); replace HO107 := Aside0.mk (Kd.R_below (rk_ HO107.out) hb); have BK109 := Aside0.mk (hbox); have GW109 := ag_ hg HB; have GE109 := ag_ hg HB; replace HB := ah_ HB hb; clear hb hbox hg; obtain ⟨Z50_0, Z50_1, F50⟩ := bc2 BK109.out; obtain ⟨Ao51, co51, eo51⟩ := Kd.R_slice HO107.out; subst eo51) | ((with_reducible refine gate_dst (N := 13) rfl ?_); (try (refine gate_guard (by rfl) ?_; dsimp only)); refine Kd.R_lit (Kd.int .i64) _ 3 ?hg (N := 13) ?hd (xs := ([0, 1] : List Int)) (inner := [.int .i64 0, .int .i64 1]) (ok := fun _ => True) (okp := fun _ => True) ?hr ?hp (fun _ hk => hk) trivial (Below.refl _ _) (Nat.le_refl _) (by simp) ?_; (case hd => rfl); (case hg => rfl); (case hr => first | (go_simp; done) | (go_simp; rfl)); (case hp => exact (Reps.one (show Kd.M (Kd.int .i64) _ _ _ 0 [.int .i64 0] from rfl) (Reps.one (show Kd.M (Kd.int .i64) _ _ _ 1 [.int .i64 1] from rfl) (Reps.none _ _)))); intro v111 w52 ho53 hb hg_ hnew_; clear hg_ hnew_; (first | rw [← Ny110.out] at ho53 | (simp only [Int.reduceToNat] at ho53; rw [← Ny110.out] at ho53)); have HO112 := Aside0.mk (Kd.R_lower (Kd.R_new' (Kd.R_new' ho53 (Kd.R_lt (by (with_reducible repeat (first | apply Kd.R_alloc | apply Kd.R_drewN | apply Kd.R_drew)); exact (Kd.R_mono (Kd.R_far (p := ⟨gb109, 1, none⟩) (Kd.R_far (p := ⟨gb109, 0, none⟩) (Kd.R_types HO103.out BK109.out (by decide)) (fun _ hk => hk.2) (.int .i64 t104)) (fun _ hk => hk.2) (.slice Ao51 t105.length co51)) (fun _ h_ => h_.1))))) (Kd.R_lt (by (with_reducible repeat (first | apply Kd.R_alloc | apply Kd.R_drewN | apply Kd.R_drew)); exact (Kd.R_mono (Kd.R_far (p := ⟨gb109, 1, none⟩) (Kd.R_far (p := ⟨gb109, 0, none⟩) (Kd.R_types HO107.out BK109.out (by decide)) (fun _ hk => hk.2) (.int .i64 t104)) (fun _ hk => hk.2) (.slice Ao51 t105.length co51)) (fun _ h_ => h_.1))))) (below_size (hs_))); replace HO103 := Aside0.mk (Kd.R_elder' (by (with_reducible repeat (first | apply Kd.R_alloc | apply Kd.R_drewN | apply Kd.R_drew)); exact (Kd.R_mono (Kd.R_far (p := ⟨gb109, 1, none⟩) (Kd.R_far (p := ⟨gb109, 0, none⟩) (Kd.R_types HO103.out BK109.out (by decide)) (fun _ hk => hk.2) (.int .i64 t104)) (fun _ hk => hk.2) (.slice Ao51 t105.length co51)) (fun _ h_ => h_.1))) (Kd.R_base ho53) hb); replace HO107 := Aside0.mk (Kd.R_elder' (by (with_reducible repeat (first | apply Kd.R_alloc | apply Kd.R_drewN | apply Kd.R_drew)); exact (Kd.R_mono (Kd.R_far (p := ⟨gb109, 1, none⟩) (Kd.R_far (p := ⟨gb109, 0, none⟩) (Kd.R_types HO107.out BK109.out (by decide)) (fun _ hk => hk.2) (.int .i64 t104)) (fun _ hk => hk.2) (.slice Ao51 t105.length co51)) (fun _ h_ => h_.1))) (Kd.R_base ho53) hb); replace BK109 := Aside0.mk (blk_below (g := gb109) (o := .cells #[.int .i64 t104, .slice Ao51 t105.length co51] 25 (0, 0)) (by have b_ := BK109; exact zb_) hb); replace HB := hbs_ hb; clear hb ho53; obtain ⟨Ao54, co54, eo54⟩ := Kd.R_slice HO112.out; subst eo54) | (have _t := tk8_; (with_reducible refine gate_callee (f := 8) rfl ?_); refine gl_ (some 14) Try.func8 #[.int .i64 2, .slice Ao54 y110.length co54] ?_; (with_reducible refine (bitmap_Of.calls k 2 _ _ y110 t113 t114 t117 _ ?side1 ?side2 A2.out).mono ?_); (case side1 => repeat (first | exact (Kd.R_reads' HO112.out).2.2 | (with_reducible refine Kd.C_alloc ?_ _) | (with_reducible refine Kd.C_drewN ?_ _) | (with_reducible refine Kd.C_drew ?_))); (case side2 => exact (Kd.R_reads' HO112.out).2.1); rintro e w55 ⟨v115, rfl, ho0, hb⟩; refine ⟨_, rfl, ?_⟩; have HO116 := Aside0.mk (Kd.R_lower (Kd.R_new' (Kd.R_new' (Kd.R_new' ho0 (Kd.R_lt (rk_ HO103.out))) (Kd.R_lt (rk_ HO107.out))) (Kd.R_lt (rk_ HO112.out))) (below_size (hs_))); replace HO103 := Aside0.mk (Kd.R_elder' (rk_ HO103.out) (Kd.R_base ho0) hb); replace HO107 := Aside0.mk (Kd.R_elder' (rk_ HO107.out) (Kd.R_base ho0) hb); replace HO112 := Aside0.mk (Kd.R_elder' (rk_ HO112.out) (Kd.R_base ho0) hb); replace BK109 := ab_ BK109 hb; replace HB := hbs_ hb; (try clear hb); (try clear hb2); (try clear hk); (try clear hi); (try clear ho0); clear tk8_) | ((with_reducible refine gate_dst (N := 3) rfl ?_); (try (refine gate_guard (by rfl) ?_; dsimp only)); refine be_ (cs := #[.int .i64 0, .slice none 0 0]) (t := 25) ?_; intro gb118 hg w56 hbox hb; replace HO103 := Aside0.mk (Kd.R_below (rk_ HO103.out) hb); replace HO107 := Aside0.mk (Kd.R_below (rk_ HO107.out) hb); replace HO112 := Aside0.mk (Kd.R_below (rk_ HO112.out) hb); replace HO116 := Aside0.mk (Kd.R_below (rk_ HO116.out) hb); have BK118 := Aside0.mk (hbox); have GW118 := Aside0.mk ((by rw [hg]; exact (below_size (hs_)) : w.heap.size ≤ gb118)); have GE118 := Aside0.mk ((by rw [hg]; exact (below_size (hs_)) : w.heap.size ≤ gb118)); replace HB := hbs_ hb; have NB109_118 := Aside0.mk (nl2_ hg BK109.out); have NB118_109 := Aside0.mk (ng2_ hg BK109.out); replace BK109 := ab_ BK109 hb; clear hb hbox hg; have hnb57 := NB118_109.out; have hnc57 := NB109_118.out; obtain ⟨Z58_0, Z58_1, F58⟩ := bc2 BK118.out; obtain ⟨Ao59, co59, eo59⟩ := Kd.R_slice HO116.out; subst eo59) | (have _t := tk9_; (with_reducible refine gate_callee (f := 8) rfl ?_); refine gl_ (some 18) Try.func8 #[.int .i64 3, .slice none 0 0] ?_; (refine (bitmap_Of.calls k 3 _ _ ([] : List Int) t119 t120 t123 _ ?side1 ?side2 A3.out).mono ?_); (case side1 => exact Kd.C_nil _ _); (case side2 => exact Nat.le_refl _); rintro e w60 ⟨v121, rfl, ho0, hb⟩; refine ⟨_, rfl, ?_⟩; have HO122 := Aside0.mk (Kd.R_lower (Kd.R_new' (Kd.R_new' (Kd.R_new' (Kd.R_new' ho0 (Kd.R_lt (by (with_reducible repeat (first | apply Kd.R_alloc | apply Kd.R_drewN | apply Kd.R_drew)); exact (Kd.R_mono (Kd.R_far (p := ⟨gb118, 1, none⟩) (Kd.R_far (p := ⟨gb118, 0, none⟩) (Kd.R_types HO103.out BK118.out (by decide)) (fun _ hk => hk.2) (.int .i64 t113)) (fun _ hk => hk.2) (.slice Ao59 t114.length co59)) (fun _ h_ => h_.1))))) (Kd.R_lt (by (with_reducible repeat (first | apply Kd.R_alloc | apply Kd.R_drewN | apply Kd.R_drew)); exact (Kd.R_mono (Kd.R_far (p := ⟨gb118, 1, none⟩) (Kd.R_far (p := ⟨gb118, 0, none⟩) (Kd.R_types HO107.out BK118.out (by decide)) (fun _ hk => hk.2) (.int .i64 t113)) (fun _ hk => hk.2) (.slice Ao59 t114.length co59)) (fun _ h_ => h_.1))))) (Kd.R_lt (by (with_reducible repeat (first | apply Kd.R_alloc | apply Kd.R_drewN | apply Kd.R_drew)); exact (Kd.R_mono (Kd.R_far (p := ⟨gb118, 1, none⟩) (Kd.R_far (p := ⟨gb118, 0, none⟩) (Kd.R_types HO112.out BK118.out (by decide)) (fun _ hk => hk.2) (.int .i64 t113)) (fun _ hk => hk.2) (.slice Ao59 t114.length co59)) (fun _ h_ => h_.1))))) (Kd.R_lt (by (with_reducible repeat (first | apply Kd.R_alloc | apply Kd.R_drewN | apply Kd.R_drew)); exact (Kd.R_mono (Kd.R_far (p := ⟨gb118, 1, none⟩) (Kd.R_far (p := ⟨gb118, 0, none⟩) (Kd.R_types HO116.out BK118.out (by decide)) (fun _ hk => hk.2) (.int .i64 t113)) (fun _ hk => hk.2) (.slice Ao59 t114.length co59)) (fun _ h_ => h_.1))))) (below_size (hs_))); replace HO103 := Aside0.mk (Kd.R_elder' (by (with_reducible repeat (first | apply Kd.R_alloc | apply Kd.R_drewN | apply Kd.R_drew)); exact (Kd.R_mono (Kd.R_far (p := ⟨gb118, 1, none⟩) (Kd.R_far (p := ⟨gb118, 0, none⟩) (Kd.R_types HO103.out BK118.out (by decide)) (fun _ hk => hk.2) (.int .i64 t113)) (fun _ hk => hk.2) (.slice Ao59 t114.length co59)) (fun _ h_ => h_.1))) (Kd.R_base ho0) hb); replace HO107 := Aside0.mk (Kd.R_elder' (by (with_reducible repeat (first | apply Kd.R_alloc | apply Kd.R_drewN | apply Kd.R_drew)); exact (Kd.R_mono (Kd.R_far (p := ⟨gb118, 1, none⟩) (Kd.R_far (p := ⟨gb118, 0, none⟩) (Kd.R_types HO107.out BK118.out (by decide)) (fun _ hk => hk.2) (.int .i64 t113)) (fun _ hk => hk.2) (.slice Ao59 t114.length co59)) (fun _ h_ => h_.1))) (Kd.R_base ho0) hb); replace HO112 := Aside0.mk (Kd.R_elder' (by (with_reducible repeat (first | apply Kd.R_alloc | apply Kd.R_drewN | apply Kd.R_drew)); exact (Kd.R_mono (Kd.R_far (p := ⟨gb118, 1, none⟩) (Kd.R_far (p := ⟨gb118, 0, none⟩) (Kd.R_types HO112.out BK118.out (by decide)) (fun _ hk => hk.2) (.int .i64 t113)) (fun _ hk => hk.2) (.slice Ao59 t114.length co59)) (fun _ h_ => h_.1))) (Kd.R_base ho0) hb); replace HO116 := Aside0.mk (Kd.R_elder' (by (with_reducible repeat (first | apply Kd.R_alloc | apply Kd.R_drewN | apply Kd.R_drew)); exact (Kd.R_mono (Kd.R_far (p := ⟨gb118, 1, none⟩) (Kd.R_far (p := ⟨gb118, 0, none⟩) (Kd.R_types HO116.out BK118.out (by decide)) (fun _ hk => hk.2) (.int .i64 t113)) (fun _ hk => hk.2) (.slice Ao59 t114.length co59)) (fun _ h_ => h_.1))) (Kd.R_base ho0) hb); replace BK109 := Aside0.mk (blk_below (g := gb109) (o := .cells #[.int .i64 t104, .slice Ao51 t105.length co51] 25 (0, 0)) (by have b_ := BK109; have f_ := NB109_118; exact zb_) hb); replace BK118 := Aside0.mk (blk_below (g := gb118) (o := .cells #[.int .i64 t113, .slice Ao59 t114.length co59] 25 (0, 0)) (by have b_ := BK118; exact zb_) hb); replace HB := hbs_ hb; (try clear hb); (try clear hb2); (try clear hk); (try clear hi); (try clear ho0); clear tk9_) | ((with_reducible refine gate_dst (N := 5) rfl ?_); (try (refine gate_guard (by rfl) ?_; dsimp only)); refine be_ (cs := #[.int .i64 0, .slice none 0 0]) (t := 25) ?_; intro gb124 hg w61 hbox hb; replace HO103 := Aside0.mk (Kd.R_below (rk_ HO103.out) hb); replace HO107 := Aside0.mk (Kd.R_below (rk_ HO107.out) hb); replace HO112 := Aside0.mk (Kd.R_below (rk_ HO112.out) hb); replace HO116 := Aside0.mk (Kd.R_below (rk_ HO116.out) hb); replace HO122 := Aside0.mk (Kd.R_below (rk_ HO122.out) hb); have BK124 := Aside0.mk (hbox); have GW124 := Aside0.mk ((by rw [hg]; exact (below_size (hs_)) : w.heap.size ≤ gb124)); have GE124 := Aside0.mk ((by rw [hg]; exact (below_size (hs_)) : w.heap.size ≤ gb124)); replace HB := hbs_ hb; have NB109_124 := Aside0.mk (nl2_ hg BK109.out); have NB124_109 := Aside0.mk (ng2_ hg BK109.out); replace BK109 := ab_ BK109 hb; have NB118_124 := Aside0.mk (nl2_ hg BK118.out); have NB124_118 := Aside0.mk (ng2_ hg BK118.out); replace BK118 := ab_ BK118 hb; clear hb hbox hg; have hnb62 := NB124_109.out; have hnc62 := NB109_124.out; have hnb63 := NB124_118.out; have hnc63 := NB118_124.out; obtain ⟨Z64_0, Z64_1, F64⟩ := bc2 BK124.out; obtain ⟨Ao65, co65, eo65⟩ := Kd.R_slice HO122.out; subst eo65; obtain ⟨Z66_0, Z66_1, F66⟩ := bc2 BK109.out) | ((with_reducible refine gate_dst (N := 26) rfl ?_); (try (refine gate_guard (by rfl) ?_; dsimp only)); refine Kd.R_lit (Kd.int .i64) _ 3 ?hg (N := 26) ?hd (xs := ([1, 2, 2] : List Int)) (inner := [.int .i64 1, .int .i64 2, .int .i64 2]) (ok := fun _ => True) (okp := fun _ => True) ?hr ?hp (fun _ hk => hk) trivial (Below.refl _ _) (Nat.le_refl _) (by simp) ?_; (case hd => rfl); (case hg => rfl); (case hr => first | (go_simp; done) | (go_simp; rfl)); (case hp => exact (Reps.one (show Kd.M (Kd.int .i64) _ _ _ 1 [.int .i64 1] from rfl) (Reps.one (show Kd.M (Kd.int .i64) _ _ _ 2 [.int .i64 2] from rfl) (Reps.one (show Kd.M (Kd.int .i64) _ _ _ 2 [.int .i64 2] from rfl) (Reps.none _ _))))); intro v126 w67 ho68 hb hg_ hnew_; clear hg_ hnew_; (first | rw [← Ny125.out] at ho68 | (simp only [Int.reduceToNat] at ho68; rw [← Ny125.out] at ho68)); have HO127 := Aside0.mk (Kd.R_lower (Kd.R_new' (Kd.R_new' (Kd.R_new' (Kd.R_new' (Kd.R_new' ho68 (Kd.R_lt (by (with_reducible repeat (first | apply Kd.R_alloc | apply Kd.R_drewN | apply Kd.R_drew)); exact (Kd.R_mono (Kd.R_far (p := ⟨gb124, 1, none⟩) (Kd.R_far (p := ⟨gb124, 0, none⟩) (Kd.R_types HO103.out BK124.out (by decide)) (fun _ hk => hk.2) (.int .i64 t119)) (fun _ hk => hk.2) (.slice Ao65 t120.length co65)) (fun _ h_ => h_.1))))) (Kd.R_lt (by (with_reducible repeat (first | apply Kd.R_alloc | apply Kd.R_drewN | apply Kd.R_drew)); exact (Kd.R_mono (Kd.R_far (p := ⟨gb124, 1, none⟩) (Kd.R_far (p := ⟨gb124, 0, none⟩) (Kd.R_types HO107.out BK124.out (by decide)) (fun _ hk => hk.2) (.int .i64 t119)) (fun _ hk => hk.2) (.slice Ao65 t120.length co65)) (fun _ h_ => h_.1))))) (Kd.R_lt (by (with_reducible repeat (first | apply Kd.R_alloc | apply Kd.R_drewN | apply Kd.R_drew)); exact (Kd.R_mono (Kd.R_far (p := ⟨gb124, 1, none⟩) (Kd.R_far (p := ⟨gb124, 0, none⟩) (Kd.R_types HO112.out BK124.out (by decide)) (fun _ hk => hk.2) (.int .i64 t119)) (fun _ hk => hk.2) (.slice Ao65 t120.length co65)) (fun _ h_ => h_.1))))) (Kd.R_lt (by (with_reducible repeat (first | apply Kd.R_alloc | apply Kd.R_drewN | apply Kd.R_drew)); exact (Kd.R_mono (Kd.R_far (p := ⟨gb124, 1, none⟩) (Kd.R_far (p := ⟨gb124, 0, none⟩) (Kd.R_types HO116.out BK124.out (by decide)) (fun _ hk => hk.2) (.int .i64 t119)) (fun _ hk => hk.2) (.slice Ao65 t120.length co65)) (fun _ h_ => h_.1))))) (Kd.R_lt (by (with_reducible repeat (first | apply Kd.R_alloc | apply Kd.R_drewN | apply Kd.R_drew)); exact (Kd.R_mono (Kd.R_far (p := ⟨gb124, 1, none⟩) (Kd.R_far (p := ⟨gb124, 0, none⟩) (Kd.R_types HO122.out BK124.out (by decide)) (fun _ hk => hk.2) (.int .i64 t119)) (fun _ hk => hk.2) (.slice Ao65 t120.length co65)) (fun _ h_ => h_.1))))) (below_size (hs_))); replace HO103 := Aside0.mk (Kd.R_elder' (by (with_reducible repeat (first | apply Kd.R_alloc | apply Kd.R_drewN | apply Kd.R_drew)); exact (Kd.R_mono (Kd.R_far (p := ⟨gb124, 1, none⟩) (Kd.R_far (p := ⟨gb124, 0, none⟩) (Kd.R_types HO103.out BK124.out (by decide)) (fun _ hk => hk.2) (.int .i64 t119)) (fun _ hk => hk.2) (.slice Ao65 t120.length co65)) (fun _ h_ => h_.1))) (Kd.R_base ho68) hb); replace HO107 := Aside0.mk (Kd.R_elder' (by (with_reducible repeat (first | apply Kd.R_alloc | apply Kd.R_drewN | apply Kd.R_drew)); exact (Kd.R_mono (Kd.R_far (p := ⟨gb124, 1, none⟩) (Kd.R_far (p := ⟨gb124, 0, none⟩) (Kd.R_types HO107.out BK124.out (by decide)) (fun _ hk => hk.2) (.int .i64 t119)) (fun _ hk => hk.2) (.slice Ao65 t120.length co65)) (fun _ h_ => h_.1))) (Kd.R_base ho68) hb); replace HO112 := Aside0.mk (Kd.R_elder' (by (with_reducible repeat (first | apply Kd.R_alloc | apply Kd.R_drewN | apply Kd.R_drew)); exact (Kd.R_mono (Kd.R_far (p := ⟨gb124, 1, none⟩) (Kd.R_far (p := ⟨gb124, 0, none⟩) (Kd.R_types HO112.out BK124.out (by decide)) (fun _ hk => hk.2) (.int .i64 t119)) (fun _ hk => hk.2) (.slice Ao65 t120.length co65)) (fun _ h_ => h_.1))) (Kd.R_base ho68) hb); replace HO116 := Aside0.mk (Kd.R_elder' (by (with_reducible repeat (first | apply Kd.R_alloc | apply Kd.R_drewN | apply Kd.R_drew)); exact (Kd.R_mono (Kd.R_far (p := ⟨gb124, 1, none⟩) (Kd.R_far (p := ⟨gb124, 0, none⟩) (Kd.R_types HO116.out BK124.out (by decide)) (fun _ hk => hk.2) (.int .i64 t119)) (fun _ hk => hk.2) (.slice Ao65 t120.length co65)) (fun _ h_ => h_.1))) (Kd.R_base ho68) hb); replace HO122 := Aside0.mk (Kd.R_elder' (by (with_reducible repeat (first | apply Kd.R_alloc | apply Kd.R_drewN | apply Kd.R_drew)); exact (Kd.R_mono (Kd.R_far (p := ⟨gb124, 1, none⟩) (Kd.R_far (p := ⟨gb124, 0, none⟩) (Kd.R_types HO122.out BK124.out (by decide)) (fun _ hk => hk.2) (.int .i64 t119)) (fun _ hk => hk.2) (.slice Ao65 t120.length co65)) (fun _ h_ => h_.1))) (Kd.R_base ho68) hb); replace BK109 := Aside0.mk (blk_below (g := gb109) (o := .cells #[.int .i64 t104, .slice Ao51 t105.length co51] 25 (0, 0)) (by have b_ := BK109; have f_ := NB109_124; exact zb_) hb); replace BK118 := Aside0.mk (blk_below (g := gb118) (o := .cells #[.int .i64 t113, .slice Ao59 t114.length co59] 25 (0, 0)) (by have b_ := BK118; have f_ := NB118_124; exact zb_) hb); replace BK124 := Aside0.mk (blk_below (g := gb124) (o := .cells #[.int .i64 t119, .slice Ao65 t120.length co65] 25 (0, 0)) (by have b_ := BK124; exact zb_) hb); replace HB := hbs_ hb; clear hb ho68; obtain ⟨Ao69, co69, eo69⟩ := Kd.R_slice HO127.out; subst eo69) | (go_at_call 11; have _t := tk10_; (with_reducible refine (graftageref27_Ints.calls k _ _ t105 _ _ y125 true _ ?side1 ?side2 ?side3 ?side4 A5.out).mono ?_); (case side1 => repeat (first | exact (Kd.R_reads' HO107.out).2.2 | (with_reducible refine Kd.C_alloc ?_ _) | (with_reducible refine Kd.C_drewN ?_ _) | (with_reducible refine Kd.C_drew ?_))); (case side2 => exact (Kd.R_reads' HO107.out).2.1); (case side3 => repeat (first | exact (Kd.R_reads' HO127.out).2.2 | (with_reducible refine Kd.C_alloc ?_ _) | (with_reducible refine Kd.C_drewN ?_ _) | (with_reducible refine Kd.C_drew ?_))); (case side4 => exact (Kd.R_reads' HO127.out).2.1); rintro e w' ⟨rfl, ⟨nd, rfl⟩⟩; obtain ⟨Z70_0, Z70_1, F70⟩ := bc2 BK118.out; clear tk10_) | ((with_reducible refine gate_dst (N := 36) rfl ?_); (try (refine gate_guard (by rfl) ?_; dsimp only)); refine Kd.R_lit (Kd.int .i64) _ 3 ?hg (N := 36) ?hd (xs := ([0, 2] : List Int)) (inner := [.int .i64 0, .int .i64 2]) (ok := fun _ => True) (okp := fun _ => True) ?hr ?hp (fun _ hk => hk) trivial (Below.refl _ _) (Nat.le_refl _) (by simp) ?_; (case hd => rfl); (case hg => rfl); (case hr => first | (go_simp; done) | (go_simp; rfl)); (case hp => exact (Reps.one (show Kd.M (Kd.int .i64) _ _ _ 0 [.int .i64 0] from rfl) (Reps.one (show Kd.M (Kd.int .i64) _ _ _ 2 [.int .i64 2] from rfl) (Reps.none _ _)))); intro v130 w71 ho72 hb hg_ hnew_; clear hg_ hnew_; (first | rw [← Ny129.out] at ho72 | (simp only [Int.reduceToNat] at ho72; rw [← Ny129.out] at ho72)); have HO131 := Aside0.mk (Kd.R_lower (Kd.R_new' (Kd.R_new' (Kd.R_new' (Kd.R_new' (Kd.R_new' (Kd.R_new' ho72 (Kd.R_lt (rk_ HO103.out))) (Kd.R_lt (rk_ HO107.out))) (Kd.R_lt (rk_ HO112.out))) (Kd.R_lt (rk_ HO116.out))) (Kd.R_lt (rk_ HO122.out))) (Kd.R_lt (rk_ HO127.out))) (below_size (hs_))); replace HO103 := Aside0.mk (Kd.R_elder' (rk_ HO103.out) (Kd.R_base ho72) hb); replace HO107 := Aside0.mk (Kd.R_elder' (rk_ HO107.out) (Kd.R_base ho72) hb); replace HO112 := Aside0.mk (Kd.R_elder' (rk_ HO112.out) (Kd.R_base ho72) hb); replace HO116 := Aside0.mk (Kd.R_elder' (rk_ HO116.out) (Kd.R_base ho72) hb); replace HO122 := Aside0.mk (Kd.R_elder' (rk_ HO122.out) (Kd.R_base ho72) hb); replace HO127 := Aside0.mk (Kd.R_elder' (rk_ HO127.out) (Kd.R_base ho72) hb); replace BK109 := ab_ BK109 hb; replace BK118 := ab_ BK118 hb; replace BK124 := ab_ BK124 hb; replace HB := hbs_ hb; clear hb ho72; obtain ⟨Ao73, co73, eo73⟩ := Kd.R_slice HO131.out; subst eo73) | (go_at_call 11; have _t := tk11_; (with_reducible refine (graftageref27_Ints.calls k _ _ t114 _ _ y129 true _ ?side1 ?side2 ?side3 ?side4 A8.out).mono ?_); (case side1 => repeat (first | exact (Kd.R_reads' HO116.out).2.2 | (with_reducible refine Kd.C_alloc ?_ _) | (with_reducible refine Kd.C_drewN ?_ _) | (with_reducible refine Kd.C_drew ?_))); (case side2 => exact (Kd.R_reads' HO116.out).2.1); (case side3 => repeat (first | exact (Kd.R_reads' HO131.out).2.2 | (with_reducible refine Kd.C_alloc ?_ _) | (with_reducible refine Kd.C_drewN ?_ _) | (with_reducible refine Kd.C_drew ?_))); (case side4 => exact (Kd.R_reads' HO131.out).2.1); rintro e w' ⟨rfl, ⟨nd, rfl⟩⟩; clear tk11_))
  go_ret
  exact ⟨z3_, hs_⟩
 rw [if_pos c10] at H; have c10b0 := et_ c10; have c10b1 := nf_ c10; clear c10; obtain ⟨y133, hy133⟩ : ∃ y_ : List Int, y_ = (([3] : List Int)) := ⟨_, rfl⟩; replace H : ((graftageref27_Ints.f k t120 y133).bind fun t136 => (some t136)) = some r := by first | (rw [hy133]; with_reducible exact H) | (have H2_ := (Option.bind_some _ _).symm.trans H; rw [hy133]; with_reducible exact H2_) | (have H2_ := (Option.bind_some _ _).symm.trans H; with_reducible exact H2_) | with_reducible exact H | (rw [hy133]; exact H) | exact H
 have Ny133 := Aside0.mk hy133; clear hy133; obtain ⟨t136, A11, H⟩ := bx_ H; obtain rfl := oi_ H; go_enter Try.func7, Try.ntmps7; have tk1_ : True := trivial; have tk2_ : True := trivial; have tk3_ : True := trivial; have tk4_ : True := trivial; have tk5_ : True := trivial; have tk6_ : True := trivial; go_wp2_with (first | ((with_reducible refine gate_dst (N := 8) rfl ?_); (try (refine gate_guard (by rfl) ?_; dsimp only)); refine Kd.R_lit (Kd.int .i64) _ 3 ?hg (N := 8) ?hd (xs := ([2, 1] : List Int)) (inner := [.int .i64 2, .int .i64 1]) (ok := fun _ => True) (okp := fun _ => True) ?hr ?hp (fun _ hk => hk) trivial (Below.refl _ _) (Nat.le_refl _) (by simp) ?_; (case hd => rfl); (case hg => rfl); (case hr => first | (go_simp; done) | (go_simp; rfl)); (case hp => exact (Reps.one (show Kd.M (Kd.int .i64) _ _ _ 2 [.int .i64 2] from rfl) (Reps.one (show Kd.M (Kd.int .i64) _ _ _ 1 [.int .i64 1] from rfl) (Reps.none _ _)))); intro v102 w12 ho13 hb hg_ hnew_; clear hg_ hnew_; (first | rw [← Ny101.out] at ho13 | (simp only [Int.reduceToNat] at ho13; rw [← Ny101.out] at ho13)); have HO103 := Aside0.mk (Kd.R_lower ho13 (below_size (hb_ HB.out))); replace HB := ah_ HB hb; clear hb ho13; obtain ⟨Ao14, co14, eo14⟩ := Kd.R_slice HO103.out; subst eo14) | (have _t := tk1_; (with_reducible refine gate_callee (f := 8) rfl ?_); refine gl_ (some 9) Try.func8 #[.int .i64 5, .slice Ao14 y101.length co14] ?_; (with_reducible refine (bitmap_Of.calls k 5 _ _ y101 t104 t105 t108 _ ?side1 ?side2 A1.out).mono ?_); (case side1 => repeat (first | exact (Kd.R_reads' HO103.out).2.2 | (with_reducible refine Kd.C_alloc ?_ _) | (with_reducible refine Kd.C_drewN ?_ _) | (with_reducible refine Kd.C_drew ?_))); (case side2 => exact (Kd.R_reads' HO103.out).2.1); rintro e w15 ⟨v106, rfl, ho0, hb⟩; refine ⟨_, rfl, ?_⟩; have HO107 := Aside0.mk (Kd.R_lower (Kd.R_new' ho0 (Kd.R_lt (rk_ HO103.out))) (below_size (hb_ HB.out))); replace HO103 := Aside0.mk (Kd.R_elder' (rk_ HO103.out) (Kd.R_base ho0) hb); replace HB := ah_ HB hb; (try clear hb); (try clear hb2); (try clear hk); (try clear hi); (try clear ho0); clear tk1_) | ((with_reducible refine gate_dst (N := 1) rfl ?_); (try (refine gate_guard (by rfl) ?_; dsimp only)); refine be_ (cs := #[.int .i64 0, .slice none 0 0]) (t := 25) ?_; intro gb109 hg w16 hbox hb; replace HO103 := Aside0.mk (Kd.R_below (rk_ HO103.out) hb); replace HO107 := Aside0.mk (Kd.R_below (rk_ HO107.out) hb); have BK109 := Aside0.mk (hbox); have GW109 := ag_ hg HB; have GE109 := ag_ hg HB; replace HB := ah_ HB hb; clear hb hbox hg; obtain ⟨Z17_0, Z17_1, F17⟩ := bc2 BK109.out; obtain ⟨Ao18, co18, eo18⟩ := Kd.R_slice HO107.out; subst eo18) | ((with_reducible refine gate_dst (N := 13) rfl ?_); (try (refine gate_guard (by rfl) ?_; dsimp only)); refine Kd.R_lit (Kd.int .i64) _ 3 ?hg (N := 13) ?hd (xs := ([0, 1] : List Int)) (inner := [.int .i64 0, .int .i64 1]) (ok := fun _ => True) (okp := fun _ => True) ?hr ?hp (fun _ hk => hk) trivial (Below.refl _ _) (Nat.le_refl _) (by simp) ?_; (case hd => rfl); (case hg => rfl); (case hr => first | (go_simp; done) | (go_simp; rfl)); (case hp => exact (Reps.one (show Kd.M (Kd.int .i64) _ _ _ 0 [.int .i64 0] from rfl) (Reps.one (show Kd.M (Kd.int .i64) _ _ _ 1 [.int .i64 1] from rfl) (Reps.none _ _)))); intro v111 w19 ho20 hb hg_ hnew_; clear hg_ hnew_; (first | rw [← Ny110.out] at ho20 | (simp only [Int.reduceToNat] at ho20; rw [← Ny110.out] at ho20)); have HO112 := Aside0.mk (Kd.R_lower (Kd.R_new' (Kd.R_new' ho20 (Kd.R_lt (by (with_reducible repeat (first | apply Kd.R_alloc | apply Kd.R_drewN | apply Kd.R_drew)); exact (Kd.R_mono (Kd.R_far (p := ⟨gb109, 1, none⟩) (Kd.R_far (p := ⟨gb109, 0, none⟩) (Kd.R_types HO103.out BK109.out (by decide)) (fun _ hk => hk.2) (.int .i64 t104)) (fun _ hk => hk.2) (.slice Ao18 t105.length co18)) (fun _ h_ => h_.1))))) (Kd.R_lt (by (with_reducible repeat (first | apply Kd.R_alloc | apply Kd.R_drewN | apply Kd.R_drew)); exact (Kd.R_mono (Kd.R_far (p := ⟨gb109, 1, none⟩) (Kd.R_far (p := ⟨gb109, 0, none⟩) (Kd.R_types HO107.out BK109.out (by decide)) (fun _ hk => hk.2) (.int .i64 t104)) (fun _ hk => hk.2) (.slice Ao18 t105.length co18)) (fun _ h_ => h_.1))))) (below_size (hs_))); replace HO103 := Aside0.mk (Kd.R_elder' (by (with_reducible repeat (first | apply Kd.R_alloc | apply Kd.R_drewN | apply Kd.R_drew)); exact (Kd.R_mono (Kd.R_far (p := ⟨gb109, 1, none⟩) (Kd.R_far (p := ⟨gb109, 0, none⟩) (Kd.R_types HO103.out BK109.out (by decide)) (fun _ hk => hk.2) (.int .i64 t104)) (fun _ hk => hk.2) (.slice Ao18 t105.length co18)) (fun _ h_ => h_.1))) (Kd.R_base ho20) hb); replace HO107 := Aside0.mk (Kd.R_elder' (by (with_reducible repeat (first | apply Kd.R_alloc | apply Kd.R_drewN | apply Kd.R_drew)); exact (Kd.R_mono (Kd.R_far (p := ⟨gb109, 1, none⟩) (Kd.R_far (p := ⟨gb109, 0, none⟩) (Kd.R_types HO107.out BK109.out (by decide)) (fun _ hk => hk.2) (.int .i64 t104)) (fun _ hk => hk.2) (.slice Ao18 t105.length co18)) (fun _ h_ => h_.1))) (Kd.R_base ho20) hb); replace BK109 := Aside0.mk (blk_below (g := gb109) (o := .cells #[.int .i64 t104, .slice Ao18 t105.length co18] 25 (0, 0)) (by have b_ := BK109; exact zb_) hb); replace HB := hbs_ hb; clear hb ho20; obtain ⟨Ao21, co21, eo21⟩ := Kd.R_slice HO112.out; subst eo21) | (have _t := tk2_; (with_reducible refine gate_callee (f := 8) rfl ?_); refine gl_ (some 14) Try.func8 #[.int .i64 2, .slice Ao21 y110.length co21] ?_; (with_reducible refine (bitmap_Of.calls k 2 _ _ y110 t113 t114 t117 _ ?side1 ?side2 A2.out).mono ?_); (case side1 => repeat (first | exact (Kd.R_reads' HO112.out).2.2 | (with_reducible refine Kd.C_alloc ?_ _) | (with_reducible refine Kd.C_drewN ?_ _) | (with_reducible refine Kd.C_drew ?_))); (case side2 => exact (Kd.R_reads' HO112.out).2.1); rintro e w22 ⟨v115, rfl, ho0, hb⟩; refine ⟨_, rfl, ?_⟩; have HO116 := Aside0.mk (Kd.R_lower (Kd.R_new' (Kd.R_new' (Kd.R_new' ho0 (Kd.R_lt (rk_ HO103.out))) (Kd.R_lt (rk_ HO107.out))) (Kd.R_lt (rk_ HO112.out))) (below_size (hs_))); replace HO103 := Aside0.mk (Kd.R_elder' (rk_ HO103.out) (Kd.R_base ho0) hb); replace HO107 := Aside0.mk (Kd.R_elder' (rk_ HO107.out) (Kd.R_base ho0) hb); replace HO112 := Aside0.mk (Kd.R_elder' (rk_ HO112.out) (Kd.R_base ho0) hb); replace BK109 := ab_ BK109 hb; replace HB := hbs_ hb; (try clear hb); (try clear hb2); (try clear hk); (try clear hi); (try clear ho0); clear tk2_) | ((with_reducible refine gate_dst (N := 3) rfl ?_); (try (refine gate_guard (by rfl) ?_; dsimp only)); refine be_ (cs := #[.int .i64 0, .slice none 0 0]) (t := 25) ?_; intro gb118 hg w23 hbox hb; replace HO103 := Aside0.mk (Kd.R_below (rk_ HO103.out) hb); replace HO107 := Aside0.mk (Kd.R_below (rk_ HO107.out) hb); replace HO112 := Aside0.mk (Kd.R_below (rk_ HO112.out) hb); replace HO116 := Aside0.mk (Kd.R_below (rk_ HO116.out) hb); have BK118 := Aside0.mk (hbox); have GW118 := Aside0.mk ((by rw [hg]; exact (below_size (hs_)) : w.heap.size ≤ gb118)); have GE118 := Aside0.mk ((by rw [hg]; exact (below_size (hs_)) : w.heap.size ≤ gb118)); replace HB := hbs_ hb; have NB109_118 := Aside0.mk (nl2_ hg BK109.out); have NB118_109 := Aside0.mk (ng2_ hg BK109.out); replace BK109 := ab_ BK109 hb; clear hb hbox hg; have hnb24 := NB118_109.out; have hnc24 := NB109_118.out; obtain ⟨Z25_0, Z25_1, F25⟩ := bc2 BK118.out; obtain ⟨Ao26, co26, eo26⟩ := Kd.R_slice HO116.out; subst eo26) | (have _t := tk3_; (with_reducible refine gate_callee (f := 8) rfl ?_); refine gl_ (some 18) Try.func8 #[.int .i64 3, .slice none 0 0] ?_; (refine (bitmap_Of.calls k 3 _ _ ([] : List Int) t119 t120 t123 _ ?side1 ?side2 A3.out).mono ?_); (case side1 => exact Kd.C_nil _ _); (case side2 => exact Nat.le_refl _); rintro e w27 ⟨v121, rfl, ho0, hb⟩; refine ⟨_, rfl, ?_⟩; have HO122 := Aside0.mk (Kd.R_lower (Kd.R_new' (Kd.R_new' (Kd.R_new' (Kd.R_new' ho0 (Kd.R_lt (by (with_reducible repeat (first | apply Kd.R_alloc | apply Kd.R_drewN | apply Kd.R_drew)); exact (Kd.R_mono (Kd.R_far (p := ⟨gb118, 1, none⟩) (Kd.R_far (p := ⟨gb118, 0, none⟩) (Kd.R_types HO103.out BK118.out (by decide)) (fun _ hk => hk.2) (.int .i64 t113)) (fun _ hk => hk.2) (.slice Ao26 t114.length co26)) (fun _ h_ => h_.1))))) (Kd.R_lt (by (with_reducible repeat (first | apply Kd.R_alloc | apply Kd.R_drewN | apply Kd.R_drew)); exact (Kd.R_mono (Kd.R_far (p := ⟨gb118, 1, none⟩) (Kd.R_far (p := ⟨gb118, 0, none⟩) (Kd.R_types HO107.out BK118.out (by decide)) (fun _ hk => hk.2) (.int .i64 t113)) (fun _ hk => hk.2) (.slice Ao26 t114.length co26)) (fun _ h_ => h_.1))))) (Kd.R_lt (by (with_reducible repeat (first | apply Kd.R_alloc | apply Kd.R_drewN | apply Kd.R_drew)); exact (Kd.R_mono (Kd.R_far (p := ⟨gb118, 1, none⟩) (Kd.R_far (p := ⟨gb118, 0, none⟩) (Kd.R_types HO112.out BK118.out (by decide)) (fun _ hk => hk.2) (.int .i64 t113)) (fun _ hk => hk.2) (.slice Ao26 t114.length co26)) (fun _ h_ => h_.1))))) (Kd.R_lt (by (with_reducible repeat (first | apply Kd.R_alloc | apply Kd.R_drewN | apply Kd.R_drew)); exact (Kd.R_mono (Kd.R_far (p := ⟨gb118, 1, none⟩) (Kd.R_far (p := ⟨gb118, 0, none⟩) (Kd.R_types HO116.out BK118.out (by decide)) (fun _ hk => hk.2) (.int .i64 t113)) (fun _ hk => hk.2) (.slice Ao26 t114.length co26)) (fun _ h_ => h_.1))))) (below_size (hs_))); replace HO103 := Aside0.mk (Kd.R_elder' (by (with_reducible repeat (first | apply Kd.R_alloc | apply Kd.R_drewN | apply Kd.R_drew)); exact (Kd.R_mono (Kd.R_far (p := ⟨gb118, 1, none⟩) (Kd.R_far (p := ⟨gb118, 0, none⟩) (Kd.R_types HO103.out BK118.out (by decide)) (fun _ hk => hk.2) (.int .i64 t113)) (fun _ hk => hk.2) (.slice Ao26 t114.length co26)) (fun _ h_ => h_.1))) (Kd.R_base ho0) hb); replace HO107 := Aside0.mk (Kd.R_elder' (by (with_reducible repeat (first | apply Kd.R_alloc | apply Kd.R_drewN | apply Kd.R_drew)); exact (Kd.R_mono (Kd.R_far (p := ⟨gb118, 1, none⟩) (Kd.R_far (p := ⟨gb118, 0, none⟩) (Kd.R_types HO107.out BK118.out (by decide)) (fun _ hk => hk.2) (.int .i64 t113)) (fun _ hk => hk.2) (.slice Ao26 t114.length co26)) (fun _ h_ => h_.1))) (Kd.R_base ho0) hb); replace HO112 := Aside0.mk (Kd.R_elder' (by (with_reducible repeat (first | apply Kd.R_alloc | apply Kd.R_drewN | apply Kd.R_drew)); exact (Kd.R_mono (Kd.R_far (p := ⟨gb118, 1, none⟩) (Kd.R_far (p := ⟨gb118, 0, none⟩) (Kd.R_types HO112.out BK118.out (by decide)) (fun _ hk => hk.2) (.int .i64 t113)) (fun _ hk => hk.2) (.slice Ao26 t114.length co26)) (fun _ h_ => h_.1))) (Kd.R_base ho0) hb); replace HO116 := Aside0.mk (Kd.R_elder' (by (with_reducible repeat (first | apply Kd.R_alloc | apply Kd.R_drewN | apply Kd.R_drew)); exact (Kd.R_mono (Kd.R_far (p := ⟨gb118, 1, none⟩) (Kd.R_far (p := ⟨gb118, 0, none⟩) (Kd.R_types HO116.out BK118.out (by decide)) (fun _ hk => hk.2) (.int .i64 t113)) (fun _ hk => hk.2) (.slice Ao26 t114.length co26)) (fun _ h_ => h_.1))) (Kd.R_base ho0) hb); replace BK109 := Aside0.mk (blk_below (g := gb109) (o := .cells #[.int .i64 t104, .slice Ao18 t105.length co18] 25 (0, 0)) (by have b_ := BK109; have f_ := NB109_118; exact zb_) hb); replace BK118 := Aside0.mk (blk_below (g := gb118) (o := .cells #[.int .i64 t113, .slice Ao26 t114.length co26] 25 (0, 0)) (by have b_ := BK118; exact zb_) hb); replace HB := hbs_ hb; (try clear hb); (try clear hb2); (try clear hk); (try clear hi); (try clear ho0); clear tk3_) | ((with_reducible refine gate_dst (N := 5) rfl ?_); (try (refine gate_guard (by rfl) ?_; dsimp only)); refine be_ (cs := #[.int .i64 0, .slice none 0 0]) (t := 25) ?_; intro gb124 hg w28 hbox hb; replace HO103 := Aside0.mk (Kd.R_below (rk_ HO103.out) hb); replace HO107 := Aside0.mk (Kd.R_below (rk_ HO107.out) hb); replace HO112 := Aside0.mk (Kd.R_below (rk_ HO112.out) hb); replace HO116 := Aside0.mk (Kd.R_below (rk_ HO116.out) hb); replace HO122 := Aside0.mk (Kd.R_below (rk_ HO122.out) hb); have BK124 := Aside0.mk (hbox); have GW124 := Aside0.mk ((by rw [hg]; exact (below_size (hs_)) : w.heap.size ≤ gb124)); have GE124 := Aside0.mk ((by rw [hg]; exact (below_size (hs_)) : w.heap.size ≤ gb124)); replace HB := hbs_ hb; have NB109_124 := Aside0.mk (nl2_ hg BK109.out); have NB124_109 := Aside0.mk (ng2_ hg BK109.out); replace BK109 := ab_ BK109 hb; have NB118_124 := Aside0.mk (nl2_ hg BK118.out); have NB124_118 := Aside0.mk (ng2_ hg BK118.out); replace BK118 := ab_ BK118 hb; clear hb hbox hg; have hnb29 := NB124_109.out; have hnc29 := NB109_124.out; have hnb30 := NB124_118.out; have hnc30 := NB118_124.out; obtain ⟨Z31_0, Z31_1, F31⟩ := bc2 BK124.out; obtain ⟨Ao32, co32, eo32⟩ := Kd.R_slice HO122.out; subst eo32; obtain ⟨Z33_0, Z33_1, F33⟩ := bc2 BK109.out) | ((with_reducible refine gate_dst (N := 26) rfl ?_); (try (refine gate_guard (by rfl) ?_; dsimp only)); refine Kd.R_lit (Kd.int .i64) _ 3 ?hg (N := 26) ?hd (xs := ([1, 2, 2] : List Int)) (inner := [.int .i64 1, .int .i64 2, .int .i64 2]) (ok := fun _ => True) (okp := fun _ => True) ?hr ?hp (fun _ hk => hk) trivial (Below.refl _ _) (Nat.le_refl _) (by simp) ?_; (case hd => rfl); (case hg => rfl); (case hr => first | (go_simp; done) | (go_simp; rfl)); (case hp => exact (Reps.one (show Kd.M (Kd.int .i64) _ _ _ 1 [.int .i64 1] from rfl) (Reps.one (show Kd.M (Kd.int .i64) _ _ _ 2 [.int .i64 2] from rfl) (Reps.one (show Kd.M (Kd.int .i64) _ _ _ 2 [.int .i64 2] from rfl) (Reps.none _ _))))); intro v126 w34 ho35 hb hg_ hnew_; clear hg_ hnew_; (first | rw [← Ny125.out] at ho35 | (simp only [Int.reduceToNat] at ho35; rw [← Ny125.out] at ho35)); have HO127 := Aside0.mk (Kd.R_lower (Kd.R_new' (Kd.R_new' (Kd.R_new' (Kd.R_new' (Kd.R_new' ho35 (Kd.R_lt (by (with_reducible repeat (first | apply Kd.R_alloc | apply Kd.R_drewN | apply Kd.R_drew)); exact (Kd.R_mono (Kd.R_far (p := ⟨gb124, 1, none⟩) (Kd.R_far (p := ⟨gb124, 0, none⟩) (Kd.R_types HO103.out BK124.out (by decide)) (fun _ hk => hk.2) (.int .i64 t119)) (fun _ hk => hk.2) (.slice Ao32 t120.length co32)) (fun _ h_ => h_.1))))) (Kd.R_lt (by (with_reducible repeat (first | apply Kd.R_alloc | apply Kd.R_drewN | apply Kd.R_drew)); exact (Kd.R_mono (Kd.R_far (p := ⟨gb124, 1, none⟩) (Kd.R_far (p := ⟨gb124, 0, none⟩) (Kd.R_types HO107.out BK124.out (by decide)) (fun _ hk => hk.2) (.int .i64 t119)) (fun _ hk => hk.2) (.slice Ao32 t120.length co32)) (fun _ h_ => h_.1))))) (Kd.R_lt (by (with_reducible repeat (first | apply Kd.R_alloc | apply Kd.R_drewN | apply Kd.R_drew)); exact (Kd.R_mono (Kd.R_far (p := ⟨gb124, 1, none⟩) (Kd.R_far (p := ⟨gb124, 0, none⟩) (Kd.R_types HO112.out BK124.out (by decide)) (fun _ hk => hk.2) (.int .i64 t119)) (fun _ hk => hk.2) (.slice Ao32 t120.length co32)) (fun _ h_ => h_.1))))) (Kd.R_lt (by (with_reducible repeat (first | apply Kd.R_alloc | apply Kd.R_drewN | apply Kd.R_drew)); exact (Kd.R_mono (Kd.R_far (p := ⟨gb124, 1, none⟩) (Kd.R_far (p := ⟨gb124, 0, none⟩) (Kd.R_types HO116.out BK124.out (by decide)) (fun _ hk => hk.2) (.int .i64 t119)) (fun _ hk => hk.2) (.slice Ao32 t120.length co32)) (fun _ h_ => h_.1))))) (Kd.R_lt (by (with_reducible repeat (first | apply Kd.R_alloc | apply Kd.R_drewN | apply Kd.R_drew)); exact (Kd.R_mono (Kd.R_far (p := ⟨gb124, 1, none⟩) (Kd.R_far (p := ⟨gb124, 0, none⟩) (Kd.R_types HO122.out BK124.out (by decide)) (fun _ hk => hk.2) (.int .i64 t119)) (fun _ hk => hk.2) (.slice Ao32 t120.length co32)) (fun _ h_ => h_.1))))) (below_size (hs_))); replace HO103 := Aside0.mk (Kd.R_elder' (by (with_reducible repeat (first | apply Kd.R_alloc | apply Kd.R_drewN | apply Kd.R_drew)); exact (Kd.R_mono (Kd.R_far (p := ⟨gb124, 1, none⟩) (Kd.R_far (p := ⟨gb124, 0, none⟩) (Kd.R_types HO103.out BK124.out (by decide)) (fun _ hk => hk.2) (.int .i64 t119)) (fun _ hk => hk.2) (.slice Ao32 t120.length co32)) (fun _ h_ => h_.1))) (Kd.R_base ho35) hb); replace HO107 := Aside0.mk (Kd.R_elder' (by (with_reducible repeat (first | apply Kd.R_alloc | apply Kd.R_drewN | apply Kd.R_drew)); exact (Kd.R_mono (Kd.R_far (p := ⟨gb124, 1, none⟩) (Kd.R_far (p := ⟨gb124, 0, none⟩) (Kd.R_types HO107.out BK124.out (by decide)) (fun _ hk => hk.2) (.int .i64 t119)) (fun _ hk => hk.2) (.slice Ao32 t120.length co32)) (fun _ h_ => h_.1))) (Kd.R_base ho35) hb); replace HO112 := Aside0.mk (Kd.R_elder' (by (with_reducible repeat (first | apply Kd.R_alloc | apply Kd.R_drewN | apply Kd.R_drew)); exact (Kd.R_mono (Kd.R_far (p := ⟨gb124, 1, none⟩) (Kd.R_far (p := ⟨gb124, 0, none⟩) (Kd.R_types HO112.out BK124.out (by decide)) (fun _ hk => hk.2) (.int .i64 t119)) (fun _ hk => hk.2) (.slice Ao32 t120.length co32)) (fun _ h_ => h_.1))) (Kd.R_base ho35) hb); replace HO116 := Aside0.mk (Kd.R_elder' (by (with_reducible repeat (first | apply Kd.R_alloc | apply Kd.R_drewN | apply Kd.R_drew)); exact (Kd.R_mono (Kd.R_far (p := ⟨gb124, 1, none⟩) (Kd.R_far (p := ⟨gb124, 0, none⟩) (Kd.R_types HO116.out BK124.out (by decide)) (fun _ hk => hk.2) (.int .i64 t119)) (fun _ hk => hk.2) (.slice Ao32 t120.length co32)) (fun _ h_ => h_.1))) (Kd.R_base ho35) hb); replace HO122 := Aside0.mk (Kd.R_elder' (by (with_reducible repeat (first | apply Kd.R_alloc | apply Kd.R_drewN | apply Kd.R_drew)); exact (Kd.R_mono (Kd.R_far (p := ⟨gb124, 1, none⟩) (Kd.R_far (p := ⟨gb124, 0, none⟩) (Kd.R_types HO122.out BK124.out (by decide)) (fun _ hk => hk.2) (.int .i64 t119)) (fun _ hk => hk.2) (.slice Ao32 t120.length co32)) (fun _ h_ => h_.1))) (Kd.R_base ho35) hb); replace BK109 := Aside0.mk (blk_below (g := gb109) (o := .cells #[.int .i64 t104, .slice Ao18 t105.length co18] 25 (0, 0)) (by have b_ := BK109; have f_ := NB109_124; exact zb_) hb); replace BK118 := Aside0.mk (blk_below (g := gb118) (o := .cells #[.int .i64 t113, .slice Ao26 t114.length co26] 25 (0, 0)) (by have b_ := BK118; have f_ := NB118_124; exact zb_) hb); replace BK124 := Aside0.mk (blk_below (g := gb124) (o := .cells #[.int .i64 t119, .slice Ao32 t120.length co32] 25 (0, 0)) (by have b_ := BK124; exact zb_) hb); replace HB := hbs_ hb; clear hb ho35; obtain ⟨Ao36, co36, eo36⟩ := Kd.R_slice HO127.out; subst eo36) | (go_at_call 11; have _t := tk4_; (with_reducible refine (graftageref27_Ints.calls k _ _ t105 _ _ y125 true _ ?side1 ?side2 ?side3 ?side4 A5.out).mono ?_); (case side1 => repeat (first | exact (Kd.R_reads' HO107.out).2.2 | (with_reducible refine Kd.C_alloc ?_ _) | (with_reducible refine Kd.C_drewN ?_ _) | (with_reducible refine Kd.C_drew ?_))); (case side2 => exact (Kd.R_reads' HO107.out).2.1); (case side3 => repeat (first | exact (Kd.R_reads' HO127.out).2.2 | (with_reducible refine Kd.C_alloc ?_ _) | (with_reducible refine Kd.C_drewN ?_ _) | (with_reducible refine Kd.C_drew ?_))); (case side4 => exact (Kd.R_reads' HO127.out).2.1); rintro e w' ⟨rfl, ⟨nd, rfl⟩⟩; obtain ⟨Z37_0, Z37_1, F37⟩ := bc2 BK118.out; clear tk4_) | ((with_reducible refine gate_dst (N := 36) rfl ?_); (try (refine gate_guard (by rfl) ?_; dsimp only)); refine Kd.R_lit (Kd.int .i64) _ 3 ?hg (N := 36) ?hd (xs := ([0, 2] : List Int)) (inner := [.int .i64 0, .int .i64 2]) (ok := fun _ => True) (okp := fun _ => True) ?hr ?hp (fun _ hk => hk) trivial (Below.refl _ _) (Nat.le_refl _) (by simp) ?_; (case hd => rfl); (case hg => rfl); (case hr => first | (go_simp; done) | (go_simp; rfl)); (case hp => exact (Reps.one (show Kd.M (Kd.int .i64) _ _ _ 0 [.int .i64 0] from rfl) (Reps.one (show Kd.M (Kd.int .i64) _ _ _ 2 [.int .i64 2] from rfl) (Reps.none _ _)))); intro v130 w38 ho39 hb hg_ hnew_; clear hg_ hnew_; (first | rw [← Ny129.out] at ho39 | (simp only [Int.reduceToNat] at ho39; rw [← Ny129.out] at ho39)); have HO131 := Aside0.mk (Kd.R_lower (Kd.R_new' (Kd.R_new' (Kd.R_new' (Kd.R_new' (Kd.R_new' (Kd.R_new' ho39 (Kd.R_lt (rk_ HO103.out))) (Kd.R_lt (rk_ HO107.out))) (Kd.R_lt (rk_ HO112.out))) (Kd.R_lt (rk_ HO116.out))) (Kd.R_lt (rk_ HO122.out))) (Kd.R_lt (rk_ HO127.out))) (below_size (hs_))); replace HO103 := Aside0.mk (Kd.R_elder' (rk_ HO103.out) (Kd.R_base ho39) hb); replace HO107 := Aside0.mk (Kd.R_elder' (rk_ HO107.out) (Kd.R_base ho39) hb); replace HO112 := Aside0.mk (Kd.R_elder' (rk_ HO112.out) (Kd.R_base ho39) hb); replace HO116 := Aside0.mk (Kd.R_elder' (rk_ HO116.out) (Kd.R_base ho39) hb); replace HO122 := Aside0.mk (Kd.R_elder' (rk_ HO122.out) (Kd.R_base ho39) hb); replace HO127 := Aside0.mk (Kd.R_elder' (rk_ HO127.out) (Kd.R_base ho39) hb); replace BK109 := ab_ BK109 hb; replace BK118 := ab_ BK118 hb; replace BK124 := ab_ BK124 hb; replace HB := hbs_ hb; clear hb ho39; obtain ⟨Ao40, co40, eo40⟩ := Kd.R_slice HO131.out; subst eo40) | (go_at_call 11; have _t := tk5_; (with_reducible refine (graftageref27_Ints.calls k _ _ t114 _ _ y129 true _ ?side1 ?side2 ?side3 ?side4 A8.out).mono ?_); (case side1 => repeat (first | exact (Kd.R_reads' HO116.out).2.2 | (with_reducible refine Kd.C_alloc ?_ _) | (with_reducible refine Kd.C_drewN ?_ _) | (with_reducible refine Kd.C_drew ?_))); (case side2 => exact (Kd.R_reads' HO116.out).2.1); (case side3 => repeat (first | exact (Kd.R_reads' HO131.out).2.2 | (with_reducible refine Kd.C_alloc ?_ _) | (with_reducible refine Kd.C_drewN ?_ _) | (with_reducible refine Kd.C_drew ?_))); (case side4 => exact (Kd.R_reads' HO131.out).2.1); rintro e w' ⟨rfl, ⟨nd, rfl⟩⟩; obtain ⟨Z41_0, Z41_1, F41⟩ := bc2 BK124.out; clear tk5_) | ((with_reducible refine gate_dst (N := 46) rfl ?_); (try (refine gate_guard (by rfl) ?_; dsimp only)); refine Kd.R_lit (Kd.int .i64) _ 3 ?hg (N := 46) ?hd (xs := ([3] : List Int)) (inner := [.int .i64 3]) (ok := fun _ => True) (okp := fun _ => True) ?hr ?hp (fun _ hk => hk) trivial (Below.refl _ _) (Nat.le_refl _) (by simp) ?_; (case hd => rfl); (case hg => rfl); (case hr => first | (go_simp; done) | (go_simp; rfl)); (case hp => exact (Reps.one (show Kd.M (Kd.int .i64) _ _ _ 3 [.int .i64 3] from rfl) (Reps.none _ _))); intro v134 w42 ho43 hb hg_ hnew_; clear hg_ hnew_; (first | rw [← Ny133.out] at ho43 | (simp only [Int.reduceToNat] at ho43; rw [← Ny133.out] at ho43)); have HO135 := Aside0.mk (Kd.R_lower (Kd.R_new' (Kd.R_new' (Kd.R_new' (Kd.R_new' (Kd.R_new' (Kd.R_new' (Kd.R_new' ho43 (Kd.R_lt (rk_ HO103.out))) (Kd.R_lt (rk_ HO107.out))) (Kd.R_lt (rk_ HO112.out))) (Kd.R_lt (rk_ HO116.out))) (Kd.R_lt (rk_ HO122.out))) (Kd.R_lt (rk_ HO127.out))) (Kd.R_lt (rk_ HO131.out))) (below_size (hs_))); replace HO103 := Aside0.mk (Kd.R_elder' (rk_ HO103.out) (Kd.R_base ho43) hb); replace HO107 := Aside0.mk (Kd.R_elder' (rk_ HO107.out) (Kd.R_base ho43) hb); replace HO112 := Aside0.mk (Kd.R_elder' (rk_ HO112.out) (Kd.R_base ho43) hb); replace HO116 := Aside0.mk (Kd.R_elder' (rk_ HO116.out) (Kd.R_base ho43) hb); replace HO122 := Aside0.mk (Kd.R_elder' (rk_ HO122.out) (Kd.R_base ho43) hb); replace HO127 := Aside0.mk (Kd.R_elder' (rk_ HO127.out) (Kd.R_base ho43) hb); replace HO131 := Aside0.mk (Kd.R_elder' (rk_ HO131.out) (Kd.R_base ho43) hb); replace BK109 := ab_ BK109 hb; replace BK118 := ab_ BK118 hb; replace BK124 := ab_ BK124 hb; replace HB := hbs_ hb; clear hb ho43; obtain ⟨Ao44, co44, eo44⟩ := Kd.R_slice HO135.out; subst eo44) | (go_at_call 11; have _t := tk6_; (with_reducible refine (graftageref27_Ints.calls k _ _ t120 _ _ y133 t136 _ ?side1 ?side2 ?side3 ?side4 A11.out).mono ?_); (case side1 => repeat (first | exact (Kd.R_reads' HO122.out).2.2 | (with_reducible refine Kd.C_alloc ?_ _) | (with_reducible refine Kd.C_drewN ?_ _) | (with_reducible refine Kd.C_drew ?_))); (case side2 => exact (Kd.R_reads' HO122.out).2.1); (case side3 => repeat (first | exact (Kd.R_reads' HO135.out).2.2 | (with_reducible refine Kd.C_alloc ?_ _) | (with_reducible refine Kd.C_drewN ?_ _) | (with_reducible refine Kd.C_drew ?_))); (case side4 => exact (Kd.R_reads' HO135.out).2.1); rintro e w' ⟨rfl, ⟨nd, rfl⟩⟩; clear tk6_))
 go_ret
 exact ⟨z3_, hs_⟩


mutual
def graftageref27_Right.j0 : Nat → Bool → Int → List Int → Option (Bool)
 | 0, _, _, _ => none
 | k + 1, x12, x107000, x107001 => if x12 = true then (some false) else (graftageref27_Right.l0 k 0 0 x107000 x107001)
def graftageref27_Right.l0 : Nat → Int → Int → Int → List Int → Option (Bool)
 | 0, _, _, _, _ => none
 | k + 1, x3, x4, x107000, x107001 => if x4 < (x107001.length : Int) then (if 0 ≤ x4 then (if (rd x107001 x4) < 0 then (some false) else (if (rd x107001 x4) > (wrap64 (x107000 - x3)) then (some false) else (if (rd x107001 x4) = 0 then (if x4 > 0 then (some false) else (if (x107001.length : Int) = 1 then (some false) else (graftageref27_Right.l0 k (wrap64 (x3 + (rd x107001 x4))) (wrap64 (x4 + 1)) x107000 x107001))) else (graftageref27_Right.l0 k (wrap64 (x3 + (rd x107001 x4))) (wrap64 (x4 + 1)) x107000 x107001)))) else (none)) else (some (x3 == x107000))
end
def graftageref27_Right.f (k : Nat) (a0_0 : Int) (l0_1 : List Int) : Option (Bool) := if a0_0 < 0 then (graftageref27_Right.j0 k true a0_0 l0_1) else (graftageref27_Right.j0 k (decide (a0_0 > 1048576)) a0_0 l0_1)

def graftageref27_runs.l0 : Nat → List Bool → List Int → Int → Bool → Int → Option (List Int)
 | 0, _, _, _, _, _ => none
 | k + 1, x0, x3, x4, x5, x6 => if x6 < (x0.length : Int) then (if 0 ≤ x6 then (if ((rdOf false x0 x6) != x5) = true then (if x3.length < 17592186044416 then (graftageref27_runs.l0 k x0 (x3 ++ [x4]) (0 + 1) (rdOf false x0 x6) (wrap64 (x6 + 1))) else (none)) else (graftageref27_runs.l0 k x0 x3 (wrap64 (x4 + 1)) x5 (wrap64 (x6 + 1)))) else (none)) else (if (x0.length : Int) > 0 then (if x3.length < 17592186044416 then (some (x3 ++ [x4])) else (none)) else (some x3))
def graftageref27_runs.f (k : Nat) (l0 : List Bool) : Option (List Int) := graftageref27_runs.l0 k l0 ([] : List Int) 0 false 0

mutual
def graftageref27_Of.j0 : Nat → Int → List Int → Bool → Option (Int × List Int × Int)
 | 0, _, _, _ => none
 | k + 1, x0, x1, x13 => if x13 = true then (some (0, ([] : List Int), 1)) else (if 0 ≤ x0 then (if (x0 : Int).toNat ≤ 281474976710656 then (graftageref27_Of.l0 k x0 x1 (List.replicate (x0 : Int).toNat false) 0) else (none)) else (none))
def graftageref27_Of.l0 : Nat → Int → List Int → List Bool → Int → Option (Int × List Int × Int)
 | 0, _, _, _, _ => none
 | k + 1, x0, x1, x6, x7 => if x7 < (x1.length : Int) then (if 0 ≤ x7 then (if (rd x1 x7) < 0 then (some (0, ([] : List Int), 1)) else (if (rd x1 x7) ≥ x0 then (some (0, ([] : List Int), 1)) else (if 0 ≤ (rd x1 x7) then (if (rd x1 x7) < (x6.length : Int) then (graftageref27_Of.l0 k x0 x1 (x6.set ((rd x1 x7) : Int).toNat true) (wrap64 (x7 + 1))) else (none)) else (none)))) else (none)) else ((graftageref27_runs.f k x6).bind fun t151 => (some (x0, t151, 0)))
end
def graftageref27_Of.f (k : Nat) (a0 : Int) (l1 : List Int) : Option (Int × List Int × Int) := if a0 < 0 then (graftageref27_Of.j0 k a0 l1 true) else (graftageref27_Of.j0 k a0 l1 (decide (a0 > 1048576)))

mutual
def graftageref27_List.l0 : Nat → List Int → Int → Int → Int → List Int → Option (List Int)
 | 0, _, _, _, _, _ => none
 | k + 1, x3, x4, x5, x137000, x137001 => if x5 < (x137001.length : Int) then (graftageref27_List.l1 k x3 x4 x5 0 x137000 x137001) else (some x3)
def graftageref27_List.l1 : Nat → List Int → Int → Int → Int → Int → List Int → Option (List Int)
 | 0, _, _, _, _, _, _ => none
 | k + 1, x3, x4, x5, x6, x137000, x137001 => if 0 ≤ x5 then (if x5 < (x137001.length : Int) then (if x6 < (rd x137001 x5) then (if (Int.tmod x5 2) = 1 then (if x3.length < 17592186044416 then (graftageref27_List.l1 k (x3 ++ [wrap64 (x4 + x6)]) x4 x5 (wrap64 (x6 + 1)) x137000 x137001) else (none)) else (graftageref27_List.l1 k x3 x4 x5 (wrap64 (x6 + 1)) x137000 x137001)) else (graftageref27_List.l0 k x3 (wrap64 (x4 + (rd x137001 x5))) (wrap64 (x5 + 1)) x137000 x137001)) else (none)) else (none)
end
def graftageref27_List.f (k : Nat) (a0_0 : Int) (l0_1 : List Int) : Option (List Int) := (graftageref27_Right.f k a0_0 l0_1).bind fun t137 => (if t137 = true then (graftageref27_List.l0 k ([] : List Int) 0 0 a0_0 l0_1) else (some ([] : List Int)))
end Go.Proofs.Ytibnkopdkfjgpaa.Q


/-! bits and runs -/
namespace Bm
/-- what runs say, the first one of the given bit -/
def exp : Bool → List Int → List Bool
  | _, [] => []
  | b, r :: t => List.replicate r.toNat b ++ exp (!b) t
/-- runs of a list of bits, the first of the given bit; the bits that are counted already -/
def rle : Bool → Nat → List Bool → List Int
  | _, n, [] => [(n : Int)]
  | c, n, b :: t => if b = c then rle c (n + 1) t else (n : Int) :: rle b 1 t
def enc (l : List Bool) : List Int := if l = [] then [] else rle false 0 l
/-- runs as they must be -/
def Pos (l : List Int) : Prop := ∀ r ∈ l, (1 : Int) ≤ r
def Canon : List Int → Prop
  | [] => True
  | r :: t => 0 ≤ r ∧ Pos t ∧ (t = [] → 1 ≤ r)
theorem exp_append : ∀ (l m : List Int) (b : Bool), exp b (l ++ m) = exp b l ++ exp (if l.length % 2 = 0 then b else !b) m
  | [], m, b => by simp [exp]
  | r :: t, m, b => by
    rw [List.cons_append, exp, exp_append t m (!b), exp, List.append_assoc]
    congr 2
    rw [List.length_cons]
    have : (t.length + 1) % 2 = 0 ↔ ¬ (t.length % 2 = 0) := by omega
    by_cases h : t.length % 2 = 0
    · rw [if_pos h, if_neg (by omega)]
    · rw [if_neg h, if_pos (by omega)]; simp
theorem rle_exp : ∀ (l : List Bool) (c : Bool) (n : Nat), exp c (rle c n l) = List.replicate n c ++ l
  | [], c, n => by simp [rle, exp]
  | b :: t, c, n => by
    unfold rle
    by_cases h : b = c
    · rw [if_pos h, rle_exp t c (n + 1), h, List.replicate_succ', List.append_assoc]; rfl
    · rw [if_neg h, exp]
      have : (!c) = b := by cases b <;> cases c <;> simp_all
      rw [this, rle_exp t b 1]
      simp [List.replicate]
theorem exp_enc (l : List Bool) : exp false (enc l) = l := by
  unfold enc
  by_cases h : l = []
  · rw [if_pos h, h]; rfl
  · rw [if_neg h, rle_exp]; simp
theorem rle_ne : ∀ (l : List Bool) (c : Bool) (n : Nat), rle c n l ≠ []
  | [], c, n => by simp [rle]
  | b :: t, c, n => by
    unfold rle
    by_cases h : b = c
    · rw [if_pos h]; exact rle_ne t c _
    · rw [if_neg h]; simp
theorem rle_pos : ∀ (l : List Bool) (c : Bool) (n : Nat), 1 ≤ n → Pos (rle c n l)
  | [], c, n, h => by intro r hr; simp [rle] at hr; omega
  | b :: t, c, n, h => by
    unfold rle
    by_cases hb : b = c
    · rw [if_pos hb]; exact rle_pos t c _ (by omega)
    · rw [if_neg hb]
      intro r hr
      rcases List.mem_cons.1 hr with rfl | hr
      · omega
      · exact rle_pos t b 1 (by omega) r hr
theorem enc_canon (l : List Bool) : Canon (enc l) := by
  unfold enc
  by_cases h : l = []
  · rw [if_pos h]; trivial
  rw [if_neg h]
  cases l with
  | nil => exact absurd rfl h
  | cons b t =>
    unfold rle
    by_cases hb : b = false
    · rw [if_pos hb]
      have := rle_pos t false (0 + 1) (by omega)
      cases hr : rle false (0 + 1) t with
      | nil => trivial
      | cons r u =>
        rw [hr] at this
        have h1 := this r (by simp)
        exact ⟨by omega, fun x hx => this x (by simp [hx]), fun _ => h1⟩
    · rw [if_neg hb]
      exact ⟨by omega, rle_pos t b 1 (by omega), fun h => absurd h (rle_ne _ _ _)⟩
theorem rle_run : ∀ (m : Nat) (c : Bool) (n : Nat) (l : List Bool), rle c n (List.replicate m c ++ l) = rle c (n + m) l
  | 0, c, n, l => by simp
  | m + 1, c, n, l => by
    rw [List.replicate_succ, List.cons_append, rle, if_pos rfl, rle_run m c (n + 1) l]
    congr 1; omega
theorem rle_of_pos : ∀ (t : List Int) (r : Int) (c : Bool) (n : Nat), (n : Int) + 0 ≤ r → Pos t → rle c n (List.replicate (r.toNat - n) c ++ exp (!c) t) = r :: t
  | [], r, c, n, h, _ => by rw [rle_run, exp, rle]; congr 1; omega
  | s :: u, r, c, n, h, hp => by
    have hs := hp s (by simp)
    obtain ⟨m, hm⟩ : ∃ m : Nat, s.toNat = m + 1 := ⟨s.toNat - 1, by omega⟩
    rw [rle_run, exp, hm, List.replicate_succ, List.cons_append, rle, if_neg (by cases c <;> simp)]
    have e : rle (!c) 1 (List.replicate m (!c) ++ exp (!!c) u) = s :: u := by
      have := rle_of_pos u s (!c) 1 (by omega) (fun x hx => hp x (by simp [hx]))
      rwa [hm, Nat.add_sub_cancel] at this
    rw [e]; congr 1; omega
theorem enc_exp {l : List Int} (h : Canon l) : enc (exp false l) = l := by
  cases l with
  | nil => simp [exp, enc]
  | cons r t =>
    obtain ⟨h0, hp, h1⟩ := h
    have := rle_of_pos t r false 0 (by omega) hp
    unfold enc
    rw [if_neg, exp]
    · simpa using this
    · intro he
      rw [exp, List.append_eq_nil_iff] at he
      cases t with
      | nil => have := h1 rfl; have := he.1; simp at this; omega
      | cons s u =>
        have hs := hp s (by simp)
        obtain ⟨m, hm⟩ : ∃ m : Nat, s.toNat = m + 1 := ⟨s.toNat - 1, by omega⟩
        have := he.2
        rw [exp, hm] at this
        simp [List.replicate_succ] at this
def total (l : List Int) : Int := l.foldr (· + ·) 0
theorem total_cons (r : Int) (l : List Int) : total (r :: l) = r + total l := rfl
theorem exp_length : ∀ (l : List Int) (b : Bool), (∀ r ∈ l, (0:Int) ≤ r) → ((exp b l).length : Int) = total l
  | [], _, _ => rfl
  | r :: t, b, h => by
    have := exp_length t (!b) (fun x hx => h x (by simp [hx]))
    have hr := h r (by simp)
    rw [exp, List.length_append, List.length_replicate, total_cons, ← this]; omega
theorem canon_nonneg {l : List Int} (h : Canon l) : ∀ r ∈ l, (0:Int) ≤ r := by
  cases l with
  | nil => simp
  | cons r t =>
    intro x hx
    rcases List.mem_cons.1 hx with rfl | hx
    · exact h.1
    · have := h.2.1 x hx; omega
/-- the places of the bits that are set -/
def pos : Int → List Bool → List Int
  | _, [] => []
  | i, b :: t => if b = true then i :: pos (i + 1) t else pos (i + 1) t
theorem pos_append : ∀ (l m : List Bool) (i : Int), pos i (l ++ m) = pos i l ++ pos (i + l.length) m
  | [], m, i => by simp [pos]
  | b :: t, m, i => by
    rw [List.cons_append, pos, pos, pos_append t m (i + 1)]
    have e : i + 1 + (t.length : Int) = i + ((b :: t).length : Int) := by rw [List.length_cons]; omega
    rw [e]
    by_cases h : b = true
    · rw [if_pos h, if_pos h]; rfl
    · rw [if_neg h, if_neg h]
theorem pos_false (n : Nat) (i : Int) : pos i (List.replicate n false) = [] := by
  induction n generalizing i with
  | zero => rfl
  | succ n ih => rw [List.replicate_succ, pos, if_neg (by decide), ih]
theorem mem_pos : ∀ (l : List Bool) (i x : Int), x ∈ pos i l ↔ i ≤ x ∧ l.getD (x - i).toNat false = true ∧ x < i + l.length
  | [], i, x => by simp [pos]
  | b :: t, i, x => by
    have ih := mem_pos t (i + 1) x
    have key : x ∈ pos i (b :: t) ↔ (b = true ∧ x = i) ∨ x ∈ pos (i + 1) t := by
      rw [pos]
      by_cases h : b = true
      · rw [if_pos h, List.mem_cons]; simp [h]
      · rw [if_neg h]; simp [h]
    rw [key, ih, List.length_cons]
    by_cases hx : x = i
    · subst hx
      constructor
      · rintro (⟨h, _⟩ | ⟨h, _⟩)
        · subst h; exact ⟨by omega, by simp, by simp; omega⟩
        · omega
      · rintro ⟨_, h, _⟩
        exact .inl ⟨by simpa using h, rfl⟩
    · by_cases hlt : i ≤ x
      · have : (x - i).toNat = (x - (i + 1)).toNat + 1 := by omega
        rw [this, List.getD_cons_succ]
        constructor
        · rintro (⟨_, h⟩ | ⟨h1, h2, h3⟩)
          · exact absurd h hx
          · exact ⟨by omega, h2, by omega⟩
        · rintro ⟨h1, h2, h3⟩
          exact .inr ⟨by omega, h2, by omega⟩
      · constructor
        · rintro (⟨_, h⟩ | ⟨h1, h2, h3⟩)
          · exact absurd h hx
          · omega
        · rintro ⟨h1, _⟩; omega
theorem pos_length (l : List Bool) : ∀ i, (pos i l).length = l.count true := by
  induction l with
  | nil => intro i; rfl
  | cons b t ih =>
    intro i
    rw [pos]
    cases b
    · rw [if_neg (by decide), ih]; simp
    · rw [if_pos rfl, List.length_cons, ih]; simp
/-- bits of a list of places -/
def setAll : List Bool → List Int → List Bool
  | s, [] => s
  | s, n :: t => setAll (s.set n.toNat true) t
theorem setAll_length : ∀ (l : List Int) (s : List Bool), (setAll s l).length = s.length
  | [], s => rfl
  | n :: t, s => by rw [setAll, setAll_length t, List.length_set]
theorem setAll_get : ∀ (l : List Int) (s : List Bool) (j : Nat), (∀ n ∈ l, (0:Int) ≤ n ∧ n < s.length) → j < s.length → (setAll s l).getD j false = (s.getD j false || decide ((j : Int) ∈ l))
  | [], s, j, _, _ => by simp [setAll]
  | n :: t, s, j, h, hj => by
    have hn := h n (by simp)
    rw [setAll, setAll_get t _ j (fun x hx => by rw [List.length_set]; exact h x (by simp [hx])) (by rw [List.length_set]; exact hj)]
    by_cases e : n.toNat = j
    · subst e
      have : (n.toNat : Int) = n := by omega
      simp [List.getD, List.getElem?_set, hj, this]
    · have : (j : Int) ≠ n := by omega
      simp [List.getD, List.getElem?_set, e, this]
theorem list_ext_getD {l m : List Bool} (hl : l.length = m.length) (h : ∀ j, j < l.length → l.getD j false = m.getD j false) : l = m := by
  apply List.ext_getElem hl
  intro j h1 h2
  have := h j h1
  rwa [List.getD_eq_getElem?_getD, List.getD_eq_getElem?_getD, List.getElem?_eq_getElem h1, List.getElem?_eq_getElem h2] at this
/-- what a piece of bits makes of the runs -/
def push (R : List Int) (on : Bool) (n : Int) : List Int :=
  if R.length = 0 ∧ on = true then [0, n] else if 0 < R.length ∧ decide (R.length % 2 = 0) = on then R.set (R.length - 1) (R.getD (R.length - 1) 0 + n) else R ++ [n]
theorem canon_snoc {R : List Int} {n : Int} (hR : R ≠ []) (h : Canon R) (hn : 1 ≤ n) : Canon (R ++ [n]) := by
  cases R with
  | nil => exact absurd rfl hR
  | cons r t =>
    refine ⟨h.1, ?_, fun e => by simp at e⟩
    intro x hx
    rcases List.mem_append.1 hx with hx | hx
    · exact h.2.1 x hx
    · simp at hx; omega
theorem canon_last {R : List Int} {r n : Int} (h : Canon (R ++ [r])) (hn : 1 ≤ n) : Canon (R ++ [r + n]) := by
  cases R with
  | nil =>
    have h0 : (0:Int) ≤ r := h.1
    exact ⟨(by omega : (0:Int) ≤ r + n), (by intro x hx; simp at hx), fun _ => (by omega : (1:Int) ≤ r + n)⟩
  | cons s t =>
    refine ⟨h.1, ?_, fun e => by simp at e⟩
    intro x hx
    have h2 := h.2.1
    rcases List.mem_append.1 hx with hx | hx
    · exact h2 x (by simp [hx])
    · have := h2 r (by simp); simp at hx; omega
theorem push_canon {R : List Int} {on : Bool} {n : Int} (h : Canon R) (hn : 1 ≤ n) : Canon (push R on n) := by
  unfold push
  split
  · exact ⟨by omega, by intro x hx; simp at hx; omega, fun e => by simp at e⟩
  · rename_i h1
    split
    · rename_i h2
      obtain ⟨S, r, rfl⟩ : ∃ S r, R = S ++ [r] := ⟨R.dropLast, R.getLast (by intro e; simp [e] at h2), (List.dropLast_concat_getLast _).symm⟩
      have := canon_last h hn
      simpa using this
    · by_cases hR : R = []
      · subst hR; exact ⟨by omega, by intro x hx; simp at hx, fun _ => hn⟩
      · exact canon_snoc hR h hn
theorem push_exp {R : List Int} {on : Bool} {n : Int} (h : Canon R) (hn : 1 ≤ n) : exp false (push R on n) = exp false R ++ List.replicate n.toNat on := by
  unfold push
  split
  · rename_i h1
    obtain rfl := List.eq_nil_of_length_eq_zero h1.1
    rw [h1.2]; simp [exp]
  · rename_i h1
    split
    · rename_i h2
      obtain ⟨S, r, rfl⟩ : ∃ S r, R = S ++ [r] := ⟨R.dropLast, R.getLast (by intro e; simp [e] at h2), (List.dropLast_concat_getLast _).symm⟩
      have hr := canon_nonneg h r (by simp)
      have e : (S ++ [r]).set ((S ++ [r]).length - 1) ((S ++ [r]).getD ((S ++ [r]).length - 1) 0 + n) = S ++ [r + n] := by simp
      rw [e, exp_append, exp_append, List.append_assoc]
      congr 1
      have h3 := h2.2
      rw [List.length_append, List.length_singleton] at h3
      have ec : (if S.length % 2 = 0 then false else !false) = on := by
        rw [← h3]
        by_cases hs : S.length % 2 = 0
        · rw [if_pos hs]; symm; exact decide_eq_false (by omega)
        · rw [if_neg hs]; symm; exact decide_eq_true (by omega)
      rw [ec]
      simp only [exp, List.append_nil]
      rw [show (r + n).toNat = r.toNat + n.toNat by omega, List.replicate_append_replicate]
    · rename_i h2
      rw [exp_append]
      congr 1
      simp only [exp, List.append_nil]
      congr 1
      by_cases h0 : R.length = 0
      · rw [if_pos (by omega)]
        cases on
        · rfl
        · exact absurd ⟨h0, rfl⟩ h1
      · have h3 : decide (R.length % 2 = 0) ≠ on := fun e => h2 ⟨by omega, e⟩
        by_cases hs : R.length % 2 = 0
        · rw [if_pos hs]; rw [decide_eq_true hs] at h3; cases on <;> simp_all
        · rw [if_neg hs]; rw [decide_eq_false hs] at h3; cases on <;> simp_all
end Bm


/- Bitmaps: what the printed functions compute, told over lists of bits. -/
namespace Go.Proofs.Ytibnkopdkfjgpaa.Q
open Go.RowKit Go.Proofs.YtibnkopdkfjgpaaW.PrintWords Go.Proofs.YtibnkopdkfjgpaaW.PrintLast Go.Proofs.YtibnkopdkfjgpaaW.PrintMore
theorem wrap_id {x : Int} (h0 : -9223372036854775808 ≤ x) (h1 : x ≤ 9223372036854775807) : wrap64 x = x := by unfold wrap64; omega
theorem ev_ite {α : Type} {c : Prop} [Decidable c] {f g : Nat → Option α} {r : α} (h1 : c → Ev f r) (h2 : ¬ c → Ev g r) : Ev (fun k => if c then f k else g k) r := by
  by_cases h : c
  · exact Ev.congr (fun k => if_pos h) (h1 h)
  · exact Ev.congr (fun k => if_neg h) (h2 h)
theorem ev_yes {α : Type} {c : Prop} [Decidable c] {f g : Nat → Option α} {r : α} (h : c) (h1 : Ev f r) : Ev (fun k => if c then f k else g k) r := ev_ite (fun _ => h1) (fun h2 => absurd h h2)
theorem ev_no {α : Type} {c : Prop} [Decidable c] {f g : Nat → Option α} {r : α} (h : ¬ c) (h1 : Ev g r) : Ev (fun k => if c then f k else g k) r := ev_ite (fun h2 => absurd h2 h) (fun _ => h1)
theorem ev_eq {α : Type} {f : Nat → Option α} {r q : α} (h : Ev f q) (e : q = r) : Ev f r := e ▸ h
theorem drop_at {l : List Int} {i : Nat} {r : Int} {t : List Int} (h : l.drop i = r :: t) : i < l.length ∧ rd l (i : Int) = r ∧ l.drop (i + 1) = t := by
  have hlt : i < l.length := by
    rcases Nat.lt_or_ge i l.length with h1 | h1
    · exact h1
    · rw [List.drop_eq_nil_of_le h1] at h; cases h
  rw [List.drop_eq_getElem_cons hlt] at h
  obtain ⟨h1, h2⟩ := List.cons.inj h
  refine ⟨hlt, ?_, h2⟩
  unfold rd
  rw [Int.toNat_natCast, List.getD_eq_getElem?_getD, List.getElem?_eq_getElem hlt]
  exact h1
theorem drop_end {α : Type} {l : List α} {i : Nat} (h : l.drop i = []) : l.length ≤ i := by simpa [List.drop_eq_nil_iff] using h
open Bm
/-- what a run must be -/
def okB (L i : Nat) (r : Int) : Bool := !(decide (r < 0) || (decide (r = 0) && (decide (0 < i) || decide (L = 1))))
def okT (L : Nat) : Nat → List Int → Bool
  | _, [] => true
  | i, r :: t => okB L i r && okT L (i + 1) t
def vd (s : Int) (l : List Int) : Bool := decide (0 ≤ s) && (decide (s ≤ 1048576) && (okT l.length 0 l && decide (total l = s)))
theorem okB_iff {L i : Nat} {r : Int} : okB L i r = true ↔ 0 ≤ r ∧ (r = 0 → i = 0 ∧ L ≠ 1) := by
  unfold okB
  simp only [Bool.not_eq_true', Bool.or_eq_false_iff, Bool.and_eq_false_iff, decide_eq_false_iff_not]
  omega
theorem okT_nonneg {L : Nat} : ∀ (t : List Int) (i : Nat), okT L i t = true → 0 ≤ total t
  | [], _, _ => by simp [total]
  | r :: t, i, h => by
    rw [okT, Bool.and_eq_true] at h
    have := okT_nonneg t (i + 1) h.2
    have := (okB_iff.1 h.1).1
    rw [total_cons]; omega
theorem okT_pos {L : Nat} : ∀ (t : List Int) (i : Nat), 0 < i → okT L i t = true → Pos t
  | [], _, _, _ => by intro r hr; simp at hr
  | r :: t, i, h0, h => by
    rw [okT, Bool.and_eq_true] at h
    have h1 := okB_iff.1 h.1
    have h2 := okT_pos t (i + 1) (by omega) h.2
    intro x hx
    rcases List.mem_cons.1 hx with rfl | hx
    · omega
    · exact h2 x hx
theorem pos_okT {L : Nat} : ∀ (t : List Int) (i : Nat), Pos t → okT L i t = true
  | [], _, _ => rfl
  | r :: t, i, h => by
    rw [okT, Bool.and_eq_true]
    have := h r (by simp)
    exact ⟨okB_iff.2 ⟨by omega, fun e => by omega⟩, pos_okT t (i + 1) (fun x hx => h x (by simp [hx]))⟩
theorem okT_canon {l : List Int} (h : okT l.length 0 l = true) : Canon l := by
  cases l with
  | nil => trivial
  | cons r t =>
    rw [okT, Bool.and_eq_true] at h
    have h1 := okB_iff.1 h.1
    refine ⟨h1.1, okT_pos t 1 (by omega) h.2, fun e => ?_⟩
    subst e
    have := h1.2
    simp at this
    omega
theorem canon_okT {l : List Int} (h : Canon l) : okT l.length 0 l = true := by
  cases l with
  | nil => rfl
  | cons r t =>
    rw [okT, Bool.and_eq_true]
    refine ⟨okB_iff.2 ⟨h.1, fun e => ⟨rfl, fun e2 => ?_⟩⟩, pos_okT t 1 h.2.1⟩
    have ht : t = [] := by
      have : t.length = 0 := by simpa using e2
      exact List.eq_nil_of_length_eq_zero this
    have := h.2.2 ht
    omega
theorem vd_iff {s : Int} {l : List Int} : vd s l = true ↔ 0 ≤ s ∧ s ≤ 1048576 ∧ Canon l ∧ total l = s := by
  unfold vd
  simp only [Bool.and_eq_true, decide_eq_true_eq]
  exact ⟨fun h => ⟨h.1, h.2.1, okT_canon h.2.2.1, h.2.2.2⟩, fun h => ⟨h.1, h.2.1, canon_okT h.2.2.1, h.2.2.2⟩⟩
set_option maxRecDepth 100000 in
theorem Valid_l0 (l : List Int) (s : Int) (hL : l.length ≤ 1099511627776) (h0 : 0 ≤ s) (h1 : s ≤ 1048576) : ∀ (t : List Int) (i : Nat) (n : Int), l.drop i = t → 0 ≤ n → n ≤ (i : Int) * 1048576 → Ev (fun k => bitmap_Valid.l0 k n l (l.length : Int) i s l) (okT l.length i t && decide (n + total t = s)) := by
  intro t
  induction t with
  | nil =>
    intro i n ht hn hn2
    have := drop_end ht
    refine Ev.step (f := ?_) (fun k => by rw [bitmap_Valid.l0, if_neg (by omega)]) (ev_eq (Ev.now _) ?_)
    rw [Bool.eq_iff_iff]; simp [okT, total]
  | cons r t ih =>
    intro i n ht hn hn2
    obtain ⟨hlt, hr, ht2⟩ := drop_at ht
    refine Ev.step (f := ?_) (fun k => by rw [bitmap_Valid.l0, if_pos (by omega), if_pos (by omega), if_pos (by omega), hr]) ?_
    have bad : okB l.length i r = false → (okT l.length i (r :: t) && decide (n + total (r :: t) = s)) = false := fun h => by rw [okT, h]; rfl
    have go : 0 ≤ r → r ≤ s → okB l.length i r = true → Ev (fun k => bitmap_Valid.l0 k (wrap64 (n + r)) l (l.length : Int) (wrap64 ((i : Int) + 1)) s l) (okT l.length i (r :: t) && decide (n + total (r :: t) = s)) := fun g0 g1 g2 => by
      rw [wrap_id (by omega) (by omega), wrap_id (by omega) (by omega), okT, g2, Bool.true_and, total_cons, ← Int.add_assoc]
      exact_mod_cast ih (i + 1) (n + r) ht2 (by omega) (by omega)
    have big : ¬ r ≤ s → (okT l.length i (r :: t) && decide (n + total (r :: t) = s)) = false := fun g => by
      rw [Bool.and_eq_false_iff]
      by_cases e : okT l.length i (r :: t) = true
      · right
        rw [okT, Bool.and_eq_true] at e
        have := okT_nonneg t (i + 1) e.2
        rw [total_cons, decide_eq_false_iff_not]; omega
      · left; simpa using e
    have tst : okB l.length i r = false ↔ r < 0 ∨ (r = 0 ∧ (0 < i ∨ l.length = 1)) := by
      rw [← Bool.not_eq_true, okB_iff]; omega
    refine ev_ite (fun g => ?_) (fun g => ?_)
    · refine ev_ite (fun g2 => ev_eq (Ev.now _) (bad (tst.2 (by omega))).symm) (fun g2 => ?_)
      refine ev_ite (fun g3 => ev_eq (Ev.now _) (bad (tst.2 (by omega))).symm) (fun g3 => ?_)
      refine ev_ite (fun g4 => ev_eq (Ev.now _) (bad (tst.2 (by omega))).symm) (fun g4 => ?_)
      refine ev_ite (fun g5 => ev_eq (Ev.now _) (big (by omega)).symm) (fun g5 => ?_)
      refine go (by omega) (by omega) ?_
      rw [okB_iff]; omega
    · refine ev_ite (fun g5 => ev_eq (Ev.now _) (big (by omega)).symm) (fun g5 => ?_)
      refine go (by omega) (by omega) ?_
      rw [okB_iff]; omega
theorem Valid_ev (s : Int) (l : List Int) (hL : l.length ≤ 1099511627776) : Ev (fun k => bitmap_Valid.f k s l) (vd s l) := by
  unfold vd
  refine ev_ite (fun g => ?_) (fun g => ?_)
  · refine Ev.step (f := ?_) (fun k => by rw [bitmap_Valid.j0, if_pos rfl]) (ev_eq (Ev.now _) ?_)
    rw [decide_eq_false (by omega), Bool.false_and]
  · by_cases g2 : s > 1048576
    · refine Ev.step (f := ?_) (fun k => by rw [bitmap_Valid.j0, if_pos (by simpa using g2)]) (ev_eq (Ev.now _) ?_)
      rw [decide_eq_false (show ¬ s ≤ 1048576 by omega), Bool.false_and, Bool.and_false]
    · refine Ev.step (f := ?_) (fun k => by rw [bitmap_Valid.j0, if_neg (by simpa using g2)]) ?_
      rw [decide_eq_true (show 0 ≤ s by omega), decide_eq_true (show s ≤ 1048576 by omega), Bool.true_and, Bool.true_and]
      have := Valid_l0 l s hL (by omega) (by omega) l 0 0 rfl (by omega) (by omega)
      rw [Int.zero_add] at this
      exact_mod_cast this
set_option maxRecDepth 100000 in
theorem Right_l0 (l : List Int) (s : Int) (hL : l.length ≤ 1099511627776) (h0 : 0 ≤ s) (h1 : s ≤ 1048576) : ∀ (t : List Int) (i : Nat) (n : Int), l.drop i = t → 0 ≤ n → n ≤ s → Ev (fun k => graftageref27_Right.l0 k n i s l) (okT l.length i t && decide (n + total t = s))
  | [], i, n, ht, hn, hn2 => by
    have := drop_end ht
    refine Ev.step (f := ?_) (fun k => by rw [graftageref27_Right.l0, if_neg (by omega)]) (ev_eq (Ev.now _) ?_)
    rw [Bool.eq_iff_iff]; simp [okT, total]
  | r :: t, i, n, ht, hn, hn2 => by
    obtain ⟨hlt, hr, ht2⟩ := drop_at ht
    refine Ev.step (f := ?_) (fun k => by rw [graftageref27_Right.l0, if_pos (by omega), if_pos (by omega), hr, wrap_id (x := s - n) (by omega) (by omega)]) ?_
    have bad : okB l.length i r = false → (okT l.length i (r :: t) && decide (n + total (r :: t) = s)) = false := fun h => by rw [okT, h]; rfl
    have go : 0 ≤ r → r ≤ s - n → okB l.length i r = true → Ev (fun k => graftageref27_Right.l0 k (wrap64 (n + r)) (wrap64 ((i : Int) + 1)) s l) (okT l.length i (r :: t) && decide (n + total (r :: t) = s)) := fun g0 g1 g2 => by
      rw [wrap_id (by omega) (by omega), wrap_id (by omega) (by omega), okT, g2, Bool.true_and, total_cons, ← Int.add_assoc]
      exact_mod_cast Right_l0 l s hL h0 h1 t (i + 1) (n + r) ht2 (by omega) (by omega)
    have big : ¬ r ≤ s - n → (okT l.length i (r :: t) && decide (n + total (r :: t) = s)) = false := fun g => by
      rw [Bool.and_eq_false_iff]
      by_cases e : okT l.length i (r :: t) = true
      · right
        rw [okT, Bool.and_eq_true] at e
        have := okT_nonneg t (i + 1) e.2
        rw [total_cons, decide_eq_false_iff_not]; omega
      · left; simpa using e
    have tst : okB l.length i r = false ↔ r < 0 ∨ (r = 0 ∧ (0 < i ∨ l.length = 1)) := by
      rw [← Bool.not_eq_true, okB_iff]; omega
    refine ev_ite (fun g => ev_eq (Ev.now _) (bad (tst.2 (by omega))).symm) (fun g => ?_)
    refine ev_ite (fun g5 => ev_eq (Ev.now _) (big (by omega)).symm) (fun g5 => ?_)
    refine ev_ite (fun g2 => ?_) (fun g2 => ?_)
    · refine ev_ite (fun g3 => ev_eq (Ev.now _) (bad (tst.2 (by omega))).symm) (fun g3 => ?_)
      refine ev_ite (fun g4 => ev_eq (Ev.now _) (bad (tst.2 (by omega))).symm) (fun g4 => ?_)
      refine go (by omega) (by omega) ?_
      rw [okB_iff]; omega
    · refine go (by omega) (by omega) ?_
      rw [okB_iff]; omega
theorem Right_ev (s : Int) (l : List Int) (hL : l.length ≤ 1099511627776) : Ev (fun k => graftageref27_Right.f k s l) (vd s l) := by
  unfold vd
  refine ev_ite (fun g => ?_) (fun g => ?_)
  · refine Ev.step (f := ?_) (fun k => by rw [graftageref27_Right.j0, if_pos rfl]) (ev_eq (Ev.now _) ?_)
    rw [decide_eq_false (by omega), Bool.false_and]
  · by_cases g2 : s > 1048576
    · refine Ev.step (f := ?_) (fun k => by rw [graftageref27_Right.j0, if_pos (by simpa using g2)]) (ev_eq (Ev.now _) ?_)
      rw [decide_eq_false (show ¬ s ≤ 1048576 by omega), Bool.false_and, Bool.and_false]
    · refine Ev.step (f := ?_) (fun k => by rw [graftageref27_Right.j0, if_neg (by simpa using g2)]) ?_
      rw [decide_eq_true (show 0 ≤ s by omega), decide_eq_true (show s ≤ 1048576 by omega), Bool.true_and, Bool.true_and]
      have := Right_l0 l s hL (by omega) (by omega) l 0 0 rfl (by omega) (by omega)
      rw [Int.zero_add] at this
      exact_mod_cast this
theorem Ints_l0 (a b : List Int) (hL : a.length ≤ 1099511627776) (hl : a.length = b.length) : ∀ (t u : List Int) (i : Nat), a.drop i = t → b.drop i = u → Ev (fun k => graftageref27_Ints.l0 k a b i) (decide (t = u))
  | [], u, i, ht, hu => by
    have := drop_end ht
    have hu2 : u = [] := by rw [← hu]; exact List.drop_eq_nil_of_le (by omega)
    subst hu2
    exact Ev.step (f := ?_) (fun k => by rw [graftageref27_Ints.l0, if_neg (by omega)]) (Ev.now _)
  | x :: t, [], i, ht, hu => by
    have := drop_end hu
    have := (drop_at ht).1
    omega
  | x :: t, y :: u, i, ht, hu => by
    obtain ⟨hlt, hx, ht2⟩ := drop_at ht
    obtain ⟨hlt2, hy, hu2⟩ := drop_at hu
    refine Ev.step (f := ?_) (fun k => by rw [graftageref27_Ints.l0, if_pos (by omega), if_pos (by omega), if_pos (by omega), hx, hy, wrap_id (by omega) (by omega)]) ?_
    refine ev_ite (fun g => ?_) (fun g => ev_eq (Ev.now _) ?_)
    · have := Ints_l0 a b hL hl t u (i + 1) ht2 hu2
      have e : decide (x :: t = y :: u) = decide (t = u) := by rw [Bool.eq_iff_iff]; simp [g]
      rw [e]; exact_mod_cast this
    · symm; rw [decide_eq_false_iff_not]; intro h; exact g (List.cons.inj h).1
theorem Ints_ev (a b : List Int) (hL : a.length ≤ 1099511627776) : Ev (fun k => graftageref27_Ints.f k a b) (decide (a = b)) := by
  refine ev_ite (fun g => ?_) (fun g => ev_eq (Ev.now _) ?_)
  · exact_mod_cast Ints_l0 a b hL (by omega) a b 0 rfl rfl
  · symm; rw [decide_eq_false_iff_not]; rintro rfl; exact g rfl
theorem Same_ev (s : Int) (a : List Int) (u : Int) (b : List Int) (hL : a.length ≤ 1099511627776) : Ev (fun k => graftageref27_Same.f k s a u b) (decide (s = u ∧ a = b)) := by
  refine ev_ite (fun g => ?_) (fun g => ev_eq (Ev.now _) ?_)
  · refine Ev.bind (Ints_ev a b hL) (ev_eq (Ev.now _) ?_)
    rw [Bool.eq_iff_iff]; simp [g]
  · symm; rw [decide_eq_false_iff_not]; exact fun h => g h.1
theorem pos_run (n : Nat) (i : Int) : pos i (List.replicate (n + 1) true) = i :: pos (i + 1) (List.replicate n true) := by rw [List.replicate_succ, pos, if_pos rfl]
theorem List_l1 (l : List Int) (L : Int) (at_ r : Int) (i : Nat) (ix : Int) (h2 : i % 2 = 1) (ha : 0 ≤ at_) (hr : at_ + r ≤ 2097152) {q : List Int} : ∀ (d : Nat) (x : Int) (out : List Int), x + d = at_ + r → 0 ≤ x → out.length + d ≤ 4194304 → Ev (fun k => bitmap_List.l0 k (out ++ pos x (List.replicate d true)) (at_ + r) l L (wrap64 (ix + 1))) q → Ev (fun k => bitmap_List.l1 k out at_ i r x l L ix) q
  | 0, x, out, hx, h0, ho, hq => by
    refine Ev.step (f := ?_) (fun k => by rw [bitmap_List.l1, if_pos (by rw [Int.tmod_eq_emod_of_nonneg (by omega)]; omega), wrap_id (x := at_ + r) (by omega) (by omega), if_neg (by omega)]) ?_
    simpa [pos] using hq
  | d + 1, x, out, hx, h0, ho, hq => by
    refine Ev.step (f := ?_) (fun k => by rw [bitmap_List.l1, if_pos (by rw [Int.tmod_eq_emod_of_nonneg (by omega)]; omega), wrap_id (x := at_ + r) (by omega) (by omega), if_pos (by omega), if_pos (by omega), wrap_id (x := x + 1) (by omega) (by omega)]) ?_
    refine List_l1 l L at_ r i ix h2 ha hr d (x + 1) (out ++ [x]) (by omega) (by omega) (by rw [List.length_append, List.length_singleton]; omega) ?_
    rw [pos_run] at hq
    simpa using hq
theorem List_l0 (l : List Int) (hL : l.length ≤ 1099511627776) : ∀ (t : List Int) (i : Nat) (at_ : Int) (out : List Int), l.drop i = t → (∀ r ∈ t, (0 : Int) ≤ r) → 0 ≤ at_ → at_ + total t ≤ 1048576 → (out.length : Int) ≤ at_ → Ev (fun k => bitmap_List.l0 k out at_ l (l.length : Int) i) (out ++ pos at_ (exp (decide (i % 2 = 1)) t))
  | [], i, at_, out, ht, hp, h0, h1, ho => by
    have := drop_end ht
    refine Ev.step (f := ?_) (fun k => by rw [bitmap_List.l0, if_neg (by omega)]) (ev_eq (Ev.now _) ?_)
    simp [exp, pos]
  | r :: t, i, at_, out, ht, hp, h0, h1, ho => by
    obtain ⟨hlt, hr, ht2⟩ := drop_at ht
    have hr0 := hp r (by simp)
    have hp2 : ∀ x ∈ t, (0 : Int) ≤ x := fun x hx => hp x (by simp [hx])
    have ht0 : 0 ≤ total t := by
      have := exp_length t false hp2
      omega
    rw [total_cons] at h1
    have e1 : wrap64 ((i : Int) + 1) = ((i + 1 : Nat) : Int) := by rw [wrap_id (by omega) (by omega)]; omega
    refine Ev.step (f := ?_) (fun k => by rw [bitmap_List.l0, if_pos (by omega), if_pos (by omega), if_pos (by omega), hr]) ?_
    have ee : (decide ((i + 1) % 2 = 1)) = !(decide (i % 2 = 1)) := by
      rw [Bool.eq_iff_iff]
      simp only [Bool.not_eq_true', decide_eq_true_eq, decide_eq_false_iff_not]
      omega
    by_cases h2 : i % 2 = 1
    · refine List_l1 l (l.length : Int) at_ r i (i : Int) h2 h0 (by omega) r.toNat at_ out (by omega) h0 (by omega) ?_
      have hlen : (pos at_ (List.replicate r.toNat true)).length = r.toNat := by rw [pos_length]; simp
      have := List_l0 l hL t (i + 1) (at_ + r) (out ++ pos at_ (List.replicate r.toNat true)) ht2 hp2 (by omega) (by omega) (by rw [List.length_append, hlen]; omega)
      rw [e1]
      refine ev_eq this ?_
      rw [ee, decide_eq_true h2, exp, pos_append, List.append_assoc, List.length_replicate, show at_ + (r.toNat : Int) = at_ + r by omega]
    · refine Ev.step (f := ?_) (fun k => by rw [bitmap_List.l1, if_neg (by rw [Int.tmod_eq_emod_of_nonneg (by omega)]; omega), wrap_id (x := at_ + r) (by omega) (by omega), e1]) ?_
      have := List_l0 l hL t (i + 1) (at_ + r) out ht2 hp2 (by omega) (by omega) (by omega)
      refine ev_eq this ?_
      rw [ee, decide_eq_false h2, exp, pos_append, pos_false, List.nil_append, List.length_replicate, show at_ + (r.toNat : Int) = at_ + r by omega]
/-- the bits that a bitmap tells -/
def bitsOf (l : List Int) : List Bool := exp false l
def lst (s : Int) (l : List Int) : List Int := if vd s l = true then pos 0 (bitsOf l) else []
theorem List_ev (s : Int) (l : List Int) (hL : l.length ≤ 1099511627776) : Ev (fun k => bitmap_List.f k s l) (lst s l) := by
  refine Ev.bind (Valid_ev s l hL) ?_
  unfold lst
  refine ev_ite (fun g => ?_) (fun g => ?_)
  · rw [if_pos g]
    obtain ⟨h0, h1, hc, ht⟩ := vd_iff.1 g
    have := List_l0 l hL l 0 0 [] rfl (canon_nonneg hc) (by omega) (by omega) (by simp)
    exact_mod_cast this
  · rw [if_neg g]; exact Ev.now _
theorem refList_l1 (l : List Int) (s at_ r : Int) (i : Nat) (hi : i < l.length) (hri : rd l (i : Int) = r) (ha : 0 ≤ at_) (hr : at_ + r ≤ 2097152) {q : List Int} : ∀ (d : Nat) (x : Int) (out : List Int), x + d = r → 0 ≤ x → out.length + d ≤ 4194304 → Ev (fun k => graftageref27_List.l0 k (out ++ pos (at_ + x) (List.replicate d (decide (i % 2 = 1)))) (at_ + r) (wrap64 ((i : Int) + 1)) s l) q → Ev (fun k => graftageref27_List.l1 k out at_ i x s l) q
  | 0, x, out, hx, h0, ho, hq => by
    refine Ev.step (f := ?_) (fun k => by rw [graftageref27_List.l1, if_pos (by omega), if_pos (by omega), hri, if_neg (by omega), wrap_id (x := at_ + r) (by omega) (by omega)]) ?_
    simpa [pos] using hq
  | d + 1, x, out, hx, h0, ho, hq => by
    by_cases h2 : i % 2 = 1
    · refine Ev.step (f := ?_) (fun k => by rw [graftageref27_List.l1, if_pos (by omega), if_pos (by omega), hri, if_pos (by omega), if_pos (by rw [Int.tmod_eq_emod_of_nonneg (by omega)]; omega), if_pos (by omega), wrap_id (x := x + 1) (by omega) (by omega), wrap_id (x := at_ + x) (by omega) (by omega)]) ?_
      refine refList_l1 l s at_ r i hi hri ha hr d (x + 1) (out ++ [at_ + x]) (by omega) (by omega) (by rw [List.length_append, List.length_singleton]; omega) ?_
      rw [decide_eq_true h2, pos_run] at hq
      rw [decide_eq_true h2, ← Int.add_assoc]
      simpa using hq
    · refine Ev.step (f := ?_) (fun k => by rw [graftageref27_List.l1, if_pos (by omega), if_pos (by omega), hri, if_pos (by omega), if_neg (by rw [Int.tmod_eq_emod_of_nonneg (by omega)]; omega), wrap_id (x := x + 1) (by omega) (by omega)]) ?_
      refine refList_l1 l s at_ r i hi hri ha hr d (x + 1) out (by omega) (by omega) (by omega) ?_
      rw [decide_eq_false h2, pos_false] at hq ⊢
      exact hq
theorem refList_l0 (l : List Int) (s : Int) (hL : l.length ≤ 1099511627776) : ∀ (t : List Int) (i : Nat) (at_ : Int) (out : List Int), l.drop i = t → (∀ r ∈ t, (0 : Int) ≤ r) → 0 ≤ at_ → at_ + total t ≤ 1048576 → (out.length : Int) ≤ at_ → Ev (fun k => graftageref27_List.l0 k out at_ i s l) (out ++ pos at_ (exp (decide (i % 2 = 1)) t))
  | [], i, at_, out, ht, hp, h0, h1, ho => by
    have := drop_end ht
    refine Ev.step (f := ?_) (fun k => by rw [graftageref27_List.l0, if_neg (by omega)]) (ev_eq (Ev.now _) ?_)
    simp [exp, pos]
  | r :: t, i, at_, out, ht, hp, h0, h1, ho => by
    obtain ⟨hlt, hr, ht2⟩ := drop_at ht
    have hr0 := hp r (by simp)
    have hp2 : ∀ x ∈ t, (0 : Int) ≤ x := fun x hx => hp x (by simp [hx])
    have ht0 : 0 ≤ total t := by
      have := exp_length t false hp2
      omega
    rw [total_cons] at h1
    have e1 : wrap64 ((i : Int) + 1) = ((i + 1 : Nat) : Int) := by rw [wrap_id (by omega) (by omega)]; omega
    refine Ev.step (f := ?_) (fun k => by rw [graftageref27_List.l0, if_pos (by omega)]) ?_
    have ee : (decide ((i + 1) % 2 = 1)) = !(decide (i % 2 = 1)) := by
      rw [Bool.eq_iff_iff]
      simp only [Bool.not_eq_true', decide_eq_true_eq, decide_eq_false_iff_not]
      omega
    refine refList_l1 l s at_ r i hlt hr h0 (by omega) r.toNat 0 out (by omega) (by omega) (by omega) ?_
    rw [Int.add_zero]
    have hlen : (pos at_ (List.replicate r.toNat (decide (i % 2 = 1)))).length ≤ r.toNat := by
      rw [pos_length]
      have := List.count_le_length (a := true) (l := List.replicate r.toNat (decide (i % 2 = 1)))
      rwa [List.length_replicate] at this
    have := refList_l0 l s hL t (i + 1) (at_ + r) (out ++ pos at_ (List.replicate r.toNat (decide (i % 2 = 1)))) ht2 hp2 (by omega) (by omega) (by rw [List.length_append]; omega)
    rw [e1]
    refine ev_eq this ?_
    rw [ee, exp, pos_append, List.append_assoc, List.length_replicate, show at_ + (r.toNat : Int) = at_ + r by omega]
theorem refList_ev (s : Int) (l : List Int) (hL : l.length ≤ 1099511627776) : Ev (fun k => graftageref27_List.f k s l) (lst s l) := by
  refine Ev.bind (Right_ev s l hL) ?_
  unfold lst
  refine ev_ite (fun g => ?_) (fun g => ?_)
  · rw [if_pos g]
    obtain ⟨h0, h1, hc, ht⟩ := vd_iff.1 g
    have := refList_l0 l s hL l 0 0 [] rfl (canon_nonneg hc) (by omega) (by omega) (by simp)
    exact_mod_cast this
  · rw [if_neg g]; exact Ev.now _
theorem drop_atB {l : List Bool} {i : Nat} {b : Bool} {t : List Bool} (h : l.drop i = b :: t) : i < l.length ∧ rdOf false l (i : Int) = b ∧ l.drop (i + 1) = t := by
  have hlt : i < l.length := by
    rcases Nat.lt_or_ge i l.length with h1 | h1
    · exact h1
    · rw [List.drop_eq_nil_of_le h1] at h; cases h
  rw [List.drop_eq_getElem_cons hlt] at h
  obtain ⟨h1, h2⟩ := List.cons.inj h
  refine ⟨hlt, ?_, h2⟩
  unfold rdOf
  rw [Int.toNat_natCast, List.getD_eq_getElem?_getD, List.getElem?_eq_getElem hlt]
  exact h1
theorem rle_len : ∀ (l : List Bool) (c : Bool) (n : Nat), (rle c n l).length ≤ l.length + 1
  | [], c, n => by simp [rle]
  | b :: t, c, n => by
    unfold rle
    split
    · have := rle_len t c (n + 1); rw [List.length_cons]; omega
    · have := rle_len t b 1; rw [List.length_cons, List.length_cons]; omega
theorem enc_len (l : List Bool) : (enc l).length ≤ l.length + 1 := by
  unfold enc
  split
  · simp
  · exact rle_len _ _ _
theorem runs_l0 (l : List Bool) (hl : l ≠ []) (hL : l.length ≤ 1099511627776) : ∀ (t : List Bool) (i n : Nat) (is : Bool) (out : List Int), l.drop i = t → i ≤ l.length → n ≤ i → out.length ≤ i → Ev (fun k => graftageref27_runs.l0 k l out n is i) (out ++ rle is n t)
  | [], i, n, is, out, ht, hi, hn, ho => by
    have := drop_end ht
    have hlp := List.length_pos_iff.2 hl
    exact Ev.step (f := ?_) (fun k => by rw [graftageref27_runs.l0, if_neg (by omega), if_pos (by omega), if_pos (by omega)]) (Ev.now _)
  | b :: t, i, n, is, out, ht, hi, hn, ho => by
    obtain ⟨hlt, hr, ht2⟩ := drop_atB ht
    refine Ev.step (f := ?_) (fun k => by rw [graftageref27_runs.l0, if_pos (by omega), if_pos (by omega), hr, wrap_id (x := (i : Int) + 1) (by omega) (by omega), wrap_id (x := (n : Int) + 1) (by omega) (by omega)]) ?_
    refine ev_ite (fun g => ?_) (fun g => ?_)
    · have hne : b ≠ is := by simpa using g
      refine ev_yes (by omega) ?_
      have := runs_l0 l hl hL t (i + 1) 1 b (out ++ [(n : Int)]) ht2 (by omega) (by omega) (by rw [List.length_append, List.length_singleton]; omega)
      rw [rle, if_neg hne]
      refine ev_eq (q := out ++ [(n : Int)] ++ rle b 1 t) ?_ (by simp)
      exact_mod_cast this
    · have he : b = is := by simpa using g
      have := runs_l0 l hl hL t (i + 1) (n + 1) is out ht2 (by omega) (by omega) (by omega)
      rw [rle, if_pos he]
      exact_mod_cast this
theorem runs_ev (l : List Bool) (hL : l.length ≤ 1099511627776) : Ev (fun k => graftageref27_runs.f k l) (enc l) := by
  unfold enc
  by_cases h : l = []
  · subst h
    rw [if_pos rfl]
    show Ev (fun k => graftageref27_runs.l0 k [] [] 0 false 0) _
    exact Ev.step (f := ?_) (fun k => by rw [graftageref27_runs.l0, if_neg (by simp), if_neg (by simp)]) (Ev.now _)
  · rw [if_neg h]
    have := runs_l0 l h hL l 0 0 false [] rfl (by omega) (by omega) (by simp)
    exact_mod_cast this
theorem bits_l1 (l : List Bool) (x1 : Int → Option Bool) (hx : ∀ i : Nat, i < l.length → x1 i = some (rdOf false l i)) (s : Int) (hs : (l.length : Int) = s) (hL : l.length ≤ 1099511627776) (z : Int) : ∀ (t : List Bool) (i n : Nat) (was : Bool) (out : List Int), l.drop i = t → i ≤ l.length → n ≤ i → out.length ≤ i → was = ((out.length : Int) % 2 == 1) → Ev (fun k => bitmap_bits.l1 k s x1 i was n z out) (z, out ++ rle was n t)
  | [], i, n, was, out, ht, hi, hn, ho, hw => by
    have := drop_end ht
    refine Ev.step (f := ?_) (fun k => by rw [bitmap_bits.l1, if_neg (by omega), if_pos (by omega)]) ?_
    exact Ev.step (f := ?_) (fun k => by rw [bitmap_bits.l0, if_neg (by omega)]) (Ev.now _)
  | b :: t, i, n, was, out, ht, hi, hn, ho, hw => by
    obtain ⟨hlt, hr, ht2⟩ := drop_atB ht
    have hxi : x1 (i : Int) = some b := by rw [hx i hlt, hr]
    by_cases hb : b = was
    · refine Ev.step (f := ?_) (fun k => by rw [bitmap_bits.l1, if_pos (by omega), hxi, Option.bind_some, if_pos (by simpa using hb), wrap_id (x := (i : Int) + 1) (by omega) (by omega), wrap_id (x := (n : Int) + 1) (by omega) (by omega)]) ?_
      have := bits_l1 l x1 hx s hs hL z t (i + 1) (n + 1) was out ht2 (by omega) (by omega) (by omega) hw
      rw [rle, if_pos hb]
      exact_mod_cast this
    · refine Ev.step (f := ?_) (fun k => by rw [bitmap_bits.l1, if_pos (by omega), hxi, Option.bind_some, if_neg (by simpa using hb), if_pos (by omega)]) ?_
      have hw2 : (((out ++ [(n : Int)]).length : Int) % 2 == 1) = b := by
        have hbn : b = !was := by cases b <;> cases was <;> simp_all
        rw [hbn, hw, List.length_append, List.length_singleton, Bool.eq_iff_iff]
        simp only [beq_iff_eq, Bool.not_eq_true', beq_eq_false_iff_ne]
        omega
      refine Ev.step (f := ?_) (fun k => by rw [bitmap_bits.l0, if_pos (by omega), hw2]) ?_
      refine Ev.step (f := ?_) (fun k => by rw [bitmap_bits.l1, if_pos (by omega), hxi, Option.bind_some, if_pos (by simp), wrap_id (x := (i : Int) + 1) (by omega) (by omega), wrap_id (x := (0 : Int) + 1) (by omega) (by omega)]) ?_
      have := bits_l1 l x1 hx s hs hL z t (i + 1) 1 b (out ++ [(n : Int)]) ht2 (by omega) (by omega) (by rw [List.length_append, List.length_singleton]; omega) hw2.symm
      rw [rle, if_neg hb]
      refine ev_eq (q := (z, out ++ [(n : Int)] ++ rle b 1 t)) ?_ (by simp)
      exact_mod_cast this
theorem bits_ev (l : List Bool) (x1 : Int → Option Bool) (hx : ∀ i : Nat, i < l.length → x1 i = some (rdOf false l i)) (s : Int) (hs : (l.length : Int) = s) (hL : l.length ≤ 1099511627776) : Ev (fun k => bitmap_bits.f k s x1) (s, enc l) := by
  show Ev (fun k => bitmap_bits.l0 k s x1 0 s []) _
  unfold enc
  by_cases h : l = []
  · subst h
    rw [if_pos rfl]
    exact Ev.step (f := ?_) (fun k => by rw [bitmap_bits.l0, if_neg (by simp at hs; omega)]) (Ev.now _)
  · rw [if_neg h]
    have hlp := List.length_pos_iff.2 h
    refine Ev.step (f := ?_) (fun k => by rw [bitmap_bits.l0, if_pos (by omega)]) ?_
    have := bits_l1 l x1 hx s hs hL s l 0 0 false [] rfl (by omega) (by omega) (by simp) (by simp)
    exact_mod_cast this
def okP (s : Int) : List Int → Bool
  | [] => true
  | n :: t => !(decide (n < 0) || decide (n ≥ s)) && okP s t
def ofB (s : Int) (l : List Int) : Int × List Int × Int :=
  if s < 0 ∨ s > 1048576 then (0, [], 1) else if okP s l = true then (s, enc (setAll (List.replicate s.toNat false) l), 0) else (0, [], 1)
theorem Of_l0 (l : List Int) (s : Int) (h0 : 0 ≤ s) (h1 : s ≤ 1048576) (hL : l.length ≤ 1099511627776) : ∀ (t : List Int) (i : Nat) (set : List Bool), l.drop i = t → (set.length : Int) = s → Ev (fun k => bitmap_Of.l0 k s l (l.length : Int) i set) (if okP s t = true then (s, enc (setAll set t), 0) else (0, [], 1))
  | [], i, set, ht, hs => by
    have := drop_end ht
    refine Ev.step (f := ?_) (fun k => by rw [bitmap_Of.l0, if_neg (by omega)]) ?_
    rw [okP, if_pos rfl, setAll]
    exact Ev.bind (bits_ev set _ (fun i hi => by show bitmap_Of_1.f _ _ = _; unfold bitmap_Of_1.f; rw [if_pos (by omega), if_pos (by omega)]) s hs (by omega)) (Ev.now _)
  | r :: t, i, set, ht, hs => by
    obtain ⟨hlt, hr, ht2⟩ := drop_at ht
    have e1 : wrap64 ((i : Int) + 1) = ((i + 1 : Nat) : Int) := by rw [wrap_id (by omega) (by omega)]; omega
    refine Ev.step (f := ?_) (fun k => by rw [bitmap_Of.l0, if_pos (by omega), if_pos (by omega), if_pos (by omega), hr, e1]) ?_
    rw [okP]
    refine ev_ite (fun g => ev_eq (Ev.now _) ?_) (fun g => ?_)
    · rw [if_neg]; simp [g]
    refine ev_ite (fun g2 => ev_eq (Ev.now _) ?_) (fun g2 => ?_)
    · rw [if_neg]; simp [g2]
    refine ev_yes (by omega) (ev_yes (by omega) ?_)
    have := Of_l0 l s h0 h1 hL t (i + 1) (set.set r.toNat true) ht2 (by rw [List.length_set]; exact hs)
    rw [decide_eq_false g, decide_eq_false g2]
    exact this
theorem Of_ev (s : Int) (l : List Int) (hL : l.length ≤ 1099511627776) : Ev (fun k => bitmap_Of.f k s l) (ofB s l) := by
  unfold ofB
  refine ev_ite (fun g => ?_) (fun g => ?_)
  · rw [if_pos (.inl g)]
    exact Ev.step (f := ?_) (fun k => by rw [bitmap_Of.j0, if_pos rfl]) (Ev.now _)
  · by_cases g2 : s > 1048576
    · rw [if_pos (.inr g2)]
      exact Ev.step (f := ?_) (fun k => by rw [bitmap_Of.j0, if_pos (by simpa using g2)]) (Ev.now _)
    · rw [if_neg (by omega)]
      refine Ev.step (f := ?_) (fun k => by rw [bitmap_Of.j0, if_neg (by simpa using g2), if_pos (by omega), if_pos (by omega)]) ?_
      have := Of_l0 l s (by omega) (by omega) hL l 0 (List.replicate s.toNat false) rfl (by rw [List.length_replicate]; omega)
      exact_mod_cast this
theorem refOf_l0 (l : List Int) (s : Int) (h0 : 0 ≤ s) (h1 : s ≤ 1048576) (hL : l.length ≤ 1099511627776) : ∀ (t : List Int) (i : Nat) (set : List Bool), l.drop i = t → (set.length : Int) = s → Ev (fun k => graftageref27_Of.l0 k s l set i) (if okP s t = true then (s, enc (setAll set t), 0) else (0, [], 1))
  | [], i, set, ht, hs => by
    have := drop_end ht
    refine Ev.step (f := ?_) (fun k => by rw [graftageref27_Of.l0, if_neg (by omega)]) ?_
    rw [okP, if_pos rfl, setAll]
    exact Ev.bind (runs_ev set (by omega)) (Ev.now _)
  | r :: t, i, set, ht, hs => by
    obtain ⟨hlt, hr, ht2⟩ := drop_at ht
    have e1 : wrap64 ((i : Int) + 1) = ((i + 1 : Nat) : Int) := by rw [wrap_id (by omega) (by omega)]; omega
    refine Ev.step (f := ?_) (fun k => by rw [graftageref27_Of.l0, if_pos (by omega), if_pos (by omega), hr, e1]) ?_
    rw [okP]
    refine ev_ite (fun g => ev_eq (Ev.now _) ?_) (fun g => ?_)
    · rw [if_neg]; simp [g]
    refine ev_ite (fun g2 => ev_eq (Ev.now _) ?_) (fun g2 => ?_)
    · rw [if_neg]; simp [g2]
    refine ev_yes (by omega) (ev_yes (by omega) ?_)
    have := refOf_l0 l s h0 h1 hL t (i + 1) (set.set r.toNat true) ht2 (by rw [List.length_set]; exact hs)
    rw [decide_eq_false g, decide_eq_false g2]
    exact this
theorem refOf_ev (s : Int) (l : List Int) (hL : l.length ≤ 1099511627776) : Ev (fun k => graftageref27_Of.f k s l) (ofB s l) := by
  unfold ofB
  refine ev_ite (fun g => ?_) (fun g => ?_)
  · rw [if_pos (.inl g)]
    exact Ev.step (f := ?_) (fun k => by rw [graftageref27_Of.j0, if_pos rfl]) (Ev.now _)
  · by_cases g2 : s > 1048576
    · rw [if_pos (.inr g2)]
      exact Ev.step (f := ?_) (fun k => by rw [graftageref27_Of.j0, if_pos (by simpa using g2)]) (Ev.now _)
    · rw [if_neg (by omega)]
      refine Ev.step (f := ?_) (fun k => by rw [graftageref27_Of.j0, if_neg (by simpa using g2), if_pos (by omega), if_pos (by omega)]) ?_
      have := refOf_l0 l s (by omega) (by omega) hL l 0 (List.replicate s.toNat false) rfl (by rw [List.length_replicate]; omega)
      exact_mod_cast this
theorem lives27 : Ev (fun k => graftagelaw27_lives.f k) true := Ev.of (fun k => graftagelaw27_lives.mono k) (k := 200) (by decide +kernel)
theorem liveOr27 : Ev (fun k => (graftagelaw27_lives.f k).bind fun t => some t) true := Ev.bind lives27 (Ev.now _)
end Go.Proofs.Ytibnkopdkfjgpaa.Q


namespace Go.Proofs.Ytibnkopdkfjgpaa.Q
open Go.RowKit Go.Proofs.YtibnkopdkfjgpaaW.PrintWords Go.Proofs.YtibnkopdkfjgpaaW.PrintLast Go.Proofs.YtibnkopdkfjgpaaW.PrintMore
attribute [local go_sem] max2_int min2_int max_two min_two max_three min_three max_four min_four   -- for this text's walks alone

def bitmap_Or_1.f (a0 : Bool) (a1 : Bool) : Option (Bool) := if a0 = true then (some true) else (some a1)
set_option maxHeartbeats 8000000 in
set_option maxRecDepth 100000 in
theorem bitmap_Or_1.calls (a0 : Bool) (a1 : Bool) (r : Bool) (w : World) (h : bitmap_Or_1.f a0 a1 = some r) :
  Calls Try.prog 30 #[.bool a0, .bool a1] w fun e w' => e = .returned (.bool r) ∧ Drawn0 w w' := by
 unfold bitmap_Or_1.f at h; have H := h; clear h; by_cases c3 : a0 = true
 ·subst c3; rw [if_pos rfl] at H; obtain rfl := oi_ H; go_enter Try.func30, Try.ntmps30; go_wp2
  go_ret
  exact ⟨z1_, z4_⟩
 replace c3 := Bool.eq_false_iff.mpr c3; subst c3; rw [if_neg nft_] at H; obtain rfl := oi_ H; go_enter Try.func30, Try.ntmps30; go_wp2
 go_ret
 exact ⟨z1_, z4_⟩


def bitmap_And_1.f (a0 : Bool) (a1 : Bool) : Option (Bool) := if a0 = true then (some a1) else (some false)
set_option maxHeartbeats 8000000 in
set_option maxRecDepth 100000 in
theorem bitmap_And_1.calls (a0 : Bool) (a1 : Bool) (r : Bool) (w : World) (h : bitmap_And_1.f a0 a1 = some r) :
  Calls Try.prog 32 #[.bool a0, .bool a1] w fun e w' => e = .returned (.bool r) ∧ Drawn0 w w' := by
 unfold bitmap_And_1.f at h; have H := h; clear h; by_cases c3 : a0 = true
 ·subst c3; rw [if_pos rfl] at H; obtain rfl := oi_ H; go_enter Try.func32, Try.ntmps32; go_wp2
  go_ret
  exact ⟨z1_, z4_⟩
 replace c3 := Bool.eq_false_iff.mpr c3; subst c3; rw [if_neg nft_] at H; obtain rfl := oi_ H; go_enter Try.func32, Try.ntmps32; go_wp2
 go_ret
 exact ⟨z1_, z4_⟩


def bitmap_AndNot_1.f (a0 : Bool) (a1 : Bool) : Option (Bool) := if a0 = true then (some (!a1)) else (some false)
set_option maxHeartbeats 8000000 in
set_option maxRecDepth 100000 in
theorem bitmap_AndNot_1.calls (a0 : Bool) (a1 : Bool) (r : Bool) (w : World) (h : bitmap_AndNot_1.f a0 a1 = some r) :
  Calls Try.prog 34 #[.bool a0, .bool a1] w fun e w' => e = .returned (.bool r) ∧ Drawn0 w w' := by
 unfold bitmap_AndNot_1.f at h; have H := h; clear h; by_cases c3 : a0 = true
 ·subst c3; rw [if_pos rfl] at H; obtain rfl := oi_ H; go_enter Try.func34, Try.ntmps34; go_wp2
  go_ret
  exact ⟨z1_, z4_⟩
 replace c3 := Bool.eq_false_iff.mpr c3; subst c3; rw [if_neg nft_] at H; obtain rfl := oi_ H; go_enter Try.func34, Try.ntmps34; go_wp2
 go_ret
 exact ⟨z1_, z4_⟩

end Go.Proofs.Ytibnkopdkfjgpaa.Q


