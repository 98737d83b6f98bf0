/- The law CommitLinks holds: for every input it returns true, and each argument reads afterwards as it read before. -/
import Derived.Test.YtbhfbbfjdklfgaaGreatDoorMCommitLinks1
import Derived.Test.YtbhfbbfjdklfgaaGreatDoorProg
import Derived.Shelf.Strings.Builder1
import Derived.Shelf.Small.Utf8
import Derived.Shelf.Small.Bits
import Derived.Shelf.Small.Strs
import Derived.Shelf.Small.Wraps
import Derived.Shelf.Strings.BuilderF
import Derived.Shelf.Strings.BuilderK
import Derived.Shelf.Utf8.RuneCount
import Derived.Shelf.Strconv.Atoi
import Derived.Shelf.Strconv.Itoa0
import Derived.Shelf.Strconv.Itoa1
import Derived.Shelf.LaysM
import Derived.Shelf.Strconv.Itoa2
import Derived.Shelf.Strconv.Itoa3
import Derived.Shelf.Strconv.AtoiErrFast
import Derived.Shelf.Strconv.ParseIntEmpty
import Derived.Shelf.Strconv.AtoiFail
import Derived.Shelf.Strconv.Clone
import Derived.Shelf.Strconv.SyntaxError
import Derived.Shelf.LaysC
import Derived.Shelf.Strconv.ToError
import Derived.Shelf.Strconv.Lower
import Derived.Shelf.Strconv.ParseUint10
import Derived.Shelf.Strconv.ParseUint10Empty
import Derived.Shelf.Strconv.ParseUint10Any
import Derived.Shelf.Strconv.ParseInt10
import Derived.Shelf.Strconv.AtoiLong
import Derived.Shelf.Strconv.AtoiInnerAll
import Derived.Shelf.Strconv.RangeError
import Derived.Shelf.Strconv.ToErrorRange
import Derived.Shelf.Strconv.AtoiAll
import Derived.Shelf.Strconv.ErrVarAll
import Derived.Shelf.Strings.Search1
import Derived.Shelf.Strings.Search2
import Derived.Shelf.Strings.Search3
import Derived.Shelf.Strings.Cut
import Derived.Shelf.Strings.Count
import Derived.Shelf.Strings.Shaped
import Derived.Shelf.Strings.Prefix
import Derived.Shelf.Strings.Split
import Derived.Shelf.Strings.SplitShaped
import Derived.Shelf.Strings.Runes
import Derived.Shelf.Strings.IndexAny
import Derived.Shelf.Strings.AsciiSet
import Derived.Shelf.Strings.IndexAnyAll
import Derived.Shelf.Unicode.DecodeSlow
import Derived.Shelf.Slices.CompactS
import Derived.Shelf.Slices.Cells
import Derived.Lib.DecodeN
import Derived.Lib.SpaceUEq
import Derived.Laws.Runes
import Derived.Laws.RangeAny
import Derived.WalkMore
import Derived.Lib.OthersKept
import Derived.Lib.TrimUEq
import Derived.Shelf.RegionOpenPlain
import Derived.HandedShaped
import Derived.Lib.LaidTab
import Derived.Lib.LaidU8
import Derived.Lib.SmallJoins
import Derived.Laws.Cover1
set_option linter.unusedVariables false
set_option linter.unusedSimpArgs false
set_option maxHeartbeats 8000000
set_option maxRecDepth 100000
namespace Go.Proofs.YtbhfbbfjdklfgaaGreatDoor.Q
open Go.Proofs.Tryz Go.RowKit YtbhfbbfjdklfgaaGreatDoorW.PrintWords YtbhfbbfjdklfgaaGreatDoorW.PrintLast YtbhfbbfjdklfgaaGreatDoorW.PrintMore
attribute [local go_sem] qen_ qem_ qey_ qex_ qee_ qeg_ qel_ qek_
def errW : Option Int → Value
  | none => .nilIface
  | some c => .iface 0 (.int .i64 c)
theorem qbo_ : errW none = .nilIface := rfl
theorem qbp_ (c : Int) : errW (some c) = .iface 0 (.int .i64 c) := rfl
theorem info5 : (Tryz.prog.info? 5).map (fun i => (i.zero, i.size, i.bytes)) = some (some (.int .u8 0), 1, 1) := by kernel_rfl
theorem info9 : (Tryz.prog.info? 9).map (fun i => (i.zero, i.size, i.bytes)) = some (some (.string ⟨#[]⟩), 1, 16) := by kernel_rfl
theorem info108 : (Tryz.prog.info? 108).map (fun i => (i.zero, i.size, i.bytes)) = some (some (.agg #[(.int .i64 0), (.string ⟨#[]⟩), (.string ⟨#[]⟩)]), 3, 40) := by kernel_rfl
structure S24 where
  f0 : ByteArray
  f1 : ByteArray
  f2 : Int
  f3 : Int
def z24 : S24 := ⟨(⟨#[]⟩ : ByteArray), (⟨#[]⟩ : ByteArray), (0 : Int), (0 : Int)⟩
structure S26 where
  f0 : ByteArray
  f1 : (List ByteArray)
  f2 : S24
  f3 : S24
  f4 : ByteArray
structure S37 where
  f0 : ByteArray
  f1 : Int
  f2 : ByteArray
  f3 : S24
  f4 : ByteArray
def z37 : S37 := ⟨(⟨#[]⟩ : ByteArray), (0 : Int), (⟨#[]⟩ : ByteArray), z24, (⟨#[]⟩ : ByteArray)⟩
structure S50 where
  f0 : Int
  f1 : ByteArray
def k50 : Kd S50 := Kd.iso (Kd.pair (Kd.int .i64) Kd.string) (fun x : S50 => (x.f0, x.f1))
theorem k50_open {w : World} {x : S50} {cs : List Value} (h : k50.K w x cs) : cs = [.int .i64 x.f0, .string x.f1] := by
  obtain ⟨_, _, rfl, rfl, rfl⟩ := h
  exact rfl
structure S70 where
  f0 : ByteArray
  f1 : ByteArray
  f2 : S24
  f3 : ByteArray
structure S68 where
  f0 : ByteArray
  f1 : (List S70)
structure S74 where
  f0 : ByteArray
  f1 : ByteArray
  f2 : ByteArray
  f3 : S24
  f4 : ByteArray
structure S87 where
  f0 : ByteArray
  f1 : Int
structure S108 where
  f0 : Int
  f1 : ByteArray
  f2 : ByteArray
def z108 : S108 := ⟨(0 : Int), (⟨#[]⟩ : ByteArray), (⟨#[]⟩ : ByteArray)⟩
def k108 : Kd S108 := Kd.iso (Kd.pair (Kd.int .i64) (Kd.pair Kd.string Kd.string)) (fun x : S108 => (x.f0, x.f1, x.f2))
theorem k108_open {w : World} {x : S108} {cs : List Value} (h : k108.K w x cs) : cs = [.int .i64 x.f0, .string x.f1, .string x.f2] := by
  obtain ⟨_, _, rfl, rfl, ⟨_, _, rfl, rfl, rfl⟩⟩ := h
  exact rfl
theorem k108_mkM (w : World) (base : Nat) (ok : Nat → Prop) (x : S108)  : k108.M w base ok x [.int .i64 x.f0, .string x.f1, .string x.f2] := ⟨[.int .i64 x.f0], [.string x.f1, .string x.f2], rfl, rfl, ⟨[.string x.f1], [.string x.f2], rfl, rfl, rfl⟩⟩
def qd_ (xs : List S108) (i : Int) : S108 := xs.getD i.toNat z108
theorem qew_ {w : World} {A : Option Addr} {n : Nat} {xs : List S108} (h : Kd.C k108 w A n xs) (i : Int) (h0 : 0 ≤ i) (h1 : i < n) : ∃ ad , A = some ad ∧ w.cell? (ad.add (i.toNat * 3)) = some (.int .i64 (qd_ xs i).f0) ∧ w.cell? ⟨(ad.add (i.toNat * 3)).block, (ad.add (i.toNat * 3)).off + 1, none⟩ = some (.string (qd_ xs i).f1) ∧ w.cell? ⟨(ad.add (i.toNat * 3)).block, (ad.add (i.toNat * 3)).off + 2, none⟩ = some (.string (qd_ xs i).f2) := by
  obtain ⟨ad, c, e, _, hK, hc0⟩ := Kd.C_get h z108 i h0 h1
  have hc : ∀ j u, c[j]? = some u → w.cell? (ad.add (i.toNat * 3 + j)) = some u := hc0
  obtain rfl := k108_open hK
  exact ⟨ad, e, hc 0 _ rfl, by rw [← add_field _ _ 1 (by omega)]; exact hc 1 _ rfl, by rw [← add_field _ _ 2 (by omega)]; exact hc 2 _ rfl⟩
structure S147 where
  f0 : Int
  f1 : ByteArray
theorem eqA24 (d : Nat) (w : World) (x0 y0 : ByteArray) (x1 y1 : ByteArray) (x2 y2 : Int) (x3 y3 : Int) :
    (Op.equalIn (d + 2) 24 (.agg #[.string x0, .string x1, .int .i64 x2, .int .i64 x3]) (.agg #[.string y0, .string y1, .int .i64 y2, .int .i64 y3])).run Tryz.prog w = .ok (x0.toList == y0.toList && (x1.toList == y1.toList && (x2 == y2 && (x3 == y3)))) w := by
  refine eqA_of underlying24 (by kernel_rfl) ?_
  refine eqf_cons (by rfl) (by go_simp; rfl) (by go_simp; rfl) (by go_simp) ?_
  refine eqf_cons (by rfl) (by go_simp; rfl) (by go_simp; rfl) (by go_simp) ?_
  refine eqf_cons (by rfl) (by go_simp; rfl) (by go_simp; rfl) (by go_simp) ?_
  exact eqf_last (by rfl) (by go_simp; rfl) (by go_simp; rfl) (by go_simp)
theorem qby_ (l : List UInt8) : (l != []) = !l.isEmpty := by cases l <;> rfl
class Up (w w1 : World) : Prop where
  b : Below w.heap.size w w1
instance (w : World) : Up w w := ⟨Below.refl _ _⟩
instance (w w1 : World) (o : Obj) [h : Up w w1] : Up w (w1.alloc o) := ⟨qaw_ h.b o⟩
instance (w w1 : World) [h : Up w w1] : Up w w1.drew := ⟨qbu_ h.b⟩
instance (w w1 : World) (n : Nat) [h : Up w w1] : Up w (w1.drewN n) := ⟨qay_ h.b n⟩
theorem hb_ {w0 w w1 : World} [h : Up w w1] (hb : Below w0.heap.size w0 w) : Below w0.heap.size w0 w1 := qdi_ hb h.b
theorem bk_ {w w1 : World} {g : Nat} {o : Obj} [h : Up w w1] (hb : w.heap[g]? = some o) : w1.heap[g]? = some o := qbk_ hb h.b
theorem rk_ {α : Type} {d : Kd α} {e base : Nat} {ok : Nat → Prop} {v : Value} {xs : List α} {w w1 : World} [h : Up w w1] (hr : d.R e w base ok v xs) : d.R e w1 base ok v xs := Kd.R_below hr h.b
theorem hs_ {p : Prop} (h : p := by repeat (first | (with_reducible first | exact HB.out | apply qaw_ | apply qay_ | apply qbu_ | refine qz_ ?_ (qa_.out (by assumption))) | exact HB.out)) : p := h
theorem bc2o {w : World} {g : Nat} {t : TypeId} {x0 x1 : Value} (h : w.heap[g]? = some (.cells #[x0, x1] t (0, 0))) : w.cell? ⟨g, 0, none⟩ = some x0 ∧ w.cell? ⟨g, 1, none⟩ = some x1 := ⟨(qc_ h 0).trans rfl, (qc_ h 1).trans rfl⟩
theorem bc2 {w : World} {g : Nat} {t : TypeId} {x0 x1 : Value} (h : w.heap[g]? = some (.cells #[x0, x1] t (0, 0))) : w.cell? ⟨g, 0, none⟩ = some x0 ∧ w.cell? ⟨g, 1, none⟩ = some x1 ∧ ∀ i, w.frozen? ⟨g, i, none⟩ = false := ⟨(qc_ h 0).trans rfl, (qc_ h 1).trans rfl, fun i => qp_ h i⟩
theorem bc3 {w : World} {g : Nat} {t : TypeId} {x0 x1 x2 : Value} (h : w.heap[g]? = some (.cells #[x0, x1, x2] t (0, 0))) : w.cell? ⟨g, 0, none⟩ = some x0 ∧ w.cell? ⟨g, 1, none⟩ = some x1 ∧ w.cell? ⟨g, 2, none⟩ = some x2 ∧ ∀ i, w.frozen? ⟨g, i, none⟩ = false := ⟨(qc_ h 0).trans rfl, (qc_ h 1).trans rfl, (qc_ h 2).trans rfl, fun i => qp_ h i⟩
theorem bc4o {w : World} {g : Nat} {t : TypeId} {x0 x1 x2 x3 : Value} (h : w.heap[g]? = some (.cells #[x0, x1, x2, x3] t (0, 0))) : w.cell? ⟨g, 0, none⟩ = some x0 ∧ w.cell? ⟨g, 1, none⟩ = some x1 ∧ w.cell? ⟨g, 2, none⟩ = some x2 ∧ w.cell? ⟨g, 3, none⟩ = some x3 := ⟨(qc_ h 0).trans rfl, (qc_ h 1).trans rfl, (qc_ h 2).trans rfl, (qc_ h 3).trans rfl⟩
theorem bc4 {w : World} {g : Nat} {t : TypeId} {x0 x1 x2 x3 : Value} (h : w.heap[g]? = some (.cells #[x0, x1, x2, x3] t (0, 0))) : w.cell? ⟨g, 0, none⟩ = some x0 ∧ w.cell? ⟨g, 1, none⟩ = some x1 ∧ w.cell? ⟨g, 2, none⟩ = some x2 ∧ w.cell? ⟨g, 3, none⟩ = some x3 ∧ ∀ i, w.frozen? ⟨g, i, none⟩ = false := ⟨(qc_ h 0).trans rfl, (qc_ h 1).trans rfl, (qc_ h 2).trans rfl, (qc_ h 3).trans rfl, fun i => qp_ h i⟩
theorem bc8o {w : World} {g : Nat} {t : TypeId} {x0 x1 x2 x3 x4 x5 x6 x7 : Value} (h : w.heap[g]? = some (.cells #[x0, x1, x2, x3, x4, x5, x6, x7] t (0, 0))) : w.cell? ⟨g, 0, none⟩ = some x0 ∧ w.cell? ⟨g, 1, none⟩ = some x1 ∧ w.cell? ⟨g, 2, none⟩ = some x2 ∧ w.cell? ⟨g, 3, none⟩ = some x3 ∧ w.cell? ⟨g, 4, none⟩ = some x4 ∧ w.cell? ⟨g, 5, none⟩ = some x5 ∧ w.cell? ⟨g, 6, none⟩ = some x6 ∧ w.cell? ⟨g, 7, none⟩ = some x7 := ⟨(qc_ h 0).trans rfl, (qc_ h 1).trans rfl, (qc_ h 2).trans rfl, (qc_ h 3).trans rfl, (qc_ h 4).trans rfl, (qc_ h 5).trans rfl, (qc_ h 6).trans rfl, (qc_ h 7).trans rfl⟩
theorem bc8 {w : World} {g : Nat} {t : TypeId} {x0 x1 x2 x3 x4 x5 x6 x7 : Value} (h : w.heap[g]? = some (.cells #[x0, x1, x2, x3, x4, x5, x6, x7] t (0, 0))) : w.cell? ⟨g, 0, none⟩ = some x0 ∧ w.cell? ⟨g, 1, none⟩ = some x1 ∧ w.cell? ⟨g, 2, none⟩ = some x2 ∧ w.cell? ⟨g, 3, none⟩ = some x3 ∧ w.cell? ⟨g, 4, none⟩ = some x4 ∧ w.cell? ⟨g, 5, none⟩ = some x5 ∧ w.cell? ⟨g, 6, none⟩ = some x6 ∧ w.cell? ⟨g, 7, none⟩ = some x7 ∧ ∀ i, w.frozen? ⟨g, i, none⟩ = false := ⟨(qc_ h 0).trans rfl, (qc_ h 1).trans rfl, (qc_ h 2).trans rfl, (qc_ h 3).trans rfl, (qc_ h 4).trans rfl, (qc_ h 5).trans rfl, (qc_ h 6).trans rfl, (qc_ h 7).trans rfl, fun i => qp_ h i⟩
theorem bc11o {w : World} {g : Nat} {t : TypeId} {x0 x1 x2 x3 x4 x5 x6 x7 x8 x9 x10 : Value} (h : w.heap[g]? = some (.cells #[x0, x1, x2, x3, x4, x5, x6, x7, x8, x9, x10] t (0, 0))) : w.cell? ⟨g, 0, none⟩ = some x0 ∧ w.cell? ⟨g, 1, none⟩ = some x1 ∧ w.cell? ⟨g, 2, none⟩ = some x2 ∧ w.cell? ⟨g, 3, none⟩ = some x3 ∧ w.cell? ⟨g, 4, none⟩ = some x4 ∧ w.cell? ⟨g, 5, none⟩ = some x5 ∧ w.cell? ⟨g, 6, none⟩ = some x6 ∧ w.cell? ⟨g, 7, none⟩ = some x7 ∧ w.cell? ⟨g, 8, none⟩ = some x8 ∧ w.cell? ⟨g, 9, none⟩ = some x9 ∧ w.cell? ⟨g, 10, none⟩ = some x10 := ⟨(qc_ h 0).trans rfl, (qc_ h 1).trans rfl, (qc_ h 2).trans rfl, (qc_ h 3).trans rfl, (qc_ h 4).trans rfl, (qc_ h 5).trans rfl, (qc_ h 6).trans rfl, (qc_ h 7).trans rfl, (qc_ h 8).trans rfl, (qc_ h 9).trans rfl, (qc_ h 10).trans rfl⟩
theorem bc11 {w : World} {g : Nat} {t : TypeId} {x0 x1 x2 x3 x4 x5 x6 x7 x8 x9 x10 : Value} (h : w.heap[g]? = some (.cells #[x0, x1, x2, x3, x4, x5, x6, x7, x8, x9, x10] t (0, 0))) : w.cell? ⟨g, 0, none⟩ = some x0 ∧ w.cell? ⟨g, 1, none⟩ = some x1 ∧ w.cell? ⟨g, 2, none⟩ = some x2 ∧ w.cell? ⟨g, 3, none⟩ = some x3 ∧ w.cell? ⟨g, 4, none⟩ = some x4 ∧ w.cell? ⟨g, 5, none⟩ = some x5 ∧ w.cell? ⟨g, 6, none⟩ = some x6 ∧ w.cell? ⟨g, 7, none⟩ = some x7 ∧ w.cell? ⟨g, 8, none⟩ = some x8 ∧ w.cell? ⟨g, 9, none⟩ = some x9 ∧ w.cell? ⟨g, 10, none⟩ = some x10 ∧ ∀ i, w.frozen? ⟨g, i, none⟩ = false := ⟨(qc_ h 0).trans rfl, (qc_ h 1).trans rfl, (qc_ h 2).trans rfl, (qc_ h 3).trans rfl, (qc_ h 4).trans rfl, (qc_ h 5).trans rfl, (qc_ h 6).trans rfl, (qc_ h 7).trans rfl, (qc_ h 8).trans rfl, (qc_ h 9).trans rfl, (qc_ h 10).trans rfl, fun i => qp_ h i⟩
theorem nl_ {a b : Nat} (h : a ≤ b) : (b < a) = False := eq_false (Nat.not_lt.2 h)
theorem ns_ {p : Prop} (h : p := by (simp only [ByteArray.size_append] at h_; exact eq_false (Nat.not_lt.2 h_))) : p := h
theorem mz_ {p : Prop} (h : p := by repeat' first | (with_reducible exact LeO.refl _) | (with_reducible exact LeO.none _) | (with_reducible refine LeO.ite ?_ ?_) | (with_reducible refine LeO.bind ?_ (fun _ => ?_)) | (with_reducible apply m0_) | (with_reducible apply m1_) | (with_reducible apply m2_) | (with_reducible apply m3_) | (with_reducible apply m4_) | (with_reducible apply m5_) | (with_reducible apply m6_) | (with_reducible apply m7_) | (with_reducible apply m8_) | (with_reducible apply m9_) | (with_reducible apply m10_) | (with_reducible apply m11_) | apply m0_ | apply m1_ | apply m2_ | apply m3_ | apply m4_ | apply m5_ | apply m6_ | apply m7_ | apply m8_ | apply m9_ | apply m10_ | apply m11_ | exact LeO.none _ | refine LeO.ite ?_ ?_ | refine LeO.bind ?_ (fun _ => ?_)) : p := h
theorem bx_ {α β : Type} {x : Option α} {f : α → Option β} {b : β} (h : x.bind f = some b) : ∃ a, qa_ (x = some a) ∧ f a = some b := by obtain ⟨a, h1, h2⟩ := Option.bind_eq_some_iff.mp h; exact ⟨a, ⟨h1⟩, h2⟩
theorem ad_ {w : World} {g : Nat} {o : Obj} (h : qa_ (w.heap[g]? = some o)) : qa_ (w.drew.heap[g]? = some o) := ⟨blk_drew h.out⟩
theorem hd_ {w w1 : World} (h : qa_ (Below w.heap.size w w1)) : qa_ (Below w.heap.size w w1.drew) := ⟨qbu_ h.out⟩
theorem dt_ {p : Prop} [Decidable p] (h : p) : decide p = true := decide_eq_true h
theorem df_ {p : Prop} [Decidable p] (h : ¬ p) : decide p = false := decide_eq_false h
theorem nf_ {α : Type} [BEq α] [LawfulBEq α] {a b : α} (h : a = b) : (a != b) = false := bne_eq_false_iff_eq.mpr h
theorem nt_ {α : Type} [BEq α] [LawfulBEq α] {a b : α} (h : a ≠ b) : (a != b) = true := bne_iff_ne.mpr h
theorem ef_ {α : Type} [BEq α] [LawfulBEq α] {a b : α} (h : a ≠ b) : (a == b) = false := beq_eq_false_iff_ne.mpr h
theorem et_ {α : Type} [BEq α] [LawfulBEq α] {a b : α} (h : a = b) : (a == b) = true := beq_iff_eq.mpr h
theorem cm_ {P : Program} {f : FuncId} {args : Array Value} {w : World} {v : Value} {R : World → Prop} {K : Value → World → Prop} (h : Calls P f args w fun e w' => e = .returned v ∧ R w') (k : ∀ w', R w' → K v w') : Calls P f args w fun e w' => ∃ v, e = .returned v ∧ K v w' := h.mono fun e w' q => ⟨v, q.1, k w' q.2⟩
theorem nft_ : ¬ (false = true) := by decide
def bl : Nat → Nat → List Bool
  | 0, _ => []
  | n + 1, m => (m % 2 == 1) :: bl n (m / 2)
def bs (n m : Nat) : Array Bool := ⟨bl n m⟩
theorem y0_ {p : Prop} [Decidable p] (h : decide p = true := by first | (with_reducible assumption) | assumption) : p := of_decide_eq_true h
theorem pj2_ {t0 t1 : Type} {a0 b0 : t0} {a1 b1 : t1} (h : some (a0, a1) = some (b0, b1)) : a0 = b0 ∧ a1 = b1 := by simpa only [Option.some.injEq, Prod.mk.injEq] using h
theorem pj3_ {t0 t1 t2 : Type} {a0 b0 : t0} {a1 b1 : t1} {a2 b2 : t2} (h : some (a0, a1, a2) = some (b0, b1, b2)) : a0 = b0 ∧ a1 = b1 ∧ a2 = b2 := by simpa only [Option.some.injEq, Prod.mk.injEq] using h
theorem pj4_ {t0 t1 t2 t3 : Type} {a0 b0 : t0} {a1 b1 : t1} {a2 b2 : t2} {a3 b3 : t3} (h : some (a0, a1, a2, a3) = some (b0, b1, b2, b3)) : a0 = b0 ∧ a1 = b1 ∧ a2 = b2 ∧ a3 = b3 := by simpa only [Option.some.injEq, Prod.mk.injEq] using h
theorem pj5_ {t0 t1 t2 t3 t4 : Type} {a0 b0 : t0} {a1 b1 : t1} {a2 b2 : t2} {a3 b3 : t3} {a4 b4 : t4} (h : some (a0, a1, a2, a3, a4) = some (b0, b1, b2, b3, b4)) : a0 = b0 ∧ a1 = b1 ∧ a2 = b2 ∧ a3 = b3 ∧ a4 = b4 := by simpa only [Option.some.injEq, Prod.mk.injEq] using h
theorem pj6_ {t0 t1 t2 t3 t4 t5 : Type} {a0 b0 : t0} {a1 b1 : t1} {a2 b2 : t2} {a3 b3 : t3} {a4 b4 : t4} {a5 b5 : t5} (h : some (a0, a1, a2, a3, a4, a5) = some (b0, b1, b2, b3, b4, b5)) : a0 = b0 ∧ a1 = b1 ∧ a2 = b2 ∧ a3 = b3 ∧ a4 = b4 ∧ a5 = b5 := by simpa only [Option.some.injEq, Prod.mk.injEq] using h
theorem pj9_ {t0 t1 t2 t3 t4 t5 t6 t7 t8 : Type} {a0 b0 : t0} {a1 b1 : t1} {a2 b2 : t2} {a3 b3 : t3} {a4 b4 : t4} {a5 b5 : t5} {a6 b6 : t6} {a7 b7 : t7} {a8 b8 : t8} (h : some (a0, a1, a2, a3, a4, a5, a6, a7, a8) = some (b0, b1, b2, b3, b4, b5, b6, b7, b8)) : a0 = b0 ∧ a1 = b1 ∧ a2 = b2 ∧ a3 = b3 ∧ a4 = b4 ∧ a5 = b5 ∧ a6 = b6 ∧ a7 = b7 ∧ a8 = b8 := by simpa only [Option.some.injEq, Prod.mk.injEq] using h
theorem pj12_ {t0 t1 t2 t3 t4 t5 t6 t7 t8 t9 t10 t11 : Type} {a0 b0 : t0} {a1 b1 : t1} {a2 b2 : t2} {a3 b3 : t3} {a4 b4 : t4} {a5 b5 : t5} {a6 b6 : t6} {a7 b7 : t7} {a8 b8 : t8} {a9 b9 : t9} {a10 b10 : t10} {a11 b11 : t11} (h : some (a0, a1, a2, a3, a4, a5, a6, a7, a8, a9, a10, a11) = some (b0, b1, b2, b3, b4, b5, b6, b7, b8, b9, b10, b11)) : a0 = b0 ∧ a1 = b1 ∧ a2 = b2 ∧ a3 = b3 ∧ a4 = b4 ∧ a5 = b5 ∧ a6 = b6 ∧ a7 = b7 ∧ a8 = b8 ∧ a9 = b9 ∧ a10 = b10 ∧ a11 = b11 := by simpa only [Option.some.injEq, Prod.mk.injEq] using h
theorem z0_ {p : Prop} (h : p := by first | (with_reducible assumption) | assumption) : p := h
theorem z1_ {p : Prop} (h : p := by first | rfl | (simp; done) | (simp [*]; done) | (simp [qby_]; done) | (simp [*, qby_]; done)) : p := h
theorem z2_ {p : Prop} (h : p := by repeat (first | exact Drawn0.refl _ | apply Drawn0.step)) : p := h
theorem z3_ {p : Prop} (h : p := by first | rfl | (simp [qbo_, qbp_] <;> rfl) | (simp [*, qbo_, qbp_] <;> rfl) | (simp [qby_]; done) | (simp [*, qby_]; done)) : p := h
theorem z4_ {p : Prop} (h : p := by first | omega | exact Nat.le_refl _) : p := h
theorem z5_ {p : Prop} (h : p := by (try simp only [List.map_toArray, List.map_cons, List.map_nil]); first | done | rfl | (simp only [List.length_drop, List.length_take]; rfl)) : p := h
theorem z6_ {p : Prop} (h : p := by first | exact Kd.R_nil _ _ _ _ _ | exact Kd.N_nil _ _ _ _ _ | exact Kd.V_nil _ _ _ _ _ | exact Kd.Q_nil _ _ _ _ _ | exact Kd.S_nil _ _ _ _ _) : p := h
theorem z7_ {p : Prop} (h : p := by repeat (first | (with_reducible first | exact HK.out | apply qaj_.set_ | apply qht_ | apply keep_drew | apply qhy_) | exact HK.out)) : p := h
theorem z8_ {p : Prop} (h : p := by (try simp only [List.map_toArray, List.map_cons, List.map_nil]); first | done | rfl) : p := h
theorem z9_ {p : Prop} (h : p := by repeat (first | (with_reducible first | exact HB.out | apply qaw_ | apply qay_ | apply qbu_ | refine qz_ ?_ (qax_.ge HI101.out) | refine qz_ ?_ E103.out) | exact HB.out)) : p := h
theorem z10_ {p : Prop} (h : p := by repeat (first | (with_reducible first | exact HI0.out | apply IsS87.alloc | apply IsS87.drewN | apply IsS87.drew | apply IsS87.set_0 | apply IsS87.set_1) | exact HI0.out)) : p := h
theorem z11_ {p : Prop} (h : p := by repeat (first | (with_reducible first | exact HB.out | apply qaw_ | apply qay_ | apply qbu_ | refine qz_ ?_ (IsS87.ge HI0.out)) | exact HB.out)) : p := h
theorem z12_ {p : Prop} (h : p := by repeat (first | (with_reducible first | exact HI101.out | apply qax_.alloc | apply qax_.drewN | apply qax_.drew | apply qax_.set_0 | refine qax_.far ?_ N101_103.out _) | exact HI101.out)) : p := h
theorem z13_ {p : Prop} (h : p := by repeat (first | (with_reducible first | exact HK.out | apply qaj_.set_ | apply qht_ | apply keep_drew | apply qhy_ | refine keep_far ?_ W107.out _) | exact HK.out)) : p := h
theorem z15_ {p : Prop} (h : p := by (with_reducible repeat (first | apply Kd.R_alloc | apply Kd.R_drewN | apply Kd.R_drew)); exact HO_3.out) : p := h
theorem z17_ {p : Prop} (h : p := by repeat (first | (with_reducible first | exact HB.out | apply qaw_ | apply qay_ | apply qbu_ | refine qz_ ?_ (qax_.ge HI101.out)) | exact HB.out)) : p := h
theorem z18_ {p : Prop} (h : p := by repeat (first | (with_reducible first | exact HI0.out | apply IsS87.alloc | apply IsS87.drewN | apply IsS87.drew | apply IsS87.set_0 | apply IsS87.set_1 | refine IsS87.far ?_ N0_107.out _) | exact HI0.out)) : p := h
theorem z19_ {p : Prop} (h : p := by repeat (first | (with_reducible first | exact HI101.out | apply qax_.alloc | apply qax_.drewN | apply qax_.drew | apply qax_.set_0) | exact HI101.out)) : p := h
theorem z20_ {p : Prop} (h : p := by (with_reducible repeat (first | apply Kd.R_alloc | apply Kd.R_drewN | apply Kd.R_drew)); exact HO_5.out) : p := h
theorem z22_ {p : Prop} (h : p := by repeat (first | (with_reducible first | exact HB.out | apply qaw_ | apply qay_ | apply qbu_ | refine qz_ ?_ (IsS87.ge HI0.out) | refine qz_ ?_ E107.out) | exact HB.out)) : p := h
theorem z23_ {p : Prop} (h : p := by repeat (first | (with_reducible first | exact HB.out | apply qaw_ | apply qay_ | apply qbu_ | refine qz_ ?_ (IsS84.ge HI107.out) | refine qz_ ?_ E101.out) | exact HB.out)) : p := h
theorem z25_ {p : Prop} (h : p := by repeat (first | (with_reducible first | exact HI107.out | apply IsS84.alloc | apply IsS84.drewN | apply IsS84.drew | apply IsS84.set_0 | refine IsS84.far ?_ N107_101.out _) | exact HI107.out)) : p := h
theorem z27_ {p : Prop} (h : p := by first | (go_simp; done) | (go_simp; rfl)) : p := h
theorem z28_ {p : Prop} (h : p := by (with_reducible repeat (first | apply Kd.R_alloc | apply Kd.R_drewN | apply Kd.R_drew)); exact HO_107001.out) : p := h
theorem z31_ {p : Prop} (h : p := by (with_reducible repeat (first | apply Kd.R_alloc | apply Kd.R_drewN | apply Kd.R_drew)); exact HO168.out) : p := h
theorem z33_ {p : Prop} (h : p := by repeat (first | (with_reducible first | exact HK.out | apply qaj_.set_ | apply qht_ | apply keep_drew | apply qhy_ | refine keep_far ?_ W107.out _ | refine keep_far ?_ W116.out _) | exact HK.out)) : p := h
theorem bb_ {w w1 w2 : World} {g : Nat} {o : Obj} [h : Up w w1] (hb : w.heap[g]? = some o) (h2 : Below w1.heap.size w1 w2) : w2.heap[g]? = some o := qbk_ (bk_ hb) h2
theorem bl_ {w w1 : World} {g : Nat} {o : Obj} [h : Up w w1] (hb : w.heap[g]? = some o) : g ≠ w1.heap.size := Nat.ne_of_lt (blk_lt (bk_ (w1 := w1) hb))
theorem bg_ {w w1 : World} {g : Nat} {o : Obj} [h : Up w w1] (hb : w.heap[g]? = some o) : w1.heap.size ≠ g := Nat.ne_of_gt (blk_lt (bk_ (w1 := w1) hb))
theorem nl2_ {w w1 : World} {g q : Nat} {o : Obj} (hg : q = w1.heap.size) [h : Up w w1] (hb : w.heap[g]? = some o) : g ≠ q := hg ▸ bl_ hb
theorem ng2_ {w w1 : World} {g q : Nat} {o : Obj} (hg : q = w1.heap.size) [h : Up w w1] (hb : w.heap[g]? = some o) : q ≠ g := hg ▸ bg_ hb
theorem gw_ {w0 w w1 : World} {g : Nat} (hg : g = w1.heap.size) [h : Up w w1] (hb : Below w0.heap.size w0 w) : w0.heap.size ≤ g := hg ▸ qj_ (hb_ hb)
theorem be_ {P : Program} {ops : Array Oper} {rest : List Oper} {o : Oper} {a : Act} {Q : Exit → Act → World → Prop} {W : World} {cs : Array Value} {t : TypeId} (h : ∀ g, g = W.heap.size → ∀ w1, w1.heap[g]? = some (.cells cs t (0, 0)) → Below W.heap.size W w1 → wpList P ops Q rest (a.put o.dst (.pointer (some ⟨g, 0, none⟩))) w1) {N : Tmp} (hd : o.dst = some N := by rfl) (hg : o.guard = none := by rfl) (hr : (execOp a.eval o).run P W = .ok (.value (.pointer (some ⟨W.heap.size, 0, none⟩))) (W.alloc (.cells cs t (0, 0))) := by first | (go_simp; done) | (go_simp; rfl)) : wpList P ops Q (o :: rest) a W := qfw_ hg hd hr h
theorem bpt_ {w : World} {g : Nat} {t : TypeId} {cs cs' : Array Value} {i : Nat} {u : Value} (h : w.heap[g]? = some (.cells cs t (0, 0))) (e : cs.setIfInBounds i u = cs') : (w.setCell ⟨g, i, none⟩ u).heap[g]? = some (.cells cs' t (0, 0)) := qft_ h i u e
theorem ab_ {w w1 w2 : World} {g : Nat} {o : Obj} [h : Up w w1] (hb : qa_ (w.heap[g]? = some o)) (h2 : Below w1.heap.size w1 w2) : qa_ (w2.heap[g]? = some o) := ⟨bb_ hb.out h2⟩
theorem ah_ {w0 w w1 w2 : World} [h : Up w w1] (h1 : qa_ (Below w0.heap.size w0 w)) (h2 : Below w1.heap.size w1 w2) : qa_ (Below w0.heap.size w0 w2) := ⟨qdi_ (hb_ h1.out) h2⟩
theorem ag_ {w0 w w1 : World} {g : Nat} (hg : g = w1.heap.size) [h : Up w w1] (hb : qa_ (Below w0.heap.size w0 w)) : qa_ (w0.heap.size ≤ g) := ⟨gw_ hg hb.out⟩
theorem gl_ {P : Program} {ops : Array Oper} {Q : Exit → Act → World → Prop} {rest : List Oper} {oi : Oper} {a : Act} {w : World} (N : Option Tmp) {f : FuncId} {fn : Func} {as' : Array Operand} {ts : Array TypeId} (hf : P.funcs[f]? = some fn) (args : Array Value) (h : Calls P f args w fun e w' => ∃ v, e = .returned v ∧ wpList P ops Q rest (a.put N v) w') (hd : oi.dst = N := by rfl) (hg : oi.guard = none := by rfl) (hname : (fn.name == "runtime.NumGoroutine") = false := by kernel_rfl) (hb : fn.body.isSome = true := by rfl) (hop : oi.op = .call { callee := .value (.func f), args := as', argTypes := ts } := by rfl) (hargs : as'.map a.eval = args := by (try simp only [List.map_toArray, List.map_cons, List.map_nil]); first | done | rfl | (simp only [List.length_drop, List.length_take]; rfl)) : wpList P ops Q (oi :: rest) a w := goesL_ N hd hg hf hname hb args hop hargs h
theorem bf_ {w : World} {g b i : Nat} {t : TypeId} {cs : Array Value} (h : w.heap[g]? = some (.cells cs t (0, 0))) (hb : g ≠ b) (u : Value) : (w.setCell ⟨b, i, none⟩ u).heap[g]? = some (.cells cs t (0, 0)) := blk_far h hb u
theorem zb_ {p : Prop} (h : p := by (with_reducible repeat (first | apply blk_drewN | apply blk_drew | apply qei_ | apply bpt_ | apply (bf_ (hb := f_.out)))); exact b_.out; (all_goals first | (simp only [List.setIfInBounds_toArray, List.set_cons_zero, List.set_cons_succ]; done) | (simp only [List.setIfInBounds_toArray, List.set_cons_zero, List.set_cons_succ]; rfl))) : p := h
theorem pun_ {P : Program} {ops : Array Oper} {Q : Exit → Act → World → Prop} {S : World → Prop} {ds : List Nat} {md : Region.Mode} {oi : Oper} {v : Value} {fuel : Nat} {l : Array Bool} {a a' : Act} {w : World} (i : Nat) (n : Tmp) (p q : Nat) (h : qai_ P md ops Q S ds fuel (bs p q) a' w) (hi : ops[i]? = some oi := by rfl) (hN : oi.dst = some n := by rfl) (hc : anyB md ops l (bs p q) i = true := by exact any_of HT_.out (by kernel_rfl)) (hQ : ∀ c a w, Q (.panic c) (a.put oi.dst v) w → Q (.panic c) a w := by exact fun _ _ _ h => h) (hy : Yields P ops oi v a := by (refine Or.inl ⟨by rfl, ?_⟩; intro w'; go_simp; with_reducible rfl)) (ha : a.put (some n) v = a' := by (simp only [Act.put, List.setIfInBounds_toArray, List.set_cons_zero, List.set_cons_succ, i64_w, i32_w]; rfl)) : qai_ P md ops Q S ds (fuel + 1) l a w := pure_ (bs p q) hi hN hc hQ hy ha h
theorem pkn_ {P : Program} {ops : Array Oper} {Q : Exit → Act → World → Prop} {S : World → Prop} {ds : List Nat} {md : Region.Mode} {oi : Oper} {v : Value} {fuel : Nat} {l : Array Bool} {a a' : Act} {w : World} (i : Nat) (n : Tmp) (p q : Nat) (h : qai_ P md ops Q S ds fuel (bs p q) a' w) (hi : ops[i]? = some oi := by rfl) (hN : oi.dst = some n := by rfl) (hc : anyB md ops l (bs p q) i = true := by kernel_rfl) (hQ : ∀ c a w, Q (.panic c) (a.put oi.dst v) w → Q (.panic c) a w := by exact fun _ _ _ h => h) (hy : Yields P ops oi v a := by (refine Or.inl ⟨by rfl, ?_⟩; intro w'; go_simp; with_reducible rfl)) (ha : a.put (some n) v = a' := by (simp only [Act.put, List.setIfInBounds_toArray, List.set_cons_zero, List.set_cons_succ, i64_w, i32_w]; rfl)) : qai_ P md ops Q S ds (fuel + 1) l a w := pure_ (bs p q) hi hN hc hQ hy ha h
theorem pnn_ {P : Program} {ops : Array Oper} {Q : Exit → Act → World → Prop} {S : World → Prop} {ds : List Nat} {md : Region.Mode} {oi : Oper} {fuel : Nat} {l : Array Bool} {a a' : Act} {w : World} (i : Nat) (n : Tmp) (p q : Nat) (h : qai_ P md ops Q S ds fuel (bs p q) a' w) (hi : ops[i]? = some oi := by rfl) (hN : oi.dst = some n := by rfl) (hc : anyB md ops l (bs p q) i = true := by exact any_of HT_.out (by kernel_rfl)) (hQ : ∀ c a w, Q (.panic c) (a.put oi.dst undef) w → Q (.panic c) a w := by exact fun _ _ _ h => h) (hy : Yields P ops oi undef a := by exact Or.inr ⟨by rfl, rfl⟩) (ha : a.put (some n) undef = a' := by (simp only [Act.put, List.setIfInBounds_toArray, List.set_cons_zero, List.set_cons_succ, i64_w, i32_w]; rfl)) : qai_ P md ops Q S ds (fuel + 1) l a w := pure_ (bs p q) hi hN hc hQ hy ha h
theorem tkK2n_ {P : Program} {ops : Array Oper} {Q : Exit → Act → World → Prop} {S : World → Prop} {ds : List Nat} {md : Region.Mode} {oi : Oper} {v : Value} {fuel : Nat} {l : Array Bool} {a a' : Act} {w : World} (i : Nat) (n : Tmp) (p q : Nat) (hS : S w) (h : qai_ P md ops Q S ds fuel (bs p q) a' w) (hi : ops[i]? = some oi := by rfl) (hN : oi.dst = some n := by rfl) (hc : takeB md ops ds l (bs p q) i = true := by kernel_rfl) (hQ : ∀ c a w, Q (.panic c) (a.put oi.dst v) w → Q (.panic c) a w := by exact fun _ _ _ h => h) (hy : YieldsIf P ops S oi v a := by (refine Or.inl ⟨by rfl, ?_⟩; rintro w' ⟨s0, s1⟩; go_simp; with_reducible rfl)) (ha : a.put (some n) v = a' := by (simp only [Act.put, List.setIfInBounds_toArray, List.set_cons_zero, List.set_cons_succ, i64_w, i32_w]; rfl)) : qai_ P md ops Q S ds (fuel + 1) l a w := take_ (bs p q) hi hN hc hQ hy hS ha h
theorem tkK4n_ {P : Program} {ops : Array Oper} {Q : Exit → Act → World → Prop} {S : World → Prop} {ds : List Nat} {md : Region.Mode} {oi : Oper} {v : Value} {fuel : Nat} {l : Array Bool} {a a' : Act} {w : World} (i : Nat) (n : Tmp) (p q : Nat) (hS : S w) (h : qai_ P md ops Q S ds fuel (bs p q) a' w) (hi : ops[i]? = some oi := by rfl) (hN : oi.dst = some n := by rfl) (hc : takeB md ops ds l (bs p q) i = true := by kernel_rfl) (hQ : ∀ c a w, Q (.panic c) (a.put oi.dst v) w → Q (.panic c) a w := by exact fun _ _ _ h => h) (hy : YieldsIf P ops S oi v a := by (refine Or.inl ⟨by rfl, ?_⟩; rintro w' ⟨s0, s1, s2, s3⟩; go_simp; with_reducible rfl)) (ha : a.put (some n) v = a' := by (simp only [Act.put, List.setIfInBounds_toArray, List.set_cons_zero, List.set_cons_succ, i64_w, i32_w]; rfl)) : qai_ P md ops Q S ds (fuel + 1) l a w := take_ (bs p q) hi hN hc hQ hy hS ha h
theorem tkK6n_ {P : Program} {ops : Array Oper} {Q : Exit → Act → World → Prop} {S : World → Prop} {ds : List Nat} {md : Region.Mode} {oi : Oper} {v : Value} {fuel : Nat} {l : Array Bool} {a a' : Act} {w : World} (i : Nat) (n : Tmp) (p q : Nat) (hS : S w) (h : qai_ P md ops Q S ds fuel (bs p q) a' w) (hi : ops[i]? = some oi := by rfl) (hN : oi.dst = some n := by rfl) (hc : takeB md ops ds l (bs p q) i = true := by kernel_rfl) (hQ : ∀ c a w, Q (.panic c) (a.put oi.dst v) w → Q (.panic c) a w := by exact fun _ _ _ h => h) (hy : YieldsIf P ops S oi v a := by (refine Or.inl ⟨by rfl, ?_⟩; rintro w' ⟨s0, s1, s2, s3, s4, s5⟩; go_simp; with_reducible rfl)) (ha : a.put (some n) v = a' := by (simp only [Act.put, List.setIfInBounds_toArray, List.set_cons_zero, List.set_cons_succ, i64_w, i32_w]; rfl)) : qai_ P md ops Q S ds (fuel + 1) l a w := take_ (bs p q) hi hN hc hQ hy hS ha h
theorem tkW0n_ {P : Program} {ops : Array Oper} {Q : Exit → Act → World → Prop} {S : World → Prop} {ds : List Nat} {md : Region.Mode} {oi : Oper} {v : Value} {fuel : Nat} {l : Array Bool} {a a' : Act} {w : World} (i : Nat) (n : Tmp) (p q : Nat) (hS : S w) (h : qai_ P md ops Q S ds fuel (bs p q) a' w) (hi : ops[i]? = some oi := by rfl) (hN : oi.dst = some n := by rfl) (hc : takeB md ops ds l (bs p q) i = true := by exact qgl_ HT_.out HW_.out (by kernel_rfl)) (hQ : ∀ c a w, Q (.panic c) (a.put oi.dst v) w → Q (.panic c) a w := by exact fun _ _ _ h => h) (hy : YieldsIf P ops S oi v a := by (refine Or.inl ⟨by rfl, ?_⟩; intro w' _; go_simp; with_reducible rfl)) (ha : a.put (some n) v = a' := by (simp only [Act.put, List.setIfInBounds_toArray, List.set_cons_zero, List.set_cons_succ, i64_w, i32_w]; rfl)) : qai_ P md ops Q S ds (fuel + 1) l a w := take_ (bs p q) hi hN hc hQ hy hS ha h
theorem qfs_ {P : Program} {ops : Array Oper} {Q : Exit → Act → World → Prop} {S : World → Prop} {ds : List Nat} {md : Region.Mode} {oi : Oper} {v : Value} {fuel : Nat} {l : Array Bool} {a a' : Act} {w : World} (i : Nat) (n : Tmp) (p q : Nat) (hS : S w) (h : qai_ P md ops Q S ds fuel (bs p q) a' w) (hi : ops[i]? = some oi := by rfl) (hN : oi.dst = some n := by rfl) (hc : takeB md ops ds l (bs p q) i = true := by exact qgl_ HT_.out HW_.out (by kernel_rfl)) (hQ : ∀ c a w, Q (.panic c) (a.put oi.dst v) w → Q (.panic c) a w := by exact fun _ _ _ h => h) (hy : YieldsIf P ops S oi v a := by (refine Or.inl ⟨by rfl, ?_⟩; rintro w' ⟨s0, s1⟩; go_simp; with_reducible rfl)) (ha : a.put (some n) v = a' := by (simp only [Act.put, List.setIfInBounds_toArray, List.set_cons_zero, List.set_cons_succ, i64_w, i32_w]; rfl)) : qai_ P md ops Q S ds (fuel + 1) l a w := take_ (bs p q) hi hN hc hQ hy hS ha h
theorem tkW4n_ {P : Program} {ops : Array Oper} {Q : Exit → Act → World → Prop} {S : World → Prop} {ds : List Nat} {md : Region.Mode} {oi : Oper} {v : Value} {fuel : Nat} {l : Array Bool} {a a' : Act} {w : World} (i : Nat) (n : Tmp) (p q : Nat) (hS : S w) (h : qai_ P md ops Q S ds fuel (bs p q) a' w) (hi : ops[i]? = some oi := by rfl) (hN : oi.dst = some n := by rfl) (hc : takeB md ops ds l (bs p q) i = true := by exact qgl_ HT_.out HW_.out (by kernel_rfl)) (hQ : ∀ c a w, Q (.panic c) (a.put oi.dst v) w → Q (.panic c) a w := by exact fun _ _ _ h => h) (hy : YieldsIf P ops S oi v a := by (refine Or.inl ⟨by rfl, ?_⟩; rintro w' ⟨s0, s1, s2, s3⟩; go_simp; with_reducible rfl)) (ha : a.put (some n) v = a' := by (simp only [Act.put, List.setIfInBounds_toArray, List.set_cons_zero, List.set_cons_succ, i64_w, i32_w]; rfl)) : qai_ P md ops Q S ds (fuel + 1) l a w := take_ (bs p q) hi hN hc hQ hy hS ha h
theorem tkW6n_ {P : Program} {ops : Array Oper} {Q : Exit → Act → World → Prop} {S : World → Prop} {ds : List Nat} {md : Region.Mode} {oi : Oper} {v : Value} {fuel : Nat} {l : Array Bool} {a a' : Act} {w : World} (i : Nat) (n : Tmp) (p q : Nat) (hS : S w) (h : qai_ P md ops Q S ds fuel (bs p q) a' w) (hi : ops[i]? = some oi := by rfl) (hN : oi.dst = some n := by rfl) (hc : takeB md ops ds l (bs p q) i = true := by exact qgl_ HT_.out HW_.out (by kernel_rfl)) (hQ : ∀ c a w, Q (.panic c) (a.put oi.dst v) w → Q (.panic c) a w := by exact fun _ _ _ h => h) (hy : YieldsIf P ops S oi v a := by (refine Or.inl ⟨by rfl, ?_⟩; rintro w' ⟨s0, s1, s2, s3, s4, s5⟩; go_simp; with_reducible rfl)) (ha : a.put (some n) v = a' := by (simp only [Act.put, List.setIfInBounds_toArray, List.set_cons_zero, List.set_cons_succ, i64_w, i32_w]; rfl)) : qai_ P md ops Q S ds (fuel + 1) l a w := take_ (bs p q) hi hN hc hQ hy hS ha h
theorem tkW8n_ {P : Program} {ops : Array Oper} {Q : Exit → Act → World → Prop} {S : World → Prop} {ds : List Nat} {md : Region.Mode} {oi : Oper} {v : Value} {fuel : Nat} {l : Array Bool} {a a' : Act} {w : World} (i : Nat) (n : Tmp) (p q : Nat) (hS : S w) (h : qai_ P md ops Q S ds fuel (bs p q) a' w) (hi : ops[i]? = some oi := by rfl) (hN : oi.dst = some n := by rfl) (hc : takeB md ops ds l (bs p q) i = true := by exact qgl_ HT_.out HW_.out (by kernel_rfl)) (hQ : ∀ c a w, Q (.panic c) (a.put oi.dst v) w → Q (.panic c) a w := by exact fun _ _ _ h => h) (hy : YieldsIf P ops S oi v a := by (refine Or.inl ⟨by rfl, ?_⟩; rintro w' ⟨s0, s1, s2, s3, s4, s5, s6, s7⟩; go_simp; with_reducible rfl)) (ha : a.put (some n) v = a' := by (simp only [Act.put, List.setIfInBounds_toArray, List.set_cons_zero, List.set_cons_succ, i64_w, i32_w]; rfl)) : qai_ P md ops Q S ds (fuel + 1) l a w := take_ (bs p q) hi hN hc hQ hy hS ha h
theorem tkW11n_ {P : Program} {ops : Array Oper} {Q : Exit → Act → World → Prop} {S : World → Prop} {ds : List Nat} {md : Region.Mode} {oi : Oper} {v : Value} {fuel : Nat} {l : Array Bool} {a a' : Act} {w : World} (i : Nat) (n : Tmp) (p q : Nat) (hS : S w) (h : qai_ P md ops Q S ds fuel (bs p q) a' w) (hi : ops[i]? = some oi := by rfl) (hN : oi.dst = some n := by rfl) (hc : takeB md ops ds l (bs p q) i = true := by exact qgl_ HT_.out HW_.out (by kernel_rfl)) (hQ : ∀ c a w, Q (.panic c) (a.put oi.dst v) w → Q (.panic c) a w := by exact fun _ _ _ h => h) (hy : YieldsIf P ops S oi v a := by (refine Or.inl ⟨by rfl, ?_⟩; rintro w' ⟨s0, s1, s2, s3, s4, s5, s6, s7, s8, s9, s10⟩; go_simp; with_reducible rfl)) (ha : a.put (some n) v = a' := by (simp only [Act.put, List.setIfInBounds_toArray, List.set_cons_zero, List.set_cons_succ, i64_w, i32_w]; rfl)) : qai_ P md ops Q S ds (fuel + 1) l a w := take_ (bs p q) hi hN hc hQ hy hS ha h
theorem on_ {P : Program} {ops : Array Oper} {Q : Exit → Act → World → Prop} {S : World → Prop} {ds : List Nat} {md : Region.Mode} {oi : Oper} {fuel : Nat} {l : Array Bool} {a : Act} {w : World} (i : Nat) (n : Tmp) (p q : Nat) (h : ∀ K : Act → World → Prop, Shut (∀ a' w', S w' → (S w' → qai_ P md ops Q S ds fuel (bs p q) a' w') → K a' w') → if Region.wanted oi (yielded ops a.tmps) = true then Oper.wp P oi a w K Q else K (a.put (some n) undef) w) (hi : ops[i]? = some oi := by rfl) (hN : oi.dst = some n := by rfl) (hc : readyB md ops l (bs p q) i = true := by exact one_of HT_.out (by kernel_rfl)) (hd : i ∉ ds := by decide) : qai_ P md ops Q S ds (fuel + 1) l a w := one_ (bs p q) hi hN hc hd h
theorem dn_ {P : Program} {ops : Array Oper} {Q : Exit → Act → World → Prop} {S : World → Prop} {ds : List Nat} {md : Region.Mode} {l : Array Bool} {a : Act} {w : World} {n : Nat} (h : Q .normal a w) (hr : (Region.ready md ops l == []) = true := by exact done_of HT_.out (by kernel_rfl)) : qai_ P md ops Q S ds n l a w := done_ hr h
theorem nrm_ {P : Program} {ops : Array Oper} {Q : Exit → Act → World → Prop} {S : World → Prop} {ds : List Nat} {md : Region.Mode} {v : Value} {fuel : Nat} {l : Array Bool} {a a' : Act} {w : World} (n : Tmp) (h : qai_ P md ops Q S ds fuel l a' w) (ha : a.put (some n) v = a' := by (simp only [Act.put, List.setIfInBounds_toArray, List.set_cons_zero, List.set_cons_succ, i64_w, i32_w]; rfl)) : qai_ P md ops Q S ds fuel l (a.put (some n) v) w := norm_ ha h
theorem hr_ {w0 w w2 : World} (hb : Below w.heap.size w w2) (h : Below w0.heap.size w0 w := by exact hs_) : qa_ (Below w0.heap.size w0 w2) := ⟨qdi_ h hb⟩
theorem no_ {α : Type} {r : α} {p : Prop} (h : (none : Option α) = some r) : p := by cases h
theorem oi_ {α : Type} {a b : α} (h : some a = some b) : a = b := Option.some.inj h
end Go.Proofs.YtbhfbbfjdklfgaaGreatDoor.Q
namespace Go.Proofs
open Go.Shelf
def Tryz.lays119_ren : Go.Shelf.Ren := ⟨fun | 119 => 226 | n => n, fun | 21 => 21 | 4 => 4 | n => n, fun | n => n⟩
theorem Tryz.lays119 : Go.Proofs.Lays.n119 Tryz.prog Tryz.lays119_ren := {
  mixed := by kernel_rfl
  f119 := Tryz.func226.trans tf_
  t4 := Tryz.underlying4
  a4 := Tryz.isAgg4
  z4 := Tryz.sizeOf4
  v4 := Tryz.zeroValue4
  t21 := Tryz.underlying21
  a21 := Tryz.isAgg21
  z21 := Tryz.sizeOf21
  v21 := Tryz.zeroValue21 }
theorem Tryz.utf8_ValidRune (r : Int) (w : World) :
    Calls Tryz.prog 226 #[.int .i32 r] w fun e w' => e = .returned (.bool (Lib.validRune r)) ∧ w' = w := Any.utf8_ValidRune Tryz.lays119 r w
def Tryz.lays137_ren : Go.Shelf.Ren := ⟨fun | 137 => 167 | 217 => 204 | 266 => 235 | n => n, fun | 9 => 9 | 5 => 5 | 3 => 3 | n => n, fun | n => n⟩
theorem Tryz.lays137 : Go.Proofs.Lays.n137 Tryz.prog Tryz.lays137_ren := {
  mixed := by kernel_rfl
  f137 := Tryz.func167.trans tf_
  f217 := Tryz.func204.trans tf_
  f266 := Tryz.func235.trans tf_
  t3 := Tryz.underlying3
  a3 := Tryz.isAgg3
  z3 := Tryz.sizeOf3
  v3 := Tryz.zeroValue3
  t5 := Tryz.underlying5
  a5 := Tryz.isAgg5
  z5 := Tryz.sizeOf5
  v5 := Tryz.zeroValue5
  t9 := Tryz.underlying9
  a9 := Tryz.isAgg9
  z9 := Tryz.sizeOf9
  v9 := Tryz.zeroValue9 }
open Go.RowKit in
theorem Tryz.strings_IndexByte (s : ByteArray) (c : Int) (w : World) :
    Calls Tryz.prog 167 #[.string s, .int .u8 c] w fun e w' => e = .returned (.int .i64 (Lib.indexByte s.data.toList c.toNat.toUInt8)) ∧ w' = w := Any.strings_IndexByte Tryz.lays137 s c w
def Tryz.lays210_ren : Go.Shelf.Ren := ⟨fun | 210 => 183 | 206 => 141 | n => n, fun | 9 => 9 | 4 => 4 | 3 => 3 | n => n, fun | n => n⟩
theorem Tryz.lays210 : Go.Proofs.Lays.n210 Tryz.prog Tryz.lays210_ren := {
  mixed := by kernel_rfl
  f206 := Tryz.func141.trans tf_
  f210 := Tryz.func183.trans tf_
  t3 := Tryz.underlying3
  a3 := Tryz.isAgg3
  z3 := Tryz.sizeOf3
  v3 := Tryz.zeroValue3
  t4 := Tryz.underlying4
  a4 := Tryz.isAgg4
  z4 := Tryz.sizeOf4
  v4 := Tryz.zeroValue4
  t9 := Tryz.underlying9
  a9 := Tryz.isAgg9
  z9 := Tryz.sizeOf9
  v9 := Tryz.zeroValue9 }
open Go.RowKit in
theorem Tryz.stringslite_CutPrefix (s p : ByteArray) (w : World) :
    Calls Tryz.prog 183 #[.string s, .string p] w fun e w' => e = .returned (.tuple #[.string ⟨(Lib.trimPrefix s.data.toList p.data.toList).toArray⟩, .bool (Lib.hasPrefix s.data.toList p.data.toList)]) ∧ w' = w := Any.stringslite_CutPrefix Tryz.lays210 s p w
def Tryz.lays103_ren : Go.Shelf.Ren := ⟨fun | 103 => 142 | 210 => 183 | 206 => 141 | n => n, fun | 9 => 9 | 4 => 4 | 24 => 144 | 3 => 3 | n => n, fun | n => n⟩
theorem Tryz.lays103 : Go.Proofs.Lays.n103 Tryz.prog Tryz.lays103_ren := {
  mixed := by kernel_rfl
  f103 := Tryz.func142.trans tf_
  f206 := Tryz.func141.trans tf_
  f210 := Tryz.func183.trans tf_
  t3 := Tryz.underlying3
  a3 := Tryz.isAgg3
  z3 := Tryz.sizeOf3
  v3 := Tryz.zeroValue3
  t4 := Tryz.underlying4
  a4 := Tryz.isAgg4
  z4 := Tryz.sizeOf4
  v4 := Tryz.zeroValue4
  t9 := Tryz.underlying9
  a9 := Tryz.isAgg9
  z9 := Tryz.sizeOf9
  v9 := Tryz.zeroValue9
  t24 := Tryz.underlying144
  a24 := Tryz.isAgg144
  z24 := Tryz.sizeOf144
  v24 := Tryz.zeroValue144 }
open Go.RowKit in
theorem Tryz.strings_CutPrefix (s p : ByteArray) (w : World) :
    Calls Tryz.prog 142 #[.string s, .string p] w fun e w' => e = .returned (.tuple #[.string ⟨(Lib.trimPrefix s.data.toList p.data.toList).toArray⟩, .bool (Lib.hasPrefix s.data.toList p.data.toList)]) ∧ w' = w := Any.strings_CutPrefix Tryz.lays103 s p w
def Tryz.lays172_ren : Go.Shelf.Ren := ⟨fun | 172 => 145 | 244 => 184 | 245 => 185 | 247 => 221 | 279 => 222 | 280 => 223 | 281 => 224 | 282 => 225 | 287 => 243 | 316 => 244 | 171 => 91 | 205 => 245 | 321 => 253 | 322 => 254 | 243 => 147 | 246 => 190 | 283 => 227 | 284 => 228 | 285 => 229 | 286 => 230 | 129 => 217 | 317 => 246 | 318 => 247 | 319 => 248 | 320 => 249 | 337 => 255 | 338 => 256 | n => n, fun | 9 => 9 | 3 => 3 | 75 => 117 | 76 => 118 | 4 => 4 | 5 => 5 | 167 => 195 | 37 => 103 | 0 => 0 | 85 => 196 | 2 => 2 | 168 => 198 | 53 => 193 | 175 => 218 | 46 => 166 | 210 => 221 | 127 => 158 | 145 => 233 | 143 => 231 | 21 => 21 | 171 => 203 | 173 => 205 | 212 => 224 | 51 => 191 | 20 => 20 | 213 => 225 | 232 => 236 | 233 => 237 | 80 => 120 | n => n, fun | 15 => 1 | 16 => 2 | 17 => 3 | 18 => 4 | 19 => 5 | n => n⟩
theorem Tryz.lays172 : Go.Proofs.Lays.n172 Tryz.prog Tryz.lays172_ren := {
  mixed := by kernel_rfl
  f129 := Tryz.func217.trans tf_
  f171 := Tryz.func91.trans tf_
  f172 := Tryz.func145.trans tf_
  f205 := Tryz.func245.trans tf_
  f243 := Tryz.func147.trans tf_
  f244 := Tryz.func184.trans tf_
  f245 := Tryz.func185.trans tf_
  f246 := Tryz.func190.trans tf_
  f247 := Tryz.func221.trans tf_
  f279 := Tryz.func222.trans tf_
  f280 := Tryz.func223.trans tf_
  f281 := Tryz.func224.trans tf_
  f282 := Tryz.func225.trans tf_
  f283 := Tryz.func227.trans tf_
  f284 := Tryz.func228.trans tf_
  f285 := Tryz.func229.trans tf_
  f286 := Tryz.func230.trans tf_
  f287 := Tryz.func243.trans tf_
  f316 := Tryz.func244.trans tf_
  f317 := Tryz.func246.trans tf_
  f318 := Tryz.func247.trans tf_
  f319 := Tryz.func248.trans tf_
  f320 := Tryz.func249.trans tf_
  f321 := Tryz.func253.trans tf_
  f322 := Tryz.func254.trans tf_
  f337 := Tryz.func255.trans tf_
  f338 := Tryz.func256.trans tf_
  t0 := Tryz.underlying0
  a0 := Tryz.isAgg0
  z0 := Tryz.sizeOf0
  v0 := Tryz.zeroValue0
  t2 := Tryz.underlying2
  a2 := Tryz.isAgg2
  z2 := Tryz.sizeOf2
  v2 := Tryz.zeroValue2
  t3 := Tryz.underlying3
  a3 := Tryz.isAgg3
  z3 := Tryz.sizeOf3
  v3 := Tryz.zeroValue3
  t4 := Tryz.underlying4
  a4 := Tryz.isAgg4
  z4 := Tryz.sizeOf4
  v4 := Tryz.zeroValue4
  t5 := Tryz.underlying5
  a5 := Tryz.isAgg5
  z5 := Tryz.sizeOf5
  v5 := Tryz.zeroValue5
  t9 := Tryz.underlying9
  a9 := Tryz.isAgg9
  z9 := Tryz.sizeOf9
  v9 := Tryz.zeroValue9
  t20 := Tryz.underlying20
  a20 := Tryz.isAgg20
  z20 := Tryz.sizeOf20
  v20 := Tryz.zeroValue20
  t21 := Tryz.underlying21
  a21 := Tryz.isAgg21
  z21 := Tryz.sizeOf21
  v21 := Tryz.zeroValue21
  t37 := Tryz.underlying103
  a37 := Tryz.isAgg103
  z37 := Tryz.sizeOf103
  v37 := Tryz.zeroValue103
  t46 := Tryz.underlying166
  a46 := Tryz.isAgg166
  z46 := Tryz.sizeOf166
  v46 := Tryz.zeroValue166
  t51 := Tryz.underlying191
  a51 := Tryz.isAgg191
  z51 := Tryz.sizeOf191
  v51 := Tryz.zeroValue191
  t53 := Tryz.underlying193
  a53 := Tryz.isAgg193
  z53 := Tryz.sizeOf193
  v53 := Tryz.zeroValue193
  t75 := Tryz.underlying117
  a75 := Tryz.isAgg117
  z75 := Tryz.sizeOf117
  v75 := Tryz.zeroValue117
  t76 := Tryz.underlying118
  a76 := Tryz.isAgg118
  z76 := Tryz.sizeOf118
  v76 := Tryz.zeroValue118
  t85 := Tryz.underlying196
  a85 := Tryz.isAgg196
  z85 := Tryz.sizeOf196
  v85 := Tryz.zeroValue196
  t127 := Tryz.underlying158
  a127 := Tryz.isAgg158
  z127 := Tryz.sizeOf158
  v127 := Tryz.zeroValue158
  t143 := Tryz.underlying231
  a143 := Tryz.isAgg231
  z143 := Tryz.sizeOf231
  v143 := Tryz.zeroValue231
  t145 := Tryz.underlying233
  a145 := Tryz.isAgg233
  z145 := Tryz.sizeOf233
  v145 := Tryz.zeroValue233
  t167 := Tryz.underlying195
  a167 := Tryz.isAgg195
  z167 := Tryz.sizeOf195
  v167 := Tryz.zeroValue195
  t168 := Tryz.underlying198
  a168 := Tryz.isAgg198
  z168 := Tryz.sizeOf198
  v168 := Tryz.zeroValue198
  t171 := Tryz.underlying203
  a171 := Tryz.isAgg203
  z171 := Tryz.sizeOf203
  v171 := Tryz.zeroValue203
  t173 := Tryz.underlying205
  a173 := Tryz.isAgg205
  z173 := Tryz.sizeOf205
  v173 := Tryz.zeroValue205
  t175 := Tryz.underlying218
  a175 := Tryz.isAgg218
  z175 := Tryz.sizeOf218
  v175 := Tryz.zeroValue218
  t210 := Tryz.underlying221
  a210 := Tryz.isAgg221
  z210 := Tryz.sizeOf221
  v210 := Tryz.zeroValue221
  t212 := Tryz.underlying224
  a212 := Tryz.isAgg224
  z212 := Tryz.sizeOf224
  v212 := Tryz.zeroValue224
  t213 := Tryz.underlying225
  a213 := Tryz.isAgg225
  z213 := Tryz.sizeOf225
  t232 := Tryz.underlying236
  a232 := Tryz.isAgg236
  z232 := Tryz.sizeOf236
  v232 := Tryz.zeroValue236
  t233 := Tryz.underlying237
  a233 := Tryz.isAgg237
  z233 := Tryz.sizeOf237
  v233 := Tryz.zeroValue237
  g15 := by kernel_rfl
  g16 := by kernel_rfl
  g17 := by kernel_rfl
  g18 := by kernel_rfl
  g19 := by kernel_rfl }
open Go.RowKit in
theorem Tryz.strconv_Atoi (s : ByteArray) (n : Int) (hl : s.size ≤ 18) (h : Lib.atoi s.data.toList = some n) (w : World) :
    Calls Tryz.prog 145 #[.string s] w fun e w' => e = .returned (.tuple #[.int .i64 n, .nilIface]) ∧ ∃ t, w' = Lib.bytesWorld w 5 t := Any.strconv_Atoi Tryz.lays172 s n hl h w
def Tryz.laysM171_ren : Go.Shelf.Ren := ⟨fun | 171 => 91 | 243 => 147 | 246 => 190 | 283 => 227 | 284 => 228 | 285 => 229 | 286 => 230 | 129 => 217 | 317 => 246 | 318 => 247 | 319 => 248 | 320 => 249 | 337 => 255 | 338 => 256 | n => n, fun | 3 => 3 | 9 => 9 | 2 => 2 | 4 => 4 | 171 => 203 | 0 => 0 | 53 => 193 | 37 => 103 | 5 => 5 | 173 => 205 | 212 => 224 | 51 => 191 | 20 => 20 | 213 => 225 | 46 => 166 | 232 => 236 | 233 => 237 | n => n, fun | 17 => 3 | 18 => 4 | 19 => 5 | n => n⟩
theorem Tryz.laysM171 : Go.Proofs.LaysM.n171 Tryz.prog Tryz.laysM171_ren := {
  mixed := by kernel_rfl
  f129 := Tryz.func217.trans tf_
  f171 := Tryz.func91.trans tf_
  f243 := Tryz.func147.trans tf_
  f246 := Tryz.func190.trans tf_
  f283 := Tryz.func227.trans tf_
  f284 := Tryz.func228.trans tf_
  f285 := Tryz.func229.trans tf_
  f286 := Tryz.func230.trans tf_
  f317 := Tryz.func246.trans tf_
  f318 := Tryz.func247.trans tf_
  f319 := Tryz.func248.trans tf_
  f320 := Tryz.func249.trans tf_
  f337 := Tryz.func255.trans tf_
  f338 := Tryz.func256.trans tf_
  t0 := Tryz.underlying0
  a0 := Tryz.isAgg0
  z0 := Tryz.sizeOf0
  v0 := Tryz.zeroValue0
  t2 := Tryz.underlying2
  a2 := Tryz.isAgg2
  z2 := Tryz.sizeOf2
  v2 := Tryz.zeroValue2
  t3 := Tryz.underlying3
  a3 := Tryz.isAgg3
  z3 := Tryz.sizeOf3
  v3 := Tryz.zeroValue3
  t4 := Tryz.underlying4
  a4 := Tryz.isAgg4
  z4 := Tryz.sizeOf4
  v4 := Tryz.zeroValue4
  t5 := Tryz.underlying5
  a5 := Tryz.isAgg5
  z5 := Tryz.sizeOf5
  v5 := Tryz.zeroValue5
  t9 := Tryz.underlying9
  a9 := Tryz.isAgg9
  z9 := Tryz.sizeOf9
  v9 := Tryz.zeroValue9
  t20 := Tryz.underlying20
  a20 := Tryz.isAgg20
  z20 := Tryz.sizeOf20
  v20 := Tryz.zeroValue20
  t37 := Tryz.underlying103
  a37 := Tryz.isAgg103
  z37 := Tryz.sizeOf103
  v37 := Tryz.zeroValue103
  t46 := Tryz.underlying166
  a46 := Tryz.isAgg166
  z46 := Tryz.sizeOf166
  v46 := Tryz.zeroValue166
  t51 := Tryz.underlying191
  a51 := Tryz.isAgg191
  z51 := Tryz.sizeOf191
  v51 := Tryz.zeroValue191
  t53 := Tryz.underlying193
  a53 := Tryz.isAgg193
  z53 := Tryz.sizeOf193
  v53 := Tryz.zeroValue193
  t171 := Tryz.underlying203
  a171 := Tryz.isAgg203
  z171 := Tryz.sizeOf203
  v171 := Tryz.zeroValue203
  t173 := Tryz.underlying205
  a173 := Tryz.isAgg205
  z173 := Tryz.sizeOf205
  v173 := Tryz.zeroValue205
  t212 := Tryz.underlying224
  a212 := Tryz.isAgg224
  z212 := Tryz.sizeOf224
  v212 := Tryz.zeroValue224
  t213 := Tryz.underlying225
  a213 := Tryz.isAgg225
  z213 := Tryz.sizeOf225
  t232 := Tryz.underlying236
  a232 := Tryz.isAgg236
  z232 := Tryz.sizeOf236
  v232 := Tryz.zeroValue236
  t233 := Tryz.underlying237
  a233 := Tryz.isAgg237
  z233 := Tryz.sizeOf237
  v233 := Tryz.zeroValue237
  g17 := by kernel_rfl
  g18 := by kernel_rfl
  g19 := by kernel_rfl
  i0 := by kernel_rfl
  i2 := by kernel_rfl
  i3 := by kernel_rfl
  i4 := by kernel_rfl
  i5 := by kernel_rfl
  i9 := by kernel_rfl
  i20 := by kernel_rfl
  i37 := by kernel_rfl
  i46 := by kernel_rfl
  i51 := by kernel_rfl
  i53 := by kernel_rfl
  i171 := by kernel_rfl
  i173 := by kernel_rfl
  i212 := by kernel_rfl
  i232 := by kernel_rfl
  i233 := by kernel_rfl
  m17 := by kernel_rfl
  m18 := by kernel_rfl
  m19 := by kernel_rfl }
open Go.RowKit Go.Sort Go.Lib in
theorem Tryz.strconv_Itoa (n : Int) (h0 : -9223372036854775808 ≤ n) (h1 : n ≤ 9223372036854775807) (w : World) (htab : Lib.TabIs Tryz.prog w "internal/strconv.uint64pow10" .u64 Lib.pow10Tab) :
    Calls Tryz.prog 91 #[.int .i64 n] w fun e w' => e = .returned (.string ⟨(Lib.itoa n).toArray⟩) ∧ ∃ k os, w' = grow (w.drewN k) os := Any.strconv_Itoa Tryz.laysM171 n h0 h1 w htab
def Tryz.lays143_ren : Go.Shelf.Ren := ⟨fun | 143 => 140 | 219 => 182 | 217 => 204 | 225 => 218 | 224 => 219 | 267 => 220 | 266 => 235 | 314 => 242 | n => n, fun | 9 => 9 | 3 => 3 | 4 => 4 | 5 => 5 | 46 => 166 | 146 => 216 | 51 => 191 | n => n, fun | 1 => 0 | n => n⟩
theorem Tryz.lays143 : Go.Proofs.Lays.n143 Tryz.prog Tryz.lays143_ren := {
  mixed := by kernel_rfl
  f143 := Tryz.func140.trans tf_
  f217 := Tryz.func204.trans tf_
  f219 := Tryz.func182.trans tf_
  f224 := Tryz.func219.trans tf_
  f225 := Tryz.func218.trans tf_
  f266 := Tryz.func235.trans tf_
  f267 := Tryz.func220.trans tf_
  f314 := Tryz.func242.trans tf_
  t3 := Tryz.underlying3
  a3 := Tryz.isAgg3
  z3 := Tryz.sizeOf3
  v3 := Tryz.zeroValue3
  t4 := Tryz.underlying4
  a4 := Tryz.isAgg4
  z4 := Tryz.sizeOf4
  v4 := Tryz.zeroValue4
  t5 := Tryz.underlying5
  a5 := Tryz.isAgg5
  z5 := Tryz.sizeOf5
  v5 := Tryz.zeroValue5
  t9 := Tryz.underlying9
  a9 := Tryz.isAgg9
  z9 := Tryz.sizeOf9
  v9 := Tryz.zeroValue9
  t46 := Tryz.underlying166
  a46 := Tryz.isAgg166
  z46 := Tryz.sizeOf166
  v46 := Tryz.zeroValue166
  t51 := Tryz.underlying191
  a51 := Tryz.isAgg191
  z51 := Tryz.sizeOf191
  v51 := Tryz.zeroValue191
  t146 := Tryz.underlying216
  a146 := Tryz.isAgg216
  z146 := Tryz.sizeOf216
  v146 := Tryz.zeroValue216
  g1 := by kernel_rfl }
open Go.RowKit Go.Lib in
theorem Tryz.strings_Index_one (s : ByteArray) (c : UInt8) (w : World) :
    Calls Tryz.prog 140 #[.string s, .string ⟨#[c]⟩] w fun e w' => e = .returned (.int .i64 (Lib.indexByte s.data.toList c)) ∧ w' = w := Any.strings_Index_one Tryz.lays143 s c w
def Tryz.lays144_ren : Go.Shelf.Ren := ⟨fun | 144 => 68 | 143 => 140 | 219 => 182 | 217 => 204 | 225 => 218 | 224 => 219 | 267 => 220 | 266 => 235 | 314 => 242 | n => n, fun | 9 => 9 | 4 => 4 | 3 => 3 | 5 => 5 | 46 => 166 | 146 => 216 | 51 => 191 | n => n, fun | 1 => 0 | n => n⟩
theorem Tryz.lays144 : Go.Proofs.Lays.n144 Tryz.prog Tryz.lays144_ren := {
  mixed := by kernel_rfl
  f143 := Tryz.func140.trans tf_
  f144 := Tryz.func68.trans tf_
  f217 := Tryz.func204.trans tf_
  f219 := Tryz.func182.trans tf_
  f224 := Tryz.func219.trans tf_
  f225 := Tryz.func218.trans tf_
  f266 := Tryz.func235.trans tf_
  f267 := Tryz.func220.trans tf_
  f314 := Tryz.func242.trans tf_
  t3 := Tryz.underlying3
  a3 := Tryz.isAgg3
  z3 := Tryz.sizeOf3
  v3 := Tryz.zeroValue3
  t4 := Tryz.underlying4
  a4 := Tryz.isAgg4
  z4 := Tryz.sizeOf4
  v4 := Tryz.zeroValue4
  t5 := Tryz.underlying5
  a5 := Tryz.isAgg5
  z5 := Tryz.sizeOf5
  v5 := Tryz.zeroValue5
  t9 := Tryz.underlying9
  a9 := Tryz.isAgg9
  z9 := Tryz.sizeOf9
  v9 := Tryz.zeroValue9
  t46 := Tryz.underlying166
  a46 := Tryz.isAgg166
  z46 := Tryz.sizeOf166
  v46 := Tryz.zeroValue166
  t51 := Tryz.underlying191
  a51 := Tryz.isAgg191
  z51 := Tryz.sizeOf191
  v51 := Tryz.zeroValue191
  t146 := Tryz.underlying216
  a146 := Tryz.isAgg216
  z146 := Tryz.sizeOf216
  v146 := Tryz.zeroValue216
  g1 := by kernel_rfl }
open Go.RowKit Go.Lib in
theorem Tryz.strings_Contains (s sub : ByteArray) (m : Int) (w : World) (hs : s.size < 4294967281) (hm : w.cell? ⟨0, 0, none⟩ = some (.int .i64 m)) :
    Calls Tryz.prog 68 #[.string s, .string sub] w fun e w' => e = .returned (.bool (Lib.contains s.data.toList sub.data.toList)) ∧ w' = w := Any.strings_Contains Tryz.lays144 s sub m w hs hm
def Tryz.lays145_ren : Go.Shelf.Ren := ⟨fun | 145 => 82 | 220 => 144 | 219 => 182 | 217 => 204 | 225 => 218 | 224 => 219 | 267 => 220 | 266 => 235 | 314 => 242 | n => n, fun | 9 => 9 | 4 => 4 | 59 => 97 | 3 => 3 | 5 => 5 | 46 => 166 | 146 => 216 | 51 => 191 | n => n, fun | 1 => 0 | n => n⟩
theorem Tryz.lays145 : Go.Proofs.Lays.n145 Tryz.prog Tryz.lays145_ren := {
  mixed := by kernel_rfl
  f145 := Tryz.func82.trans tf_
  f217 := Tryz.func204.trans tf_
  f219 := Tryz.func182.trans tf_
  f220 := Tryz.func144.trans tf_
  f224 := Tryz.func219.trans tf_
  f225 := Tryz.func218.trans tf_
  f266 := Tryz.func235.trans tf_
  f267 := Tryz.func220.trans tf_
  f314 := Tryz.func242.trans tf_
  t3 := Tryz.underlying3
  a3 := Tryz.isAgg3
  z3 := Tryz.sizeOf3
  v3 := Tryz.zeroValue3
  t4 := Tryz.underlying4
  a4 := Tryz.isAgg4
  z4 := Tryz.sizeOf4
  v4 := Tryz.zeroValue4
  t5 := Tryz.underlying5
  a5 := Tryz.isAgg5
  z5 := Tryz.sizeOf5
  v5 := Tryz.zeroValue5
  t9 := Tryz.underlying9
  a9 := Tryz.isAgg9
  z9 := Tryz.sizeOf9
  v9 := Tryz.zeroValue9
  t46 := Tryz.underlying166
  a46 := Tryz.isAgg166
  z46 := Tryz.sizeOf166
  v46 := Tryz.zeroValue166
  t51 := Tryz.underlying191
  a51 := Tryz.isAgg191
  z51 := Tryz.sizeOf191
  v51 := Tryz.zeroValue191
  t59 := Tryz.underlying97
  a59 := Tryz.isAgg97
  z59 := Tryz.sizeOf97
  v59 := Tryz.zeroValue97
  t146 := Tryz.underlying216
  a146 := Tryz.isAgg216
  z146 := Tryz.sizeOf216
  v146 := Tryz.zeroValue216
  g1 := by kernel_rfl }
open Go.RowKit Go.Lib in
theorem Tryz.strings_Cut (s sep : ByteArray) (m : Int) (w : World) (hs : s.size < 4294967281) (hm : w.cell? ⟨0, 0, none⟩ = some (.int .i64 m)) :
    Calls Tryz.prog 82 #[.string s, .string sep] w fun e w' => e = .returned (.tuple #[.string ⟨(Lib.cut s.data.toList sep.data.toList).1.toArray⟩, .string ⟨(Lib.cut s.data.toList sep.data.toList).2.1.toArray⟩, .bool (Lib.cut s.data.toList sep.data.toList).2.2]) ∧ ∃ n, w' = w.drewN n := Any.strings_Cut Tryz.lays145 s sep m w hs hm
def Tryz.lays138_ren : Go.Shelf.Ren := ⟨fun | 138 => 251 | 195 => 257 | 218 => 259 | 143 => 140 | 219 => 182 | 217 => 204 | 225 => 218 | 224 => 219 | 267 => 220 | 266 => 235 | 314 => 242 | n => n, fun | 9 => 9 | 3 => 3 | 4 => 4 | 5 => 5 | 0 => 0 | 46 => 166 | 146 => 216 | 51 => 191 | n => n, fun | 1 => 0 | n => n⟩
theorem Tryz.lays138 : Go.Proofs.Lays.n138 Tryz.prog Tryz.lays138_ren := {
  mixed := by kernel_rfl
  f138 := Tryz.func251.trans tf_
  f143 := Tryz.func140.trans tf_
  f195 := Tryz.func257.trans tf_
  f217 := Tryz.func204.trans tf_
  f218 := Tryz.func259.trans tf_
  f219 := Tryz.func182.trans tf_
  f224 := Tryz.func219.trans tf_
  f225 := Tryz.func218.trans tf_
  f266 := Tryz.func235.trans tf_
  f267 := Tryz.func220.trans tf_
  f314 := Tryz.func242.trans tf_
  t0 := Tryz.underlying0
  a0 := Tryz.isAgg0
  z0 := Tryz.sizeOf0
  v0 := Tryz.zeroValue0
  t3 := Tryz.underlying3
  a3 := Tryz.isAgg3
  z3 := Tryz.sizeOf3
  v3 := Tryz.zeroValue3
  t4 := Tryz.underlying4
  a4 := Tryz.isAgg4
  z4 := Tryz.sizeOf4
  v4 := Tryz.zeroValue4
  t5 := Tryz.underlying5
  a5 := Tryz.isAgg5
  z5 := Tryz.sizeOf5
  v5 := Tryz.zeroValue5
  t9 := Tryz.underlying9
  a9 := Tryz.isAgg9
  z9 := Tryz.sizeOf9
  v9 := Tryz.zeroValue9
  t46 := Tryz.underlying166
  a46 := Tryz.isAgg166
  z46 := Tryz.sizeOf166
  v46 := Tryz.zeroValue166
  t51 := Tryz.underlying191
  a51 := Tryz.isAgg191
  z51 := Tryz.sizeOf191
  v51 := Tryz.zeroValue191
  t146 := Tryz.underlying216
  a146 := Tryz.isAgg216
  z146 := Tryz.sizeOf216
  v146 := Tryz.zeroValue216
  g1 := by kernel_rfl }
open Go.RowKit Go.Lib in
theorem Tryz.strings_Count_one (s : ByteArray) (c : UInt8) (w : World) :
    Calls Tryz.prog 251 #[.string s, .string ⟨#[c]⟩] w fun e w' => e = .returned (.int .i64 (Lib.countByte s.data.toList c)) ∧ w' = w := Any.strings_Count_one Tryz.lays138 s c w
def Tryz.laysM144_ren : Go.Shelf.Ren := ⟨fun | 144 => 68 | 143 => 140 | 219 => 182 | 217 => 204 | 225 => 218 | 224 => 219 | 267 => 220 | 266 => 235 | 314 => 242 | n => n, fun | 9 => 9 | 4 => 4 | 3 => 3 | 5 => 5 | 46 => 166 | 146 => 216 | 51 => 191 | n => n, fun | 1 => 0 | n => n⟩
theorem Tryz.laysM144 : Go.Proofs.LaysM.n144 Tryz.prog Tryz.laysM144_ren := {
  mixed := by kernel_rfl
  f143 := Tryz.func140.trans tf_
  f144 := Tryz.func68.trans tf_
  f217 := Tryz.func204.trans tf_
  f219 := Tryz.func182.trans tf_
  f224 := Tryz.func219.trans tf_
  f225 := Tryz.func218.trans tf_
  f266 := Tryz.func235.trans tf_
  f267 := Tryz.func220.trans tf_
  f314 := Tryz.func242.trans tf_
  t3 := Tryz.underlying3
  a3 := Tryz.isAgg3
  z3 := Tryz.sizeOf3
  v3 := Tryz.zeroValue3
  t4 := Tryz.underlying4
  a4 := Tryz.isAgg4
  z4 := Tryz.sizeOf4
  v4 := Tryz.zeroValue4
  t5 := Tryz.underlying5
  a5 := Tryz.isAgg5
  z5 := Tryz.sizeOf5
  v5 := Tryz.zeroValue5
  t9 := Tryz.underlying9
  a9 := Tryz.isAgg9
  z9 := Tryz.sizeOf9
  v9 := Tryz.zeroValue9
  t46 := Tryz.underlying166
  a46 := Tryz.isAgg166
  z46 := Tryz.sizeOf166
  v46 := Tryz.zeroValue166
  t51 := Tryz.underlying191
  a51 := Tryz.isAgg191
  z51 := Tryz.sizeOf191
  v51 := Tryz.zeroValue191
  t146 := Tryz.underlying216
  a146 := Tryz.isAgg216
  z146 := Tryz.sizeOf216
  v146 := Tryz.zeroValue216
  g1 := by kernel_rfl
  i3 := by kernel_rfl
  i4 := by kernel_rfl
  i5 := by kernel_rfl
  i9 := by kernel_rfl
  i46 := by kernel_rfl
  i51 := by kernel_rfl
  i146 := by kernel_rfl
  m1 := by kernel_rfl
  s1_3 := fun w h => Go.Proofs.cell_of_shapedOpen_int (zero := #[.int .i64 0]) (t := 3) h (of_decide_eq_true (by kernel_rfl)) (by kernel_rfl) rfl (by kernel_rfl) (by kernel_rfl) Tryz.underlying3 }
def Tryz.lays206_ren : Go.Shelf.Ren := ⟨fun | 206 => 141 | n => n, fun | 9 => 9 | 4 => 4 | 3 => 3 | n => n, fun | n => n⟩
theorem Tryz.lays206 : Go.Proofs.Lays.n206 Tryz.prog Tryz.lays206_ren := {
  mixed := by kernel_rfl
  f206 := Tryz.func141.trans tf_
  t3 := Tryz.underlying3
  a3 := Tryz.isAgg3
  z3 := Tryz.sizeOf3
  v3 := Tryz.zeroValue3
  t4 := Tryz.underlying4
  a4 := Tryz.isAgg4
  z4 := Tryz.sizeOf4
  v4 := Tryz.zeroValue4
  t9 := Tryz.underlying9
  a9 := Tryz.isAgg9
  z9 := Tryz.sizeOf9
  v9 := Tryz.zeroValue9 }
open Go.RowKit Go.Lib in
theorem Tryz.stringslite_HasPrefix (s p : ByteArray) (w : World) :
    Calls Tryz.prog 141 #[.string s, .string p] w fun e w' => e = .returned (.bool (Lib.hasPrefix s.data.toList p.data.toList)) ∧ w' = w := Any.stringslite_HasPrefix Tryz.lays206 s p w
def Tryz.lays99_ren : Go.Shelf.Ren := ⟨fun | 99 => 71 | 206 => 141 | n => n, fun | 9 => 9 | 4 => 4 | 3 => 3 | n => n, fun | n => n⟩
theorem Tryz.lays99 : Go.Proofs.Lays.n99 Tryz.prog Tryz.lays99_ren := {
  mixed := by kernel_rfl
  f99 := Tryz.func71.trans tf_
  f206 := Tryz.func141.trans tf_
  t3 := Tryz.underlying3
  a3 := Tryz.isAgg3
  z3 := Tryz.sizeOf3
  v3 := Tryz.zeroValue3
  t4 := Tryz.underlying4
  a4 := Tryz.isAgg4
  z4 := Tryz.sizeOf4
  v4 := Tryz.zeroValue4
  t9 := Tryz.underlying9
  a9 := Tryz.isAgg9
  z9 := Tryz.sizeOf9
  v9 := Tryz.zeroValue9 }
open Go.RowKit Go.Lib in
theorem Tryz.strings_HasPrefix (s p : ByteArray) (w : World) :
    Calls Tryz.prog 71 #[.string s, .string p] w fun e w' => e = .returned (.bool (Lib.hasPrefix s.data.toList p.data.toList)) ∧ w' = w := Any.strings_HasPrefix Tryz.lays99 s p w
def Tryz.lays221_ren : Go.Shelf.Ren := ⟨fun | 221 => 234 | 268 => 250 | 138 => 251 | 143 => 140 | 195 => 257 | 197 => 258 | 218 => 259 | 219 => 182 | 260 => 260 | 217 => 204 | 225 => 218 | 224 => 219 | 267 => 220 | 266 => 235 | 314 => 242 | n => n, fun | 9 => 9 | 3 => 3 | 31 => 22 | 4 => 4 | 0 => 0 | 105 => 234 | 21 => 21 | 5 => 5 | 46 => 166 | 119 => 238 | 139 => 241 | 138 => 240 | 146 => 216 | 51 => 191 | n => n, fun | 1 => 0 | 3 => 6 | 4 => 7 | n => n⟩
theorem Tryz.lays221 : Go.Proofs.Lays.n221 Tryz.prog Tryz.lays221_ren := {
  mixed := by kernel_rfl
  f138 := Tryz.func251.trans tf_
  f143 := Tryz.func140.trans tf_
  f195 := Tryz.func257.trans tf_
  f197 := Tryz.func258.trans tf_
  f217 := Tryz.func204.trans tf_
  f218 := Tryz.func259.trans tf_
  f219 := Tryz.func182.trans tf_
  f221 := Tryz.func234.trans tf_
  f224 := Tryz.func219.trans tf_
  f225 := Tryz.func218.trans tf_
  f260 := Tryz.func260.trans tf_
  f266 := Tryz.func235.trans tf_
  f267 := Tryz.func220.trans tf_
  f268 := Tryz.func250.trans tf_
  f314 := Tryz.func242.trans tf_
  t0 := Tryz.underlying0
  a0 := Tryz.isAgg0
  z0 := Tryz.sizeOf0
  v0 := Tryz.zeroValue0
  t3 := Tryz.underlying3
  a3 := Tryz.isAgg3
  z3 := Tryz.sizeOf3
  v3 := Tryz.zeroValue3
  t4 := Tryz.underlying4
  a4 := Tryz.isAgg4
  z4 := Tryz.sizeOf4
  v4 := Tryz.zeroValue4
  t5 := Tryz.underlying5
  a5 := Tryz.isAgg5
  z5 := Tryz.sizeOf5
  v5 := Tryz.zeroValue5
  t9 := Tryz.underlying9
  a9 := Tryz.isAgg9
  z9 := Tryz.sizeOf9
  v9 := Tryz.zeroValue9
  t21 := Tryz.underlying21
  a21 := Tryz.isAgg21
  z21 := Tryz.sizeOf21
  v21 := Tryz.zeroValue21
  t31 := Tryz.underlying22
  a31 := Tryz.isAgg22
  z31 := Tryz.sizeOf22
  v31 := Tryz.zeroValue22
  t46 := Tryz.underlying166
  a46 := Tryz.isAgg166
  z46 := Tryz.sizeOf166
  v46 := Tryz.zeroValue166
  t51 := Tryz.underlying191
  a51 := Tryz.isAgg191
  z51 := Tryz.sizeOf191
  v51 := Tryz.zeroValue191
  t105 := Tryz.underlying234
  a105 := Tryz.isAgg234
  z105 := Tryz.sizeOf234
  v105 := Tryz.zeroValue234
  t119 := Tryz.underlying238
  a119 := Tryz.isAgg238
  z119 := Tryz.sizeOf238
  t138 := Tryz.underlying240
  a138 := Tryz.isAgg240
  z138 := Tryz.sizeOf240
  v138 := Tryz.zeroValue240
  t139 := Tryz.underlying241
  a139 := Tryz.isAgg241
  z139 := Tryz.sizeOf241
  v139 := Tryz.zeroValue241
  t146 := Tryz.underlying216
  a146 := Tryz.isAgg216
  z146 := Tryz.sizeOf216
  v146 := Tryz.zeroValue216
  g1 := by kernel_rfl
  g3 := by kernel_rfl
  g4 := by kernel_rfl }
def Tryz.lays146_ren : Go.Shelf.Ren := ⟨fun | 146 => 200 | 221 => 234 | 268 => 250 | 138 => 251 | 143 => 140 | 195 => 257 | 197 => 258 | 218 => 259 | 219 => 182 | 260 => 260 | 217 => 204 | 225 => 218 | 224 => 219 | 267 => 220 | 266 => 235 | 314 => 242 | n => n, fun | 9 => 9 | 31 => 22 | 3 => 3 | 4 => 4 | 0 => 0 | 105 => 234 | 21 => 21 | 5 => 5 | 46 => 166 | 119 => 238 | 139 => 241 | 138 => 240 | 146 => 216 | 51 => 191 | n => n, fun | 1 => 0 | 3 => 6 | 4 => 7 | n => n⟩
theorem Tryz.lays146 : Go.Proofs.Lays.n146 Tryz.prog Tryz.lays146_ren := {
  mixed := by kernel_rfl
  f138 := Tryz.func251.trans tf_
  f143 := Tryz.func140.trans tf_
  f146 := Tryz.func200.trans tf_
  f195 := Tryz.func257.trans tf_
  f197 := Tryz.func258.trans tf_
  f217 := Tryz.func204.trans tf_
  f218 := Tryz.func259.trans tf_
  f219 := Tryz.func182.trans tf_
  f221 := Tryz.func234.trans tf_
  f224 := Tryz.func219.trans tf_
  f225 := Tryz.func218.trans tf_
  f260 := Tryz.func260.trans tf_
  f266 := Tryz.func235.trans tf_
  f267 := Tryz.func220.trans tf_
  f268 := Tryz.func250.trans tf_
  f314 := Tryz.func242.trans tf_
  t0 := Tryz.underlying0
  a0 := Tryz.isAgg0
  z0 := Tryz.sizeOf0
  v0 := Tryz.zeroValue0
  t3 := Tryz.underlying3
  a3 := Tryz.isAgg3
  z3 := Tryz.sizeOf3
  v3 := Tryz.zeroValue3
  t4 := Tryz.underlying4
  a4 := Tryz.isAgg4
  z4 := Tryz.sizeOf4
  v4 := Tryz.zeroValue4
  t5 := Tryz.underlying5
  a5 := Tryz.isAgg5
  z5 := Tryz.sizeOf5
  v5 := Tryz.zeroValue5
  t9 := Tryz.underlying9
  a9 := Tryz.isAgg9
  z9 := Tryz.sizeOf9
  v9 := Tryz.zeroValue9
  t21 := Tryz.underlying21
  a21 := Tryz.isAgg21
  z21 := Tryz.sizeOf21
  v21 := Tryz.zeroValue21
  t31 := Tryz.underlying22
  a31 := Tryz.isAgg22
  z31 := Tryz.sizeOf22
  v31 := Tryz.zeroValue22
  t46 := Tryz.underlying166
  a46 := Tryz.isAgg166
  z46 := Tryz.sizeOf166
  v46 := Tryz.zeroValue166
  t51 := Tryz.underlying191
  a51 := Tryz.isAgg191
  z51 := Tryz.sizeOf191
  v51 := Tryz.zeroValue191
  t105 := Tryz.underlying234
  a105 := Tryz.isAgg234
  z105 := Tryz.sizeOf234
  v105 := Tryz.zeroValue234
  t119 := Tryz.underlying238
  a119 := Tryz.isAgg238
  z119 := Tryz.sizeOf238
  t138 := Tryz.underlying240
  a138 := Tryz.isAgg240
  z138 := Tryz.sizeOf240
  v138 := Tryz.zeroValue240
  t139 := Tryz.underlying241
  a139 := Tryz.isAgg241
  z139 := Tryz.sizeOf241
  v139 := Tryz.zeroValue241
  t146 := Tryz.underlying216
  a146 := Tryz.isAgg216
  z146 := Tryz.sizeOf216
  v146 := Tryz.zeroValue216
  g1 := by kernel_rfl
  g3 := by kernel_rfl
  g4 := by kernel_rfl }
open Go.RowKit Go.Lib in
theorem Tryz.strings_Split (s sep : ByteArray) (m : Int) (w : World) (hs : s.size < 4294967281) (hm : w.cell? ⟨0, 0, none⟩ = some (.int .i64 m)) (h1 : 1 ≤ sep.size) :
    Calls Tryz.prog 200 #[.string s, .string sep] w fun e w' =>
      e = .returned (.slice (some ⟨w.heap.size, 0, none⟩) (Lib.countB s sep + 1) (Lib.countB s sep + 1)) ∧ w' = w.alloc (.cells ((Lib.splitB sep 0 (Lib.countB s sep) s).map Value.string).toArray 9) := Any.strings_Split Tryz.lays146 (by kernel_rfl) s sep m w hs hm h1
def Tryz.lays152_ren : Go.Shelf.Ren := ⟨fun | 152 => 186 | 137 => 167 | 119 => 226 | 224 => 219 | 225 => 218 | 217 => 204 | 266 => 235 | n => n, fun | 9 => 9 | 21 => 21 | 3 => 3 | 4 => 4 | 5 => 5 | 0 => 0 | 46 => 166 | n => n, fun | n => n⟩
theorem Tryz.lays152 : Go.Proofs.Lays.n152 Tryz.prog Tryz.lays152_ren := {
  mixed := by kernel_rfl
  f119 := Tryz.func226.trans tf_
  f137 := Tryz.func167.trans tf_
  f152 := Tryz.func186.trans tf_
  f217 := Tryz.func204.trans tf_
  f224 := Tryz.func219.trans tf_
  f225 := Tryz.func218.trans tf_
  f266 := Tryz.func235.trans tf_
  t0 := Tryz.underlying0
  a0 := Tryz.isAgg0
  z0 := Tryz.sizeOf0
  v0 := Tryz.zeroValue0
  t3 := Tryz.underlying3
  a3 := Tryz.isAgg3
  z3 := Tryz.sizeOf3
  v3 := Tryz.zeroValue3
  t4 := Tryz.underlying4
  a4 := Tryz.isAgg4
  z4 := Tryz.sizeOf4
  v4 := Tryz.zeroValue4
  t5 := Tryz.underlying5
  a5 := Tryz.isAgg5
  z5 := Tryz.sizeOf5
  v5 := Tryz.zeroValue5
  t9 := Tryz.underlying9
  a9 := Tryz.isAgg9
  z9 := Tryz.sizeOf9
  v9 := Tryz.zeroValue9
  t21 := Tryz.underlying21
  a21 := Tryz.isAgg21
  z21 := Tryz.sizeOf21
  v21 := Tryz.zeroValue21
  t46 := Tryz.underlying166
  a46 := Tryz.isAgg166
  z46 := Tryz.sizeOf166
  v46 := Tryz.zeroValue166 }
open Go.RowKit Go.Lib in
theorem Tryz.strings_IndexRune_ascii (s : ByteArray) (r : Int) (w : World) (h0 : 0 ≤ r) (h1 : r < 128) :
    Calls Tryz.prog 186 #[.string s, .int .i32 r] w fun e w' => e = .returned (.int .i64 (Lib.indexByte s.data.toList r.toNat.toUInt8)) ∧ w' = w := Any.strings_IndexRune_ascii Tryz.lays152 s r w h0 h1
def Tryz.lays226_ren : Go.Shelf.Ren := ⟨fun | 226 => 187 | n => n, fun | 3 => 3 | 4 => 4 | n => n, fun | n => n⟩
theorem Tryz.lays226 : Go.Proofs.Lays.n226 Tryz.prog Tryz.lays226_ren := {
  mixed := by kernel_rfl
  f226 := Tryz.func187.trans tf_
  t3 := Tryz.underlying3
  a3 := Tryz.isAgg3
  z3 := Tryz.sizeOf3
  v3 := Tryz.zeroValue3
  t4 := Tryz.underlying4
  a4 := Tryz.isAgg4
  z4 := Tryz.sizeOf4
  v4 := Tryz.zeroValue4 }
open Go.RowKit Go.Lib in
theorem Tryz.strings_shouldUseASCIISet (n : Int) (w : World) :
    Calls Tryz.prog 187 #[.int .i64 n] w fun e w' => e = .returned (.bool (decide (8 < n))) ∧ w' = w := Any.strings_shouldUseASCIISet Tryz.lays226 n w
def Tryz.lays153_ren : Go.Shelf.Ren := ⟨fun | 153 => 146 | 152 => 186 | 226 => 187 | 227 => 188 | 228 => 189 | 137 => 167 | 119 => 226 | 224 => 219 | 225 => 218 | 217 => 204 | 266 => 235 | n => n, fun | 9 => 9 | 3 => 3 | 4 => 4 | 5 => 5 | 21 => 21 | 117 => 173 | 116 => 172 | 0 => 0 | 46 => 166 | 124 => 202 | n => n, fun | n => n⟩
theorem Tryz.lays153 : Go.Proofs.Lays.n153 Tryz.prog Tryz.lays153_ren := {
  mixed := by kernel_rfl
  f119 := Tryz.func226.trans tf_
  f137 := Tryz.func167.trans tf_
  f152 := Tryz.func186.trans tf_
  f153 := Tryz.func146.trans tf_
  f217 := Tryz.func204.trans tf_
  f224 := Tryz.func219.trans tf_
  f225 := Tryz.func218.trans tf_
  f226 := Tryz.func187.trans tf_
  f227 := Tryz.func188.trans tf_
  f228 := Tryz.func189.trans tf_
  f266 := Tryz.func235.trans tf_
  t0 := Tryz.underlying0
  a0 := Tryz.isAgg0
  z0 := Tryz.sizeOf0
  v0 := Tryz.zeroValue0
  t3 := Tryz.underlying3
  a3 := Tryz.isAgg3
  z3 := Tryz.sizeOf3
  v3 := Tryz.zeroValue3
  t4 := Tryz.underlying4
  a4 := Tryz.isAgg4
  z4 := Tryz.sizeOf4
  v4 := Tryz.zeroValue4
  t5 := Tryz.underlying5
  a5 := Tryz.isAgg5
  z5 := Tryz.sizeOf5
  v5 := Tryz.zeroValue5
  t9 := Tryz.underlying9
  a9 := Tryz.isAgg9
  z9 := Tryz.sizeOf9
  v9 := Tryz.zeroValue9
  t21 := Tryz.underlying21
  a21 := Tryz.isAgg21
  z21 := Tryz.sizeOf21
  v21 := Tryz.zeroValue21
  t46 := Tryz.underlying166
  a46 := Tryz.isAgg166
  z46 := Tryz.sizeOf166
  v46 := Tryz.zeroValue166
  t116 := Tryz.underlying172
  a116 := Tryz.isAgg172
  z116 := Tryz.sizeOf172
  t117 := Tryz.underlying173
  a117 := Tryz.isAgg173
  z117 := Tryz.sizeOf173
  v117 := Tryz.zeroValue173
  t124 := Tryz.underlying202
  a124 := Tryz.isAgg202
  z124 := Tryz.sizeOf202
  v124 := Tryz.zeroValue202 }
open Go.RowKit Go.Lib in
theorem Tryz.strings_IndexAny_none (s chars : ByteArray) (w : World) (h0 : chars.size = 0) :
    Calls Tryz.prog 146 #[.string s, .string chars] w fun e w' => e = .returned (.int .i64 (Lib.indexAny s.data.toList chars.data.toList)) ∧ w' = w := Any.strings_IndexAny_none Tryz.lays153 s chars w h0
open Go.RowKit Go.Lib in
theorem Tryz.strings_IndexAny_one (s chars : ByteArray) (w : World) (h1 : chars.size = 1) (hascii : ∀ (j : Nat) b, chars.data.toList[j]? = some b → b.toNat < 128) :
    Calls Tryz.prog 146 #[.string s, .string chars] w fun e w' => e = .returned (.int .i64 (Lib.indexAny s.data.toList chars.data.toList)) ∧ w' = w := Any.strings_IndexAny_one Tryz.lays153 s chars w h1 hascii
open Go.RowKit Go.Lib in
theorem Tryz.strings_IndexAny_long (hv116 : ∀ w, (zeroValue 172).run Tryz.prog w = .ok (.agg (Array.replicate 256 (.bool false))) w) (s chars : ByteArray) (w : World) (h2 : 2 ≤ chars.size) (h8 : 8 < s.size) (hs : s.size < 4294967281) (hcs : chars.size < 4294967281) (hascii : ∀ (j : Nat) b, chars.data.toList[j]? = some b → b.toNat < 128) :
    Calls Tryz.prog 146 #[.string s, .string chars] w fun e w' => e = .returned (.int .i64 (Lib.indexAny s.data.toList chars.data.toList)) ∧ w' = ((w.alloc (.cells (Lib.setCells chars.data.toList) 172)).alloc (.cells (Lib.setCells chars.data.toList) 172)) := Any.strings_IndexAny_long Tryz.lays153 hv116 (by kernel_rfl) s chars w h2 h8 hs hcs hascii
def Tryz.lays150_ren : Go.Shelf.Ren := ⟨fun | 150 => 85 | 153 => 146 | 152 => 186 | 226 => 187 | 227 => 188 | 228 => 189 | 137 => 167 | 119 => 226 | 224 => 219 | 225 => 218 | 217 => 204 | 266 => 235 | n => n, fun | 9 => 9 | 4 => 4 | 3 => 3 | 5 => 5 | 21 => 21 | 117 => 173 | 116 => 172 | 0 => 0 | 46 => 166 | 124 => 202 | n => n, fun | n => n⟩
theorem Tryz.lays150 : Go.Proofs.Lays.n150 Tryz.prog Tryz.lays150_ren := {
  mixed := by kernel_rfl
  f119 := Tryz.func226.trans tf_
  f137 := Tryz.func167.trans tf_
  f150 := Tryz.func85.trans tf_
  f152 := Tryz.func186.trans tf_
  f153 := Tryz.func146.trans tf_
  f217 := Tryz.func204.trans tf_
  f224 := Tryz.func219.trans tf_
  f225 := Tryz.func218.trans tf_
  f226 := Tryz.func187.trans tf_
  f227 := Tryz.func188.trans tf_
  f228 := Tryz.func189.trans tf_
  f266 := Tryz.func235.trans tf_
  t0 := Tryz.underlying0
  a0 := Tryz.isAgg0
  z0 := Tryz.sizeOf0
  v0 := Tryz.zeroValue0
  t3 := Tryz.underlying3
  a3 := Tryz.isAgg3
  z3 := Tryz.sizeOf3
  v3 := Tryz.zeroValue3
  t4 := Tryz.underlying4
  a4 := Tryz.isAgg4
  z4 := Tryz.sizeOf4
  v4 := Tryz.zeroValue4
  t5 := Tryz.underlying5
  a5 := Tryz.isAgg5
  z5 := Tryz.sizeOf5
  v5 := Tryz.zeroValue5
  t9 := Tryz.underlying9
  a9 := Tryz.isAgg9
  z9 := Tryz.sizeOf9
  v9 := Tryz.zeroValue9
  t21 := Tryz.underlying21
  a21 := Tryz.isAgg21
  z21 := Tryz.sizeOf21
  v21 := Tryz.zeroValue21
  t46 := Tryz.underlying166
  a46 := Tryz.isAgg166
  z46 := Tryz.sizeOf166
  v46 := Tryz.zeroValue166
  t116 := Tryz.underlying172
  a116 := Tryz.isAgg172
  z116 := Tryz.sizeOf172
  t117 := Tryz.underlying173
  a117 := Tryz.isAgg173
  z117 := Tryz.sizeOf173
  v117 := Tryz.zeroValue173
  t124 := Tryz.underlying202
  a124 := Tryz.isAgg202
  z124 := Tryz.sizeOf202
  v124 := Tryz.zeroValue202 }
open Go.RowKit Go.Lib in
theorem Tryz.strings_ContainsAny (hv116 : ∀ w, (zeroValue 172).run Tryz.prog w = .ok (.agg (Array.replicate 256 (.bool false))) w) (s chars : ByteArray) (w : World) (hs : s.size < 4294967281) (hcs : chars.size < 4294967281) (has : ∀ (j : Nat) b, s.data.toList[j]? = some b → b.toNat < 128) (hac : ∀ (j : Nat) b, chars.data.toList[j]? = some b → b.toNat < 128) :
    Calls Tryz.prog 85 #[.string s, .string chars] w fun e w' => e = .returned (.bool (Lib.containsAny s.data.toList chars.data.toList)) ∧ Below w.heap.size w w' := Any.strings_ContainsAny Tryz.lays150 hv116 (by kernel_rfl) s chars w hs hcs has hac
end Go.Proofs
namespace Go.Proofs.YtbhfbbfjdklfgaaGreatDoor.Q
open Go.Proofs.Tryz Go.RowKit YtbhfbbfjdklfgaaGreatDoorW.PrintWords YtbhfbbfjdklfgaaGreatDoorW.PrintLast
section
open Go.Shelf Go.Lib
section
variable {P : Program} {ρ : Ren}
theorem ib_none : ∀ (l : List UInt8) (c : UInt8), c ∉ l → Lib.indexByte l c = -1
  | [], _, _ => rfl
  | b :: r, c, h => by
    simp only [List.mem_cons, not_or] at h
    rw [Lib.indexByte, if_neg (by simpa using fun e => h.1 e.symm), ib_none r c h.2]; rfl
theorem IndexRune_high (L : Lays.n152 P ρ) (s : ByteArray) (r : Int) (w : World) (h128 : 128 ≤ r) (hs : ∀ b ∈ s.data.toList, b.toNat < 128) (hz : s.size < 4294967281) :
    Calls P (ρ.f 152) #[.string s, .int .i32 r] w fun e w' => e = .returned (.int .i64 (-1)) ∧ Below w.heap.size w w' := by
  have mixed := L.mixed
  have t3 := L.t3; have a3 := L.a3; have z3 := L.z3; have v3 := L.v3
  have t4 := L.t4; have a4 := L.a4; have z4 := L.z4; have v4 := L.v4
  have t5 := L.t5; have a5 := L.a5; have z5 := L.z5; have v5 := L.v5
  have t9 := L.t9; have a9 := L.a9; have z9 := L.z9; have v9 := L.v9
  have t21 := L.t21; have a21 := L.a21; have z21 := L.z21; have v21 := L.v21
  have e137 : ∀ args w, (callFunc (ρ.f 137) args).run P w = .ok (.enter (ρ.f 137) args) w := enters_of L.f137 (by kernel_rfl) rfl
  have e119 : ∀ args w, (callFunc (ρ.f 119) args).run P w = .ok (.enter (ρ.f 119) args) w := enters_of L.f119 (by kernel_rfl) rfl
  have hn1 : ¬ r < 128 := by omega
  have h0 : (0 : Int) ≤ r := by omega
  by_cases hbad : r = 65533
  · subst hbad
    have HS : Aside (∀ b ∈ s.data.toList, b.toNat < 128) := hs
    clear hs
    go_enter L.f152, Body.n152_ntmps ρ
    go_wp2
    go_loopg [5, 6] s.size (fun g _ _ wx => ∃ i : Nat, i + g = s.size ∧ wx = w.iter s i)
    case atStart => exact ⟨0, by omega, rfl⟩
    case round =>
      obtain ⟨i, hig, rfl⟩ := hrel
      cases gk with
      | zero =>
        obtain rfl : i = s.size := by omega
        have hnx := run_next_end (P := P) w s s.size
        go_wp2
        go_ret
        exact ⟨rfl, (Below.refl _ _).alloc (Nat.le_refl _) _⟩
      | succ g =>
        have hi : i < s.size := by omega
        obtain ⟨x, hx⟩ : ∃ x : UInt8, s[i]'hi = x := ⟨_, rfl⟩
        have hx128 : x.toNat < 128 := HS.out x (by rw [← hx]; exact List.mem_of_getElem? (Lib.data_getElem? s i hi))
        have hnx := fun ty => run_next_ascii (P := P) w s i ty hi (by rw [hx]; exact hx128)
        rw [hx] at hnx
        clear hx
        have hne : ¬ ((x.toNat : Int) = 65533) := by omega
        go_wp2
        go_roundg g
        case measure => omega
        case rel => exact ⟨i + 1, by omega, rfl⟩
  by_cases hv : Lib.validRune r = true
  · obtain ⟨e2, e4, elast⟩ := encode_facts r (by rw [show Utf8.valid r = Lib.validRune r from validRune_eq r]; exact hv) h128
    obtain ⟨rs, hrs⟩ : ∃ rs, rs = Utf8.encode r := ⟨_, rfl⟩
    rw [← hrs] at e2 e4 elast
    have hconv : ∀ w : World, (convert (ρ.t 21) (ρ.t 9) (.int .i32 r)).run P w = .ok (.string rs) w := fun w => by rw [hrs]; exact run_convert_int_string w _ _ _ _ (by rw [t21]; rfl) t9
    go_enter L.f152, Body.n152_ntmps ρ
    go_wp2_with (first | (go_at_fn (ρ.f 119); refine (Any.utf8_ValidRune { L with } _ _).mono ?_; rintro e w' ⟨rfl, hw⟩; rw [hw, hv]) | (simp only [hconv]))
    have HS : Aside (∀ b ∈ s.data.toList, b.toNat < 128) := hs
    have hl0 : rs.size - 1 < rs.size := by omega
    obtain ⟨c, hc⟩ : ∃ c : UInt8, rs[rs.size - 1]'hl0 = c := ⟨_, rfl⟩
    have hc128 := elast hl0
    rw [hc] at hc128
    obtain ⟨q, hq⟩ : ∃ q, rs.size = q + 1 := ⟨rs.size - 1, by omega⟩
    have HC : Aside (rs[rs.size - 1]'hl0 = c) := hc
    clear hs elast hc hrs
    have hlb : IntKind.i64.wrap ((rs.size : Int) - 1) = (q : Int) := by rw [IntKind.wrap_i64, hq]; omega
    go_step3
    go_wp2_with (simp only [hconv])
    go_loopg [9, 10] 1 (fun _ v9 v10 wx => v9 = .int .i64 (q : Int) ∧ v10 = .int .i64 0 ∧ wx = w)
    case atStart => exact ⟨rfl, rfl, rfl⟩
    case round =>
      obtain ⟨rfl, rfl, rfl⟩ := hrel
      by_cases hqs : q < s.size
      · obtain ⟨x, hx⟩ : ∃ x : UInt8, s[q]'hqs = x := ⟨_, rfl⟩
        have hx128 : x.toNat < 128 := HS.out x (by rw [← hx]; exact List.mem_of_getElem? (Lib.data_getElem? s q hqs))
        have hc' : rs[q]'(by omega) = c := by have := HC.out; simp only [hq, Nat.add_sub_cancel] at this; exact this
        have hne : ¬ (x.toNat = c.toNat) := by omega
        go_wp2
        go_step3
        go_wp2
        go_region_o
        have hneb : ((x.toNat : Int) != (c.toNat : Int)) = true := by rw [bne_iff_ne]; omega
        have hib : ∀ e, Lib.indexByte (s.extract (q + 1) e).data.toList ((c.toNat : Int)).toNat.toUInt8 = -1 := fun e => by
          rw [show ((c.toNat : Int)).toNat.toUInt8 = c by simp]
          exact ib_none _ _ (fun hm => by have := HS.out c (mem_extract hm); omega)
        go_wp2
        have hw1 : IntKind.i64.wrap ((q : Int) + 1) = (q : Int) + 1 := by rw [IntKind.wrap_i64]; omega
        have hle1 : (q : Int) + 1 ≤ (s.size : Int) := by omega
        have hge1 : (0 : Int) ≤ (q : Int) + 1 := by omega
        have htn1 : ((q : Int) + 1).toNat = q + 1 := by omega
        go_region_with_o (go_at_fn (ρ.f 137); refine (Any.strings_IndexByte { L with } _ _ _).mono ?_; rintro e w' ⟨rfl, hw⟩; rw [hw, hib])
        go_wp2
        simp only [Exit.noGoto_ret, go_sem]
        go_ret
        exact ⟨rfl, ((Below.refl _ _).drew).drew⟩
      · go_wp2
        simp only [Exit.noGoto_ret, go_sem]
        go_ret
        exact ⟨rfl, Below.refl _ _⟩
  · have hv' : Lib.validRune r = false := by simpa using hv
    go_enter L.f152, Body.n152_ntmps ρ
    go_wp2_with (go_at_fn (ρ.f 119); refine (Any.utf8_ValidRune { L with } _ _).mono ?_; rintro e w' ⟨rfl, hw⟩; rw [hw, hv'])
    go_ret
    exact ⟨rfl, Below.refl _ _⟩
theorem ascii_has {chars : ByteArray} (hc : ∀ b ∈ chars.data.toList, b.toNat < 128) {b : UInt8} (hb : 128 ≤ b.toNat) : chars.data.toList.contains b = false := by
  rw [← Bool.not_eq_true, List.contains_iff_mem]
  exact fun h => by have := hc b h; omega
theorem noAny_rune {s chars : ByteArray} (hc : ∀ b ∈ chars.data.toList, b.toNat < 128) {i : Nat} (hi : i < s.size) (hno : Lib.NoAny s.data.toList chars.data.toList i) (h128 : 128 ≤ (s[i]'hi).toNat) :
    Lib.NoAny s.data.toList chars.data.toList (i + (Utf8.decode s i).2) ∧ i + (Utf8.decode s i).2 ≤ s.size := by
  have hd := Lib.decode_N s i
  have hk := Lib.decodeN_conts (s.data.toList.length - i) (s.data.toList.getD i 0).toNat (s.data.toList.getD (i + 1) 0).toNat (s.data.toList.getD (i + 2) 0).toNat (s.data.toList.getD (i + 3) 0).toNat
  rw [← hd] at hk
  obtain ⟨k1, k2, k3, k4⟩ := hk
  have hl : s.data.toList.length = s.size := (Lib.size_eq s).symm
  have h1 := (decode_high s i hi h128).2
  refine ⟨fun j b hj hb => ?_, ?_⟩
  · by_cases hlt : j < i
    · exact hno j b hlt hb
    · refine ascii_has hc ?_
      have hg : ∀ d, j = i + d → (s.data.toList.getD (i + d) 0).toNat = b.toNat := fun d hd => by rw [← hd, List.getD, hb]; rfl
      have hx : s.data.toList[i]? = some (s[i]'hi) := Lib.data_getElem? s i hi
      by_cases e0 : j = i
      · rw [e0, hx] at hb
        rw [← Option.some.inj hb]; exact h128
      by_cases e1 : j = i + 1
      · have := hg 1 e1; have := k1 (by omega); omega
      by_cases e2 : j = i + 2
      · have := hg 2 e2; have := k2 (by omega); omega
      by_cases e3 : j = i + 3
      · have := hg 3 e3; have := k3 (by omega); omega
      omega
  · rw [hl] at k1 k2 k3
    have : (Utf8.decode s i).2 = 1 ∨ (Utf8.decode s i).2 = 2 ∨ (Utf8.decode s i).2 = 3 ∨ (Utf8.decode s i).2 = 4 := by omega
    rcases this with h | h | h | h
    · omega
    · have := k1 (by omega); omega
    · have := k2 (by omega); omega
    · have := k3 (by omega); omega
theorem IndexAny_short_any (L : Lays.n153 P ρ) (s chars : ByteArray) (w : World) (h2 : 2 ≤ chars.size) (h8 : s.size ≤ 8) (hc : ∀ b ∈ chars.data.toList, b.toNat < 128) (hcs : chars.size < 4294967281) :
    Calls P (ρ.f 153) #[.string s, .string chars] w fun e w' => e = .returned (.int .i64 (Lib.indexAny s.data.toList chars.data.toList)) ∧ Below w.heap.size w w' := by
  have HA : Aside (∀ b ∈ chars.data.toList, b.toNat < 128) := hc
  clear hc
  have hemp : chars.toList.isEmpty = false := by
    rw [Lib.toList_data]
    cases h : chars.data.toList with
    | nil => have := Lib.size_eq chars; rw [h, List.length_nil] at this; omega
    | cons _ _ => rfl
  have hn1 : ((chars.size : Int) == 1) = false := beq_eq_false_iff_ne.2 (by omega)
  have h8z : decide ((8 : Int) < (s.size : Int)) = false := decide_eq_false (by omega)
  have t3 := L.t3; have a3 := L.a3; have z3 := L.z3; have v3 := L.v3
  have t4 := L.t4; have a4 := L.a4; have z4 := L.z4; have v4 := L.v4
  have t5 := L.t5; have a5 := L.a5; have z5 := L.z5; have v5 := L.v5
  have t9 := L.t9; have a9 := L.a9; have z9 := L.z9; have v9 := L.v9
  have t21 := L.t21; have a21 := L.a21; have z21 := L.z21; have v21 := L.v21
  have e152 : ∀ args w, (callFunc (ρ.f 152) args).run P w = .ok (.enter (ρ.f 152) args) w := enters_of L.f152 (by kernel_rfl) rfl
  have e226 : ∀ args w, (callFunc (ρ.f 226) args).run P w = .ok (.enter (ρ.f 226) args) w := enters_of L.f226 (by kernel_rfl) rfl
  go_enter L.f153, Body.n153_ntmps ρ
  go_wp2_with (go_at_fn (ρ.f 226); refine (Any.strings_shouldUseASCIISet { L with } _ _).mono ?_; rintro e w' ⟨rfl, hw⟩; rw [hw, h8z])
  go_loopg [9, 10] s.size (fun g _ _ wx => ∃ i : Nat, i ≤ s.size ∧ s.size ≤ i + g ∧ Aside (Below w.heap.size w wx) ∧ Aside (wx.heap[w.heap.size]? = some (.stringIter s i)) ∧ Aside (Lib.NoAny s.data.toList chars.data.toList i))
  case atStart => exact ⟨0, by omega, by omega, (show Below _ _ _ from (Below.refl _ _).alloc (Nat.le_refl _) _), World.iter_heap w s 0, Lib.NoAny.zero _ _⟩
  case round =>
    obtain ⟨i, hil, hig, HB, HI, HN⟩ := hrel
    by_cases hi : i < s.size
    · obtain ⟨x, hx⟩ : ∃ x : UInt8, s[i]'hi = x := ⟨_, rfl⟩
      have hxl : s.data.toList[i]? = some x := by rw [← hx]; exact Lib.data_getElem? s i hi
      have hnx := fun ty => run_next_any_at (P := P) wr w.heap.size s i ty HI.out hi
      obtain ⟨W1, hW1⟩ : ∃ W1, W1 = wr.iterAt w.heap.size s (i + (Utf8.decode s i).2) := ⟨_, rfl⟩
      have HB1 : Aside (Below w.heap.size w W1) := by rw [hW1]; exact below_iterAt HB.out (Nat.le_refl _) _ _
      have HI1 : Aside (W1.heap[w.heap.size]? = some (.stringIter s (i + (Utf8.decode s i).2))) := by rw [hW1]; exact iterAt_heap _ _ _ _ _ HI.out
      rw [← hW1] at hnx
      by_cases h128 : x.toNat < 128
      · have hdec : Utf8.decode s i = (x.toNat, 1) := by rw [decode_ascii s i hi (by rw [hx]; exact h128), hx]
        rw [hdec] at hnx HI1
        have Hx : Aside (s.data.toList[i]? = some x) := hxl
        clear hxl hx hW1 hdec
        have hcon := Lib.contains_iff_indexByte chars.data.toList x
        have hback : ((x.toNat : Int)).toNat.toUInt8 = x := by simp
        cases hin : chars.data.toList.contains x
        · rw [hin] at hcon
          have hlt : ¬ ((0 : Int) ≤ Lib.indexByte chars.data.toList x) := of_decide_eq_false hcon.symm
          clear hcon
          go_wp2_with (go_at_fn (ρ.f 152); refine (Any.strings_IndexRune_ascii { L with } _ _ _ (by omega) (by omega)).mono ?_; rintro e w' ⟨rfl, hw⟩; rw [hw, hback])
          go_roundg (s.size - (i + 1))
          case measure => omega
          case rel => exact ⟨i + 1, by omega, by omega, HB1, HI1, HN.out.succ Hx.out hin⟩
        · rw [hin] at hcon
          have hge : (0 : Int) ≤ Lib.indexByte chars.data.toList x := of_decide_eq_true hcon.symm
          clear hcon
          go_wp2_with (go_at_fn (ρ.f 152); refine (Any.strings_IndexRune_ascii { L with } _ _ _ (by omega) (by omega)).mono ?_; rintro e w' ⟨rfl, hw⟩; rw [hw, hback])
          go_ret
          exact ⟨by rw [Lib.indexAny_hit HN.out Hx.out hin]; rfl, HB1.out⟩
      · have hhigh := decode_high s i hi (by rw [hx]; omega)
        have hnr := noAny_rune HA.out hi HN.out (by rw [hx]; omega)
        obtain ⟨c, hcd⟩ : ∃ c, c = (Utf8.decode s i).1 := ⟨_, rfl⟩
        obtain ⟨n, hnd⟩ : ∃ n, n = (Utf8.decode s i).2 := ⟨_, rfl⟩
        rw [← hcd] at hnx hhigh
        rw [← hnd] at hhigh hnr HI1
        clear hW1 hcd hnd hx hxl
        obtain ⟨hc128, hn1'⟩ := hhigh
        obtain ⟨hnr1, hnr2⟩ := hnr
        have HNR : Aside (Lib.NoAny s.data.toList chars.data.toList (i + n)) := hnr1
        clear hnr1
        go_wp2_with (go_at_fn (ρ.f 152); refine (IndexRune_high { L with } _ _ _ (by omega) HA.out hcs).mono ?_; rintro e w' ⟨rfl, hw⟩)
        go_roundg (s.size - (i + n))
        case measure => omega
        case rel => exact ⟨i + n, by omega, by omega, HB1.out.trans (hw.mono HB1.out.size), (hw.block _ ((Array.getElem?_eq_some_iff.1 HI1.out).1)).trans HI1.out, HNR⟩
    · obtain rfl : i = s.size := by omega
      have hnx := fun ty => run_next_end_at (P := P) wr w.heap.size s s.size ty HI.out (by omega)
      go_wp2
      go_ret
      exact ⟨by rw [Lib.indexAny_none (by rw [← Lib.size_eq]; exact HN.out)]; rfl, HB.out⟩
theorem IndexAny_any (L : Lays.n153 P ρ) (h116 : (P.info? (ρ.t 116)).map (fun i => (i.zero, i.size)) = some (some (.agg (Array.replicate 256 (.bool false))), 256)) (s chars : ByteArray) (w : World) (hs : s.size < 4294967281) (hcs : chars.size < 4294967281) (hc : ∀ b ∈ chars.data.toList, b.toNat < 128) :
    Calls P (ρ.f 153) #[.string s, .string chars] w fun e w' => e = .returned (.int .i64 (Lib.indexAny s.data.toList chars.data.toList)) ∧ Below w.heap.size w w' := by
  have hac : ∀ (j : Nat) b, chars.data.toList[j]? = some b → b.toNat < 128 := fun j b h => hc b (List.mem_of_getElem? h)
  by_cases h0 : chars.size = 0
  · exact (Any.strings_IndexAny_none L s chars w h0).mono fun e w' ⟨h1, h2⟩ => ⟨h1, h2 ▸ Below.refl _ _⟩
  by_cases h1 : chars.size = 1
  · exact (Any.strings_IndexAny_one L s chars w h1 hac).mono fun e w' ⟨h1, h2⟩ => ⟨h1, h2 ▸ Below.refl _ _⟩
  by_cases h8 : s.size ≤ 8
  · exact IndexAny_short_any L s chars w (by omega) h8 hc hcs
  · refine (Any.strings_IndexAny_long L (zero_of_info h116).1 (zero_of_info h116).2 s chars w (by omega) (by omega) hs hcs hac).mono fun e w' ⟨h1, h2⟩ => ⟨h1, ?_⟩
    rw [h2]
    exact ((Below.refl _ _).alloc (Nat.le_refl _) _).alloc (by simp) _
theorem ContainsAny_any (L : Lays.n150 P ρ) (h116 : (P.info? (ρ.t 116)).map (fun i => (i.zero, i.size)) = some (some (.agg (Array.replicate 256 (.bool false))), 256)) (s chars : ByteArray) (w : World) (hs : s.size < 4294967281) (hcs : chars.size < 4294967281) (hc : ∀ b ∈ chars.data.toList, b.toNat < 128) :
    Calls P (ρ.f 150) #[.string s, .string chars] w fun e w' => e = .returned (.bool (Lib.containsAny s.data.toList chars.data.toList)) ∧ Below w.heap.size w w' := by
  have c := IndexAny_any { L with } h116 s chars w hs hcs hc
  have t3 := L.t3; have a3 := L.a3; have z3 := L.z3; have v3 := L.v3
  have t4 := L.t4; have a4 := L.a4; have z4 := L.z4; have v4 := L.v4
  have t9 := L.t9; have a9 := L.a9; have z9 := L.z9; have v9 := L.v9
  have e153 : ∀ args w, (callFunc (ρ.f 153) args).run P w = .ok (.enter (ρ.f 153) args) w := enters_of L.f153 (by kernel_rfl) rfl
  go_enter L.f150, Body.n150_ntmps ρ
  go_wp2_with (go_at_fn (ρ.f 153); refine c.mono ?_; rintro e w' ⟨rfl, hw⟩)
  go_ret
  exact ⟨rfl, hw⟩
end
end
section
def GV (w : World) : Prop := (∃ m : Int, w.cell? ⟨0, 0, none⟩ = some (.int .i64 m)) ∧ Lib.TabIs Tryz.prog w "internal/strconv.uint64pow10" .u64 Lib.pow10Tab
theorem tabG : ∃ g, Tryz.prog.globalNamed "internal/strconv.uint64pow10" = some g := Option.isSome_iff_exists.1 (show (Tryz.prog.globalNamed "internal/strconv.uint64pow10").isSome = true by kernel_rfl)
theorem GV.below {w w1 : World} (h : GV w) (hb : Below w.heap.size w w1) : GV w1 := by
  obtain ⟨⟨m, hm⟩, ht⟩ := h
  obtain ⟨g, hg⟩ := tabG
  exact ⟨⟨m, (hb.cell (World.block_lt_of_cell? _ _ hm)).trans hm⟩, Go.Joins.tab_stays hg ht hb (Nat.le_refl _)⟩
theorem tabIs_of_mem {P : Program} {W : World} {name : String} {k : IntKind} {zs : List Int} {l : List (String × DataW Unit)} {g : Nat} {t e : TypeId} {n : Nat}
    (hg : P.globalNamed name = some g) (hty : (P.globals[g]?).map (·.type) = some t) (ht : P.underlying t = some (.array n e)) (he : P.underlying e = some (.int k)) (hce : P.cellsOf e = 1) (hct : P.cellsOf t = n)
    (h : laidMet P l W) (hm : (name, Lib.tabData k zs) ∈ l) : Lib.TabIs P W name k zs := by
  obtain ⟨g', t', cs, fuel, p, hg', ht', hvar, hd⟩ := Lib.laidMet.reads h hm
  obtain rfl := Option.some.inj (hg.symm.trans hg')
  obtain rfl := Option.some.inj (hty.symm.trans ht')
  unfold Lib.TabIs
  rw [hvar, ← Lib.cells_of_tab ht he hce hct hd]
theorem pow_data : (Rows.laid_internal_strconv_uint64pow10 : DataW Unit) = Lib.tabData .u64 Lib.pow10Tab := rfl
theorem GV.shaped {w : World} (h : w.ShapedOpen Tryz.prog) {l : List (String × DataW Unit)} (hl : laidMet Tryz.prog l w) (hm : ("internal/strconv.uint64pow10", Rows.laid_internal_strconv_uint64pow10) ∈ l) : GV w := by
  refine ⟨Tryz.laysM144.s1_3 w h, ?_⟩
  rw [pow_data] at hm
  exact tabIs_of_mem (t := 224) (e := 193) (n := 20) (Option.some_get (x := Tryz.prog.globalNamed "internal/strconv.uint64pow10") (by kernel_rfl)).symm (by kernel_rfl) underlying224 underlying193 (by kernel_rfl) (by kernel_rfl) hl hm
def qcu_.f (a0 a1 : ByteArray) : Option Bool := if a0.size < 4294967281 then some (Lib.contains a0.data.toList a1.data.toList) else none
theorem qcu_.calls (a0 a1 : ByteArray) (r : Bool) (w : World) (hgv : GV w) (h : qcu_.f a0 a1 = some r) :
    Calls Tryz.prog 68 #[.string a0, .string a1] w fun e w' => e = .returned (.bool r) ∧ Drawn0 w w' := by
  unfold qcu_.f at h
  split at h
  · rename_i hs
    obtain rfl := Option.some.inj h
    obtain ⟨⟨m, hm⟩, _⟩ := hgv
    refine (Tryz.strings_Contains a0 a1 m w hs hm).mono ?_
    rintro e w' ⟨rfl, rfl⟩
    exact ⟨rfl, Drawn0.refl _⟩
  · cases h
def qcf_.f (a0 a1 : ByteArray) : Option (ByteArray × ByteArray × Bool) := if a0.size < 4294967281 then some (⟨(Lib.cut a0.data.toList a1.data.toList).1.toArray⟩, ⟨(Lib.cut a0.data.toList a1.data.toList).2.1.toArray⟩, (Lib.cut a0.data.toList a1.data.toList).2.2) else none
theorem qcf_.calls (a0 a1 : ByteArray) (r1 r2 : ByteArray) (r3 : Bool) (w : World) (hgv : GV w) (h : qcf_.f a0 a1 = some (r1, r2, r3)) :
    Calls Tryz.prog 82 #[.string a0, .string a1] w fun e w' => e = .returned (.tuple #[.string r1, .string r2, .bool r3]) ∧ Drawn0 w w' := by
  unfold qcf_.f at h
  split at h
  · rename_i hs
    obtain ⟨rfl, h2⟩ := Prod.mk.inj (Option.some.inj h)
    obtain ⟨rfl, rfl⟩ := Prod.mk.inj h2
    obtain ⟨⟨m, hm⟩, _⟩ := hgv
    refine (Tryz.strings_Cut a0 a1 m w hs hm).mono ?_
    rintro e w' ⟨rfl, n, rfl⟩
    exact ⟨rfl, ⟨n, rfl⟩⟩
  · cases h
def qdj_.f (a0 a1 : ByteArray) : Option Bool := if a0.size < 4294967281 then (if a1.size < 4294967281 then (if a1.data.toList.all (fun b => decide (b.toNat < 128)) = true then some (Lib.containsAny a0.data.toList a1.data.toList) else none) else none) else none
theorem qdj_.calls (a0 a1 : ByteArray) (r : Bool) (w : World) (h : qdj_.f a0 a1 = some r) :
    Calls Tryz.prog 85 #[.string a0, .string a1] w fun e w' => e = .returned (.bool r) ∧ Below w.heap.size w w' := by
  unfold qdj_.f at h
  split at h
  · split at h
    · split at h
      · rename_i h1 h2 h3
        obtain rfl := Option.some.inj h
        exact ContainsAny_any Tryz.lays150 (by kernel_rfl) a0 a1 w h1 h2 (fun b hb => by have := List.all_eq_true.1 h3 b hb; simpa using this)
      · cases h
    · cases h
  · cases h
theorem below_more {w : World} (k : Nat) (os : Array Obj) : Below w.heap.size w (Go.Sort.grow (w.drewN k) os) :=
  ⟨rfl, rfl, rfl, by simp [Go.Sort.grow, World.drewN], fun b hb => by simp [Go.Sort.grow, World.drewN, Array.getElem?_append, hb]⟩
def qda_.f (a0 : Int) : Option ByteArray := if -9223372036854775808 ≤ a0 then (if a0 ≤ 9223372036854775807 then some ⟨(Lib.itoa a0).toArray⟩ else none) else none
theorem qda_.calls (a0 : Int) (r : ByteArray) (w : World) (hgv : GV w) (h : qda_.f a0 = some r) :
    Calls Tryz.prog 91 #[.int .i64 a0] w fun e w' => e = .returned (.string r) ∧ Below w.heap.size w w' := by
  unfold qda_.f at h
  split at h
  · split at h
    · rename_i h1 h2
      obtain rfl := Option.some.inj h
      refine (Tryz.strconv_Itoa a0 h1 h2 w hgv.2).mono ?_
      rintro e w' ⟨rfl, k, os, rfl⟩
      exact ⟨rfl, below_more k os⟩
    · cases h
  · cases h
end
end Go.Proofs.YtbhfbbfjdklfgaaGreatDoor.Q
section
namespace Go.Proofs.YtbhfbbfjdklfgaaGreatDoor.Q
variable {H : Type} {enc : TypeId × Value → H}
theorem returnsInHanded_and_shaped {a : Assume} {C : Checked} {os : Os} {f : FuncId} {fn : Func} {s : ChangeSpec} {conds : List PathCond} {apart fresh handsOn again : Bool} {X : World → Array Value → Prop}
    (hX : ∀ (w w' : World) (args : Array Value), w.heap = w'.heap → X w args → X w' args)
    (own : ownKnob C.prog.godebug = none) (started : os.Started) (noInit : C.prog.inits.idxOf? f = none) (hfn : C.prog.funcs[f]? = some fn)
    (witness : ∃ (w : World) (tape : Tape) (i : Input), w.os = os ∧ (w.forCall tape i).Shaped C.prog ∧ i.vars = [] ∧ Input.okWide C.prog (w.forCall tape i) .any w.heap.size f i ∧
      ((s.pre enc C.prog fn conds apart (w.forCall tape i).memory i.args ∧ X (w.forCall tape i).memory i.args) ∧ sizedMet enc C.prog fn (OpenSpec.ofChange s) apart (w.forCall tape i).memory i.args) ∧ a.holds C.prog (lone (Frame.enter C.prog f i.args .normal) [] (w.forCall tape i)))
    (contract : ∀ (W : World) (base : Nat) (args : Array Value) (ds gs : List (DataW H)) (before : List MemPlace),
      (∀ (j : Nat) t v, fn.params[j]? = some t → args[j]? = some v → Value.okWide C.prog W .any base t v) →
      DataW.Whole enc C.prog fn.params.toList s.vars apart W args.toList ds gs before →
      conds.all (PathCond.test C.prog ⟨fn.params.toList, ds, s.plain.varTypes C.prog, gs⟩) = true →
      (DataW.weightsEach C.prog (fn.params.toList ++ s.plain.varTypes C.prog) (ds ++ gs)).all (· ≤ reachBytes) = true → X W args → W.ShapedOpen C.prog →
      Calls C.prog f args W fun e W' => ∃ v, e = .returned v ∧ s.post enc C.prog fn apart fresh handsOn again W args v W') :
    ReturnsInHanded a C os f .any (fun w args => (s.pre enc C.prog fn conds apart w args ∧ X w args) ∧ sizedMet enc C.prog fn (OpenSpec.ofChange s) apart w args) (s.post enc C.prog fn apart fresh handsOn again) := by
  refine returnsInHanded_of_calls own started noInit witness ?_
  intro w tape i _ hsh _ hok hpre hholds
  obtain ⟨_, _, _, fn', hfn', _, _, _, _, hval⟩ := hok
  have e : fn' = fn := Option.some.inj (hfn'.symm.trans hfn)
  subst e
  obtain ⟨⟨⟨ds, gs, before, hw, hc⟩, hx⟩, hz⟩ := hpre
  have hw' := DataW.Whole.of_heap (w' := w.forCall tape i) (by rfl) hw
  refine (contract (w.forCall tape i) w.heap.size i.args ds gs before hval hw' hc (hz.weights hw) (hX _ _ _ (by rfl) hx) hsh).mono fun e W' ⟨v, he, hp⟩ => ?_
  subst he
  exact ChangeSpec.post_blind hp
end Go.Proofs.YtbhfbbfjdklfgaaGreatDoor.Q
end
namespace Go.Proofs.YtbhfbbfjdklfgaaGreatDoor.Q
open Go.Proofs.Tryz Go.RowKit YtbhfbbfjdklfgaaGreatDoorW.PrintWords YtbhfbbfjdklfgaaGreatDoorW.PrintLast YtbhfbbfjdklfgaaGreatDoorW.PrintMore
section
attribute [local go_sem] qen_ qem_ qey_ qex_ qee_ qeg_ qel_ qek_
def qch_.l0 : Nat → List ByteArray → List ByteArray → Int → Option (Bool)
 | 0, _, _, _ => none
 | k + 1, x0, x1, x5 => if x5 < (x0.length : Int) then (if 0 ≤ x5 then (if x5 < (x1.length : Int) then (if (rdOf ByteArray.empty x0 x5).toList = (rdOf ByteArray.empty x1 x5).toList then (qch_.l0 k x0 x1 (wrap64 (x5 + 1))) else (some false)) else (none)) else (none)) else (some true)
def qch_.f (k : Nat) (l0 : List ByteArray) (l1 : List ByteArray) : Option (Bool) := if (l0.length : Int) = (l1.length : Int) then (qch_.l0 k l0 l1 0) else (some false)
theorem qch_.calls (k : Nat) (A0 : Option Addr) (c0 : Nat) (l0 : List ByteArray) (A1 : Option Addr) (c1 : Nat) (l1 : List ByteArray) (r : Bool) (w : World) (hr0 : Kd.C Kd.string w A0 l0.length l0) (hc0 : l0.length ≤ c0) (hr1 : Kd.C Kd.string w A1 l1.length l1) (hc1 : l1.length ≤ c1) (h : qch_.f k l0 l1 = some r) :
  Calls Tryz.prog 38 #[.slice A0 l0.length c0, .slice A1 l1.length c1] w fun e w' => e = .returned (.bool r) ∧ Drawn0 w w' := by
 have HR0 := qa_.mk hr0; have HC0 := qa_.mk hc0; clear hr0 hc0; have HR1 := qa_.mk hr1; have HC1 := qa_.mk hc1; clear hr1 hc1; unfold qch_.f at h; have H := h; clear h; by_cases c3 : (l0.length : Int) = (l1.length : Int); rotate_left
 ·rw [if_neg c3] at H; have c3b0 := ef_ c3; have c3b1 := nt_ c3; have c3b2 : (l0.length == l1.length) = false := by first | simpa using c3 | (simp at c3 ⊢; omega)
  obtain rfl := oi_ H; go_enter func38, ntmps38; go_wp2
  repeat (go_quiet (fail); try go_wp2)
  go_ret
  exact ⟨z1_, z2_⟩
 rw [if_pos c3] at H; have c3b0 := et_ c3; have c3b1 := nf_ c3; have c3b2 : (l0.length == l1.length) = true := by first | simpa using c3 | (simp at c3 ⊢; omega)
 clear c3; have H' := qa_.mk H; clear H; go_enter func38, ntmps38; go_wp2
 repeat (go_quiet (fail); try go_wp2)
 go_loopg [5] k (fun kq v5 w' => ∃ (x5_1 : Int), v5 = .int .i64 x5_1 ∧ qa_ (qch_.l0 kq l0 l1 x5_1 = some r) ∧ qa_ (kq ≤ k) ∧ Drawn0 w w')
 case atStart => exact ⟨(0), z1_, H', ⟨Nat.le_refl _⟩, z2_⟩
 case round =>
  clear H'; try clear c1
  try clear p2
  try clear c3
  try clear c3b0
  try clear c3b1
  try clear c3b2
  obtain ⟨x5_1, rfl, HA, HK1, ⟨m1, rfl⟩⟩ := hrel
  cases gk with
  | zero => exact absurd HA.out (by simp [qch_.l0])
  | succ k1 =>
   have H := HA.out; clear HA; simp only [qch_.l0] at H; by_cases c4 : x5_1 < (l0.length : Int); rotate_left
   ·rw [if_neg c4] at H; have c4b0 := df_ c4; clear c4; obtain rfl := oi_ H; go_wp2
    repeat (go_quiet (fail); try go_wp2)
    go_ret
    exact ⟨z1_, z2_⟩
   rw [if_pos c4] at H; have c4b0 := dt_ c4; clear c4; by_cases c5 : 0 ≤ x5_1; rotate_left
   ·rw [if_neg c5] at H; exact no_ H
   rw [if_pos c5] at H; have c5b0 := dt_ c5; clear c5; by_cases c6 : x5_1 < (l1.length : Int); rotate_left
   ·rw [if_neg c6] at H; exact no_ H
   rw [if_pos c6] at H; have c6b0 := dt_ c6; clear c6; by_cases c7 : (rdOf ByteArray.empty l0 x5_1).toList = (rdOf ByteArray.empty l1 x5_1).toList; rotate_left
   ·rw [if_neg c7] at H; have c7b0 := ef_ c7; have c7b1 := nt_ c7; obtain rfl := oi_ H; have p101 : 0 ≤ (x5_1 : Int) := y0_; have q101 : x5_1 < (l0.length : Int) := y0_; obtain ⟨ad101, e101, hx101_0⟩ := Kd.at_string HR0.out x5_1 p101 q101
    cases e101
    replace p101 := eq_true p101; replace q101 := eq_true q101; have p102 : 0 ≤ (x5_1 : Int) := y0_; have q102 : x5_1 < (l1.length : Int) := y0_; obtain ⟨ad102, e102, hx102_0⟩ := Kd.at_string HR1.out x5_1 p102 q102
    cases e102
    replace p102 := eq_true p102; replace q102 := eq_true q102; go_wp2
    repeat (go_quiet (fail); try go_wp2)
    go_ret
    exact ⟨z1_, z2_⟩
   rw [if_pos c7] at H; have c7b0 := et_ c7; have c7b1 := nf_ c7; clear c7; have H' := qa_.mk H; clear H; have p101 : 0 ≤ (x5_1 : Int) := y0_; have q101 : x5_1 < (l0.length : Int) := y0_; obtain ⟨ad101, e101, hx101_0⟩ := Kd.at_string HR0.out x5_1 p101 q101
   cases e101
   replace p101 := eq_true p101; replace q101 := eq_true q101; have p102 : 0 ≤ (x5_1 : Int) := y0_; have q102 : x5_1 < (l1.length : Int) := y0_; obtain ⟨ad102, e102, hx102_0⟩ := Kd.at_string HR1.out x5_1 p102 q102
   cases e102
   replace p102 := eq_true p102; replace q102 := eq_true q102; go_wp2
   repeat (go_quiet (fail); try go_wp2)
   go_roundg k1
   case measure => have := HK1.out; omega
   case rel => exact ⟨(wrap64 (x5_1 + 1)), z1_, H', ⟨by have := HK1.out; omega⟩, z2_⟩
end
section
attribute [local go_sem] qen_ qem_ qey_ qex_ qee_ qeg_ qel_ qek_
def qcm_.f (a0 : Int) : Option (ByteArray) := if a0 = 1 then (some (⟨#[98, 108, 111, 98]⟩ : ByteArray)) else (if a0 = 2 then (some (⟨#[116, 114, 101, 101]⟩ : ByteArray)) else (if a0 = 3 then (some (⟨#[99, 111, 109, 109, 105, 116]⟩ : ByteArray)) else (if a0 = 4 then (some (⟨#[116, 97, 103]⟩ : ByteArray)) else (some (⟨#[]⟩ : ByteArray)))))
theorem qcm_.calls (a0 : Int) (r : ByteArray) (w : World) (h : qcm_.f a0 = some r) :
  Calls Tryz.prog 80 #[.int .i64 a0] w fun e w' => e = .returned (.string r) ∧ Drawn0 w w' := by
 unfold qcm_.f at h; have H := h; clear h; by_cases c2 : a0 = 1
 ·rw [if_pos c2] at H; have c2b0 := et_ c2; have c2b1 := nf_ c2; clear c2; obtain rfl := oi_ H; go_enter func80, ntmps80; go_wp2
  go_ret
  exact ⟨z1_, z2_⟩
 rw [if_neg c2] at H; have c2b0 := ef_ c2; have c2b1 := nt_ c2; by_cases c3 : a0 = 2
 ·rw [if_pos c3] at H; have c3b0 := et_ c3; have c3b1 := nf_ c3; clear c3; obtain rfl := oi_ H; go_enter func80, ntmps80; go_wp2
  go_ret
  exact ⟨z1_, z2_⟩
 rw [if_neg c3] at H; have c3b0 := ef_ c3; have c3b1 := nt_ c3; by_cases c4 : a0 = 3
 ·rw [if_pos c4] at H; have c4b0 := et_ c4; have c4b1 := nf_ c4; clear c4; obtain rfl := oi_ H; go_enter func80, ntmps80; go_wp2
  go_ret
  exact ⟨z1_, z2_⟩
 rw [if_neg c4] at H; have c4b0 := ef_ c4; have c4b1 := nt_ c4; by_cases c5 : a0 = 4; rotate_left
 ·rw [if_neg c5] at H; have c5b0 := ef_ c5; have c5b1 := nt_ c5; obtain rfl := oi_ H; go_enter func80, ntmps80; go_wp2
  go_ret
  exact ⟨z1_, z2_⟩
 rw [if_pos c5] at H; have c5b0 := et_ c5; have c5b1 := nf_ c5; clear c5; obtain rfl := oi_ H; go_enter func80, ntmps80; go_wp2
 go_ret
 exact ⟨z1_, z2_⟩
def qbc_.l0 : Nat → Int → ByteArray → Int → Option (ByteArray)
 | 0, _, _, _ => none
 | k + 1, x0, x3, x4 => if x4 = 0 then (if x3.toList = ([] : List UInt8) then ((some (([(wrap64 (48 + (mx (Int.tmod x4 10) (wrap64 (-(Int.tmod x4 10)))))) % 256] : List Int) : List Int)).bind fun y190 => (if (strOfNums y190).size + x3.size ≤ 9223372036854775807 then (qbc_.l0 k x0 ((strOfNums y190) ++ x3) (wrap64 (Int.tdiv x4 10))) else (none))) else (if x0 < 0 then (if 1 + x3.size ≤ 9223372036854775807 then (some ((⟨#[45]⟩ : ByteArray) ++ x3)) else (none)) else (some x3))) else ((some (([(wrap64 (48 + (mx (Int.tmod x4 10) (wrap64 (-(Int.tmod x4 10)))))) % 256] : List Int) : List Int)).bind fun y193 => (if (strOfNums y193).size + x3.size ≤ 9223372036854775807 then (qbc_.l0 k x0 ((strOfNums y193) ++ x3) (wrap64 (Int.tdiv x4 10))) else (none)))
def qbc_.f (k : Nat) (a0 : Int) : Option (ByteArray) := qbc_.l0 k a0 ⟨#[]⟩ a0
theorem qbc_.calls (k : Nat) (a0 : Int) (r : ByteArray) (w : World) (h : qbc_.f k a0 = some r) :
  Calls Tryz.prog 155 #[.int .i64 a0] w fun e w' => e = .returned (.string r) ∧ Below w.heap.size w w' := by
 have HB := qa_.mk (Below.refl w.heap.size w); unfold qbc_.f at h; have H := h; clear h; have H' := qa_.mk H; clear H; go_enter func155, ntmps155; go_wp2
 go_loopg [3, 4] k (fun kq v3 v4 w' => ∃ (x3_1 : ByteArray) (x4_1 : Int), v3 = .string x3_1 ∧ v4 = .int .i64 x4_1 ∧ qa_ (qbc_.l0 kq a0 x3_1 x4_1 = some r) ∧ qa_ (kq ≤ k) ∧ qa_ (Below w.heap.size w w'))
 case atStart => exact ⟨((⟨#[]⟩ : ByteArray)), (a0), z1_, z1_, H', ⟨Nat.le_refl _⟩, ⟨hb_ HB.out⟩⟩
 case round =>
  clear H'; try clear c1
  obtain ⟨x3_1, x4_1, rfl, rfl, HA, HK1, HB⟩ := hrel
  cases gk with
  | zero => exact absurd HA.out (by simp [qbc_.l0])
  | succ k1 =>
   have H := HA.out; clear HA; simp only [qbc_.l0] at H; by_cases c2 : x4_1 = 0; rotate_left
   ·rw [if_neg c2] at H; have c2b0 := ef_ c2; have c2b1 := nt_ c2; obtain ⟨ji11, hji11⟩ : ∃ j_ : Int, (mx (Int.tmod x4_1 10) (wrap64 (-(Int.tmod x4_1 10)))) = j_ := ⟨_, rfl⟩; replace H : ((some (([(wrap64 (48 + (ji11))) % 256] : List Int) : List Int)).bind fun y193 => (if (strOfNums y193).size + x3_1.size ≤ 9223372036854775807 then (qbc_.l0 k1 a0 ((strOfNums y193) ++ x3_1) (wrap64 (Int.tdiv x4_1 10))) else (none))) = some r := by first | (rw [hji11] at H; exact H) | (simp only [hji11] at H ⊢; exact H)
    have hji11_ : (if (Int.tmod x4_1 10) < (wrap64 (-(Int.tmod x4_1 10))) then (wrap64 (-(Int.tmod x4_1 10))) else (Int.tmod x4_1 10)) = ji11 := hji11; obtain ⟨y193, hy193⟩ : ∃ y_ : List Int, y_ = (([(wrap64 (48 + (ji11))) % 256] : List Int)) := ⟨_, rfl⟩; replace H : (if (strOfNums y193).size + x3_1.size ≤ 9223372036854775807 then (qbc_.l0 k1 a0 ((strOfNums y193) ++ x3_1) (wrap64 (Int.tdiv x4_1 10))) else (none)) = some r := by first | (rw [hy193]; with_reducible exact H) | (have H2_ := (Option.bind_some _ _).symm.trans H; rw [hy193]; with_reducible exact H2_) | (have H2_ := (Option.bind_some _ _).symm.trans H; with_reducible exact H2_) | with_reducible exact H | (rw [hy193]; exact H) | exact H
    have Ny193 := qa_.mk hy193; clear hy193; by_cases c12 : (strOfNums y193).size + x3_1.size ≤ 9223372036854775807; rotate_left
    ·rw [if_neg c12] at H; exact no_ H
    rw [if_pos c12] at H; have c12b0 := eq_true c12; have c12b1 := dt_ c12; try have c12b2 := nl_ c12
    have H' := qa_.mk H; clear H; go_wp2_with (first | ((with_reducible refine qh_ (N := 23) rfl ?_); refine Kd.R_lit (Kd.int .u8) _ 5 ?hg (N := 23) ?hd (xs := ([(wrap64 (48 + (ji11))) % 256] : List Int)) (inner := [.int .u8 ((wrap64 (48 + (ji11))) % 256)]) (ok := fun _ => True) (okp := fun _ => True) ?hr ?hp (fun _ hk => hk) trivial (Below.refl _ _) (Nat.le_refl _) (by simp) ?_; (case hd => rfl); (case hg => rfl); (case hr => first | (go_simp; done) | (go_simp; rfl)); (case hp => exact (Reps.one (show Kd.M (Kd.int .u8) _ _ _ ((wrap64 (48 + (ji11))) % 256) [.int .u8 ((wrap64 (48 + (ji11))) % 256)] from rfl) (Reps.none _ _))); intro v194 w13 ho14 hb hg_ hnew_; clear hg_ hnew_; (first | rw [← Ny193.out] at ho14 | (simp only [Int.reduceToNat] at ho14; rw [← Ny193.out] at ho14)); have HO195 := qa_.mk (Kd.R_lower ho14 (qj_ (hb_ HB.out))); replace HB := ah_ HB hb; clear hb ho14; have hcv15 := qgv_ (P := Tryz.prog) underlying103 underlying5 underlying9 (Kd.own_of_R HO195.out))); go_roundg k1
    case measure => have := HK1.out; omega
    case rel => exact ⟨((strOfNums y193) ++ x3_1), (wrap64 (Int.tdiv x4_1 10)), z1_, z1_, H', ⟨by have := HK1.out; omega⟩, ⟨hb_ HB.out⟩⟩
   rw [if_pos c2] at H; have c2b0 := et_ c2; have c2b1 := nf_ c2; clear c2; by_cases c3 : x3_1.toList = ([] : List UInt8); rotate_left
   ·rw [if_neg c3] at H; have c3b0 := ef_ c3; have c3b1 := nt_ c3; by_cases c9 : a0 < 0; rotate_left
    ·rw [if_neg c9] at H; have c9b0 := df_ c9; clear c9; obtain rfl := oi_ H; go_wp2
     go_ret
     exact ⟨z3_, hb_ HB.out⟩
    rw [if_pos c9] at H; have c9b0 := dt_ c9; clear c9; by_cases c10 : 1 + x3_1.size ≤ 9223372036854775807; rotate_left
    ·rw [if_neg c10] at H; exact no_ H
    rw [if_pos c10] at H; have c10b0 := eq_true c10; have c10b1 := dt_ c10; try have c10b2 := nl_ c10
    obtain rfl := oi_ H; go_wp2
    go_ret
    exact ⟨z3_, hb_ HB.out⟩
   rw [if_pos c3] at H; have c3b0 := et_ c3; have c3b1 := nf_ c3; clear c3; obtain ⟨ji4, hji4⟩ : ∃ j_ : Int, (mx (Int.tmod x4_1 10) (wrap64 (-(Int.tmod x4_1 10)))) = j_ := ⟨_, rfl⟩; replace H : ((some (([(wrap64 (48 + (ji4))) % 256] : List Int) : List Int)).bind fun y190 => (if (strOfNums y190).size + x3_1.size ≤ 9223372036854775807 then (qbc_.l0 k1 a0 ((strOfNums y190) ++ x3_1) (wrap64 (Int.tdiv x4_1 10))) else (none))) = some r := by first | (rw [hji4] at H; exact H) | (simp only [hji4] at H ⊢; exact H)
   have hji4_ : (if (Int.tmod x4_1 10) < (wrap64 (-(Int.tmod x4_1 10))) then (wrap64 (-(Int.tmod x4_1 10))) else (Int.tmod x4_1 10)) = ji4 := hji4; obtain ⟨y190, hy190⟩ : ∃ y_ : List Int, y_ = (([(wrap64 (48 + (ji4))) % 256] : List Int)) := ⟨_, rfl⟩; replace H : (if (strOfNums y190).size + x3_1.size ≤ 9223372036854775807 then (qbc_.l0 k1 a0 ((strOfNums y190) ++ x3_1) (wrap64 (Int.tdiv x4_1 10))) else (none)) = some r := by first | (rw [hy190]; with_reducible exact H) | (have H2_ := (Option.bind_some _ _).symm.trans H; rw [hy190]; with_reducible exact H2_) | (have H2_ := (Option.bind_some _ _).symm.trans H; with_reducible exact H2_) | with_reducible exact H | (rw [hy190]; exact H) | exact H
   have Ny190 := qa_.mk hy190; clear hy190; by_cases c5 : (strOfNums y190).size + x3_1.size ≤ 9223372036854775807; rotate_left
   ·rw [if_neg c5] at H; exact no_ H
   rw [if_pos c5] at H; have c5b0 := eq_true c5; have c5b1 := dt_ c5; try have c5b2 := nl_ c5
   have H' := qa_.mk H; clear H; go_wp2_with (first | ((with_reducible refine qh_ (N := 23) rfl ?_); refine Kd.R_lit (Kd.int .u8) _ 5 ?hg (N := 23) ?hd (xs := ([(wrap64 (48 + (ji4))) % 256] : List Int)) (inner := [.int .u8 ((wrap64 (48 + (ji4))) % 256)]) (ok := fun _ => True) (okp := fun _ => True) ?hr ?hp (fun _ hk => hk) trivial (Below.refl _ _) (Nat.le_refl _) (by simp) ?_; (case hd => rfl); (case hg => rfl); (case hr => first | (go_simp; done) | (go_simp; rfl)); (case hp => exact (Reps.one (show Kd.M (Kd.int .u8) _ _ _ ((wrap64 (48 + (ji4))) % 256) [.int .u8 ((wrap64 (48 + (ji4))) % 256)] from rfl) (Reps.none _ _))); intro v191 w6 ho7 hb hg_ hnew_; clear hg_ hnew_; (first | rw [← Ny190.out] at ho7 | (simp only [Int.reduceToNat] at ho7; rw [← Ny190.out] at ho7)); have HO192 := qa_.mk (Kd.R_lower ho7 (qj_ (hb_ HB.out))); replace HB := ah_ HB hb; clear hb ho7; have hcv8 := qgv_ (P := Tryz.prog) underlying103 underlying5 underlying9 (Kd.own_of_R HO192.out))); go_roundg k1
   case measure => have := HK1.out; omega
   case rel => exact ⟨((strOfNums y190) ++ x3_1), (wrap64 (Int.tdiv x4_1 10)), z1_, z1_, H', ⟨by have := HK1.out; omega⟩, ⟨hb_ HB.out⟩⟩
def qdf_.f (a0_0 : Int) (a0_1 : ByteArray) : Option (Int) := (qcm_.f a0_0).bind fun t174 => (if t174.toList = ([] : List UInt8) then (some 140) else (if (a0_1.size : Int) > 1048576 then (some 4) else (some 0)))
theorem qdf_.calls (a0_0 : Int) (a0_1 : ByteArray) (r : Int) (w : World) (h : qdf_.f a0_0 a0_1 = some r) :
  Calls Tryz.prog 154 #[.agg #[.int .i64 a0_0, .string a0_1]] w fun e w' => e = .returned (.int .i64 r) ∧ Below w.heap.size w w' := by
 have hu50 := underlying50; have HB := qa_.mk (Below.refl w.heap.size w); unfold qdf_.f at h; have H := h; clear h; obtain ⟨t174, A2, H⟩ := bx_ H; by_cases c3 : t174.toList = ([] : List UInt8)
 ·rw [if_pos c3] at H; have c3b0 := et_ c3; have c3b1 := nf_ c3; clear c3; obtain rfl := oi_ H; go_enter func154, ntmps154; go_wp2_with (first | ((with_reducible refine qh_ (N := 1) rfl ?_); refine be_ (cs := #[.int .i64 a0_0, .string a0_1]) (t := 50) ?_; intro g173 hg w4 hbox hb; have K173 := qa_.mk (hbox); have W173 := ag_ hg HB; have E173 := ag_ hg HB; replace HB := ah_ HB hb; clear hb hbox hg; obtain ⟨Z5_0, Z5_1, F5⟩ := bc2 K173.out) | ((with_reducible refine qb_ (f := 80) rfl ?_); refine gl_ (some 5) func80 #[.int .i64 a0_0] ?_; refine cm_ (qcm_.calls a0_0 t174 _ A2.out) ?_; rintro w' ⟨nd, rfl⟩)); go_ret
  exact ⟨z3_, hs_⟩
 rw [if_neg c3] at H; have c3b0 := ef_ c3; have c3b1 := nt_ c3; by_cases c6 : (a0_1.size : Int) > 1048576
 ·rw [if_pos c6] at H; have c6b0 := dt_ c6; have c6b1 : decide (1048576 < a0_1.size) = true := decide_eq_true (by omega); clear c6; obtain rfl := oi_ H; go_enter func154, ntmps154; go_wp2_with (first | ((with_reducible refine qh_ (N := 1) rfl ?_); refine be_ (cs := #[.int .i64 a0_0, .string a0_1]) (t := 50) ?_; intro g173 hg w7 hbox hb; have K173 := qa_.mk (hbox); have W173 := ag_ hg HB; have E173 := ag_ hg HB; replace HB := ah_ HB hb; clear hb hbox hg; obtain ⟨Z8_0, Z8_1, F8⟩ := bc2 K173.out) | ((with_reducible refine qb_ (f := 80) rfl ?_); refine gl_ (some 5) func80 #[.int .i64 a0_0] ?_; refine cm_ (qcm_.calls a0_0 t174 _ A2.out) ?_; rintro w' ⟨nd, rfl⟩)); go_ret
  exact ⟨z3_, hs_⟩
 rw [if_neg c6] at H; have c6b0 := df_ c6; have c6b1 : decide (1048576 < a0_1.size) = false := decide_eq_false (by omega); clear c6; obtain rfl := oi_ H; go_enter func154, ntmps154; go_wp2_with (first | ((with_reducible refine qh_ (N := 1) rfl ?_); refine be_ (cs := #[.int .i64 a0_0, .string a0_1]) (t := 50) ?_; intro g173 hg w9 hbox hb; have K173 := qa_.mk (hbox); have W173 := ag_ hg HB; have E173 := ag_ hg HB; replace HB := ah_ HB hb; clear hb hbox hg; obtain ⟨Z10_0, Z10_1, F10⟩ := bc2 K173.out) | ((with_reducible refine qb_ (f := 80) rfl ?_); refine gl_ (some 5) func80 #[.int .i64 a0_0] ?_; refine cm_ (qcm_.calls a0_0 t174 _ A2.out) ?_; rintro w' ⟨nd, rfl⟩)); go_ret
 exact ⟨z3_, hs_⟩
def qbr_.f (k : Nat) (a0_0 : Int) (a0_1 : ByteArray) : Option (ByteArray × Int) := (qdf_.f a0_0 a0_1).bind fun t134 => (if t134 = 0 then ((qcm_.f a0_0).bind fun t135 => (if t135.size + 1 ≤ 9223372036854775807 then ((qbc_.f k (a0_1.size : Int)).bind fun t136 => (if (t135 ++ (⟨#[32]⟩ : ByteArray)).size + t136.size ≤ 9223372036854775807 then (if ((t135 ++ (⟨#[32]⟩ : ByteArray)) ++ t136).size + 1 ≤ 9223372036854775807 then (if (((t135 ++ (⟨#[32]⟩ : ByteArray)) ++ t136) ++ (⟨#[0]⟩ : ByteArray)).size + a0_1.size ≤ 9223372036854775807 then (some ((((t135 ++ (⟨#[32]⟩ : ByteArray)) ++ t136) ++ (⟨#[0]⟩ : ByteArray)) ++ a0_1, 0)) else (none)) else (none)) else (none))) else (none))) else (some ((⟨#[]⟩ : ByteArray), t134)))
def qbr_.T4 : Bool × List (List Nat × List Nat) := (true, [([], []), ([0], [0]), ([1], [1]), ([2], [2]), ([], []), ([4], [4]), ([5], [5]), ([6, 2], [6]), ([3, 7], [3, 7]), ([8], [8]), ([], []), ([10], [10]), ([9, 11], [9, 11]), ([12, 7, 0, 1, 2, 3, 4, 5, 6, 7, 8, 9, 10, 11, 12], [12]), ([13, 0, 1, 2, 3, 4, 5, 6, 7, 8, 9, 10, 11, 12, 13], [])])
def qbr_.B4 : List Nat := [0, 1, 3, 7, 0, 16, 48, 119, 255, 511, 0, 1024, 4095, 8191, 16383]
theorem qbr_.tab4 : rtab .any (opsOf Tryz.f98 4) = qbr_.T4 := by kernel_rfl
theorem qbr_.bits4 : qdu_ qbr_.T4.2 qbr_.B4 = true := by kernel_rfl
theorem qbr_.calls (k : Nat) (a0_0 : Int) (a0_1 : ByteArray) (r1 : ByteArray) (r2 : Int) (w : World) (h : qbr_.f k a0_0 a0_1 = some (r1, r2)) :
  Calls Tryz.prog 98 #[.agg #[.int .i64 a0_0, .string a0_1]] w fun e w' => e = .returned (.tuple #[.string r1, .int .i64 r2]) ∧ Below w.heap.size w w' := by
 have hu50 := underlying50; have HB := qa_.mk (Below.refl w.heap.size w); unfold qbr_.f at h; have H := h; clear h; obtain ⟨t134, A2, H⟩ := bx_ H; by_cases c3 : t134 = 0; rotate_left
 ·rw [if_neg c3] at H; have c3b0 := ef_ c3; have c3b1 := nt_ c3; obtain ⟨rfl, rfl⟩ := pj2_ H; go_enter func98, ntmps98; go_wp2_with (first | ((with_reducible refine qh_ (N := 1) rfl ?_); refine be_ (cs := #[.int .i64 a0_0, .string a0_1]) (t := 50) ?_; intro g133 hg w15 hbox hb; have K133 := qa_.mk (hbox); have W133 := ag_ hg HB; have E133 := ag_ hg HB; replace HB := ah_ HB hb; clear hb hbox hg; obtain ⟨Z16_0, Z16_1, F16⟩ := bc2 K133.out) | ((with_reducible refine qb_ (f := 154) rfl ?_); refine gl_ (some 6) func154 #[.agg #[.int .i64 a0_0, .string a0_1]] ?_; refine cm_ (qdf_.calls a0_0 a0_1 t134 _ A2.out) fun w17 hb => ?_; replace K133 := ab_ K133 hb; replace HB := hr_ hb; (try clear hb); (try clear hb2); (try clear hk); (try clear hi)))
  go_ret2
  exact ⟨z3_, hs_⟩
 rw [if_pos c3] at H; have c3b0 := et_ c3; have c3b1 := nf_ c3; clear c3; obtain ⟨t135, A4, H⟩ := bx_ H; by_cases c5 : t135.size + 1 ≤ 9223372036854775807; rotate_left
 ·rw [if_neg c5] at H; exact no_ H
 rw [if_pos c5] at H; have c5b0 := eq_true c5; have c5b1 := dt_ c5; try have c5b2 := nl_ c5
 obtain ⟨t136, A6, H⟩ := bx_ H; by_cases c7 : (t135 ++ (⟨#[32]⟩ : ByteArray)).size + t136.size ≤ 9223372036854775807; rotate_left
 ·rw [if_neg c7] at H; exact no_ H
 rw [if_pos c7] at H; have c7b0 := eq_true c7; have c7b1 := dt_ c7; try have c7b3 : (9223372036854775807 < t135.size + 1 + t136.size) = False := have h_ := c7; ns_
 try have c7b2 := nl_ c7
 by_cases c8 : ((t135 ++ (⟨#[32]⟩ : ByteArray)) ++ t136).size + 1 ≤ 9223372036854775807; rotate_left
 ·rw [if_neg c8] at H; exact no_ H
 rw [if_pos c8] at H; have c8b0 := eq_true c8; have c8b1 := dt_ c8; try have c8b3 : (9223372036854775807 < t135.size + 1 + t136.size + 1) = False := have h_ := c8; ns_
 try have c8b2 := nl_ c8
 by_cases c9 : (((t135 ++ (⟨#[32]⟩ : ByteArray)) ++ t136) ++ (⟨#[0]⟩ : ByteArray)).size + a0_1.size ≤ 9223372036854775807; rotate_left
 ·rw [if_neg c9] at H; exact no_ H
 rw [if_pos c9] at H; have c9b0 := eq_true c9; have c9b1 := dt_ c9; try have c9b3 : (9223372036854775807 < t135.size + 1 + t136.size + 1 + a0_1.size) = False := have h_ := c9; ns_
 try have c9b2 := nl_ c9
 obtain ⟨rfl, rfl⟩ := pj2_ H; go_enter func98, ntmps98; try go_wp2_with (first | ((with_reducible refine qh_ (N := 1) rfl ?_); refine be_ (cs := #[.int .i64 a0_0, .string a0_1]) (t := 50) ?_; intro g133 hg w10 hbox hb; have K133 := qa_.mk (hbox); have W133 := ag_ hg HB; have E133 := ag_ hg HB; replace HB := ah_ HB hb; clear hb hbox hg; obtain ⟨Z11_0, Z11_1, F11⟩ := bc2 K133.out) | ((with_reducible refine qb_ (f := 154) rfl ?_); refine gl_ (some 6) func154 #[.agg #[.int .i64 a0_0, .string a0_1]] ?_; refine cm_ (qdf_.calls a0_0 a0_1 t134 _ A2.out) fun w12 hb => ?_; replace K133 := ab_ K133 hb; replace HB := hr_ hb; (try clear hb); (try clear hb2); (try clear hk); (try clear hi)))
 replace K133 := ad_ K133; replace HB := hd_ HB; refine qdm_ (n := 15) (S := fun w' => w'.cell? ⟨g133, 0, none⟩ = some (.int .i64 a0_0) ∧ w'.cell? ⟨g133, 1, none⟩ = some (.string a0_1)) (ds := []) (bs 15 0) (by kernel_rfl) rfl rfl (bc2o K133.out) (fun qn_ => ?_); refine qdg_ qbr_.tab4 qbr_.bits4 (fun HT_ HW_ => ?_); generalize w12.drew = w13 at K133 HB qn_ ⊢; refine pun_ 0 10 15 1 ?_; refine pun_ 4 14 15 17 ?_; refine pun_ 10 20 15 1041 ?_; refine qfs_ 1 11 15 1043 qn_ ?_; refine qfs_ 5 15 15 1075 qn_ ?_; refine pun_ 6 16 15 1139 ?_; refine qfs_ 11 21 15 3187 qn_ ?_; refine on_ 2 12 15 3191 (fun K hK => ?_); refine goes_ func80 (by kernel_rfl) rfl #[.int .i64 a0_0] (by rfl) rfl rfl z5_ ?_
 with_reducible refine (qcm_.calls a0_0 t135 _ A4.out).mono ?_
 rintro e w' ⟨rfl, ⟨nd, rfl⟩⟩; refine ⟨_, rfl, ?_⟩; refine hK.out _ _ (bc2o K133.out) (fun qn_ => ?_); clear hK K; refine nrm_ 12 ?_
 refine pun_ 3 13 15 3199 ?_; refine on_ 7 17 15 3327 (fun K hK => ?_); refine goes_ func155 (by kernel_rfl) rfl #[.int .i64 (a0_1.size : Int)] (by rfl) rfl rfl z5_ ?_
 with_reducible refine (qbc_.calls k (a0_1.size : Int) t136 _ A6.out).mono ?_
 rintro e w14 ⟨rfl, hb⟩; refine ⟨_, rfl, ?_⟩; replace K133 := ab_ K133 hb; replace HB := hr_ hb; (try clear hb)
 (try clear hb2)
 (try clear hk)
 (try clear hi)
 refine hK.out _ _ (bc2o K133.out) (fun qn_ => ?_); clear hK K; refine nrm_ 17 ?_
 refine pun_ 8 18 15 3583 ?_; refine pun_ 9 19 15 4095 ?_; refine pun_ 12 22 15 8191 ?_; refine pun_ 13 2 15 16383 ?_; refine pun_ 14 3 15 32767 ?_; refine dn_ ?_; try go_wp2
 go_ret2
 exact ⟨z3_, hs_⟩
def qg_.l0 : Nat → ByteArray → ByteArray → Int → Option (Int)
 | 0, _, _, _ => none
 | k + 1, x0, x1, x7 => if (wrap64 (x7 + (x1.size : Int))) ≤ (x0.size : Int) then (if 0 ≤ x7 then (if x7 ≤ (wrap64 (x7 + (x1.size : Int))) then (if (x0.extract (x7 : Int).toNat ((wrap64 (x7 + (x1.size : Int))) : Int).toNat).toList = x1.toList then (some x7) else (qg_.l0 k x0 x1 (wrap64 (x7 + 1)))) else (none)) else (none)) else (some (-1))
def qg_.f (k : Nat) (a0 : ByteArray) (a1 : ByteArray) (a2 : Int) : Option (Int) := qg_.l0 k a0 a1 a2
theorem qg_.calls (k : Nat) (a0 : ByteArray) (a1 : ByteArray) (a2 : Int) (r : Int) (w : World) (h : qg_.f k a0 a1 a2 = some r) :
  Calls Tryz.prog 86 #[.string a0, .string a1, .int .i64 a2] w fun e w' => e = .returned (.int .i64 r) ∧ Drawn0 w w' := by
 unfold qg_.f at h; have H := h; clear h; have H' := qa_.mk H; clear H; go_enter func86, ntmps86; go_wp2
 go_loopg [7] k (fun kq v7 w' => ∃ (x7_1 : Int), v7 = .int .i64 x7_1 ∧ qa_ (qg_.l0 kq a0 a1 x7_1 = some r) ∧ qa_ (kq ≤ k) ∧ Drawn0 w w')
 case atStart => exact ⟨(a2), z1_, H', ⟨Nat.le_refl _⟩, z2_⟩
 case round =>
  clear H'; try clear p2
  obtain ⟨x7_1, rfl, HA, HK1, ⟨m1, rfl⟩⟩ := hrel
  cases gk with
  | zero => exact absurd HA.out (by simp [qg_.l0])
  | succ k1 =>
   have H := HA.out; clear HA; simp only [qg_.l0] at H; by_cases c4 : (wrap64 (x7_1 + (a1.size : Int))) ≤ (a0.size : Int); rotate_left
   ·rw [if_neg c4] at H; have c4b0 := df_ c4; clear c4; obtain rfl := oi_ H; go_wp2
    go_ret
    exact ⟨z1_, z2_⟩
   rw [if_pos c4] at H; have c4b0 := dt_ c4; clear c4; by_cases c5 : 0 ≤ x7_1; rotate_left
   ·rw [if_neg c5] at H; exact no_ H
   rw [if_pos c5] at H; have c5b0 := eq_true c5; have c5b1 := dt_ c5; clear c5; by_cases c6 : x7_1 ≤ (wrap64 (x7_1 + (a1.size : Int))); rotate_left
   ·rw [if_neg c6] at H; exact no_ H
   rw [if_pos c6] at H; have c6b0 := eq_true c6; have c6b1 := dt_ c6; have c7b0 := eq_true (y0_ : (wrap64 (x7_1 + (a1.size : Int))) ≤ (a0.size : Int)); by_cases c8 : (a0.extract (x7_1 : Int).toNat ((wrap64 (x7_1 + (a1.size : Int))) : Int).toNat).toList = a1.toList
   ·rw [if_pos c8] at H; have c8b0 := et_ c8; have c8b1 := nf_ c8; clear c8; obtain rfl := oi_ H; go_wp2
    go_ret
    exact ⟨z1_, z2_⟩
   rw [if_neg c8] at H; have c8b0 := ef_ c8; have c8b1 := nt_ c8; have H' := qa_.mk H; clear H; go_wp2
   go_roundg k1
   case measure => have := HK1.out; omega
   case rel => exact ⟨(wrap64 (x7_1 + 1)), z1_, H', ⟨by have := HK1.out; omega⟩, z2_⟩
def qba_.f (k : Nat) (a0 : ByteArray) (a1 : Int) (a2 : ByteArray) : Option (ByteArray × Int × Bool) := (qg_.f k a0 ⟨#[10]⟩ a1).bind fun t162 => (if t162 < 0 then (some ((⟨#[]⟩ : ByteArray), a1, false)) else (if (wrap64 (t162 - a1)) < (wrap64 ((a2.size : Int) + 1)) then (some ((⟨#[]⟩ : ByteArray), a1, false)) else (if 0 ≤ a1 then (if a1 ≤ (wrap64 (a1 + (wrap64 ((a2.size : Int) + 1)))) then (if (wrap64 (a1 + (wrap64 ((a2.size : Int) + 1)))) ≤ (a0.size : Int) then (if a2.size + 1 ≤ 9223372036854775807 then (if (a0.extract (a1 : Int).toNat ((wrap64 (a1 + (wrap64 ((a2.size : Int) + 1)))) : Int).toNat).toList = (a2 ++ (⟨#[32]⟩ : ByteArray)).toList then (if 0 ≤ (wrap64 (a1 + (wrap64 ((a2.size : Int) + 1)))) then (if (wrap64 (a1 + (wrap64 ((a2.size : Int) + 1)))) ≤ t162 then (if t162 ≤ (a0.size : Int) then (some (a0.extract ((wrap64 (a1 + (wrap64 ((a2.size : Int) + 1)))) : Int).toNat (t162 : Int).toNat, wrap64 (t162 + 1), true)) else (none)) else (none)) else (none)) else (some ((⟨#[]⟩ : ByteArray), a1, false))) else (none)) else (none)) else (none)) else (none))))
theorem qba_.calls (k : Nat) (a0 : ByteArray) (a1 : Int) (a2 : ByteArray) (r1 : ByteArray) (r2 : Int) (r3 : Bool) (w : World) (h : qba_.f k a0 a1 a2 = some (r1, r2, r3)) :
  Calls Tryz.prog 75 #[.string a0, .int .i64 a1, .string a2] w fun e w' => e = .returned (.tuple #[.string r1, .int .i64 r2, .bool r3]) ∧ Drawn0 w w' := by
 unfold qba_.f at h; have H := h; clear h; obtain ⟨t162, A4, H⟩ := bx_ H; by_cases c5 : t162 < 0
 ·rw [if_pos c5] at H; have c5b0 := dt_ c5; clear c5; obtain ⟨rfl, rfl, rfl⟩ := pj3_ H; go_enter func75, ntmps75; go_wp2_with (first | ((with_reducible refine qb_ (f := 86) rfl ?_); refine gl_ (some 13) func86 #[.string a0, .string ⟨#[10]⟩, .int .i64 a1] ?_; refine cm_ (qg_.calls k a0 ⟨#[10]⟩ a1 t162 _ A4.out) ?_; rintro w' ⟨nd, rfl⟩)); go_ret3
  exact ⟨z1_, z2_⟩
 rw [if_neg c5] at H; have c5b0 := df_ c5; clear c5; by_cases c6 : (wrap64 (t162 - a1)) < (wrap64 ((a2.size : Int) + 1))
 ·rw [if_pos c6] at H; have c6b0 := dt_ c6; clear c6; obtain ⟨rfl, rfl, rfl⟩ := pj3_ H; go_enter func75, ntmps75; go_wp2_with (first | ((with_reducible refine qb_ (f := 86) rfl ?_); refine gl_ (some 13) func86 #[.string a0, .string ⟨#[10]⟩, .int .i64 a1] ?_; refine cm_ (qg_.calls k a0 ⟨#[10]⟩ a1 t162 _ A4.out) ?_; rintro w' ⟨nd, rfl⟩)); go_ret3
  exact ⟨z1_, z2_⟩
 rw [if_neg c6] at H; have c6b0 := df_ c6; clear c6; by_cases c7 : 0 ≤ a1; rotate_left
 ·rw [if_neg c7] at H; exact no_ H
 rw [if_pos c7] at H; have c7b0 := eq_true c7; have c7b1 := dt_ c7; clear c7; by_cases c8 : a1 ≤ (wrap64 (a1 + (wrap64 ((a2.size : Int) + 1)))); rotate_left
 ·rw [if_neg c8] at H; exact no_ H
 rw [if_pos c8] at H; have c8b0 := eq_true c8; have c8b1 := dt_ c8; by_cases c9 : (wrap64 (a1 + (wrap64 ((a2.size : Int) + 1)))) ≤ (a0.size : Int); rotate_left
 ·rw [if_neg c9] at H; exact no_ H
 rw [if_pos c9] at H; have c9b0 := eq_true c9; have c9b1 := dt_ c9; by_cases c10 : a2.size + 1 ≤ 9223372036854775807; rotate_left
 ·rw [if_neg c10] at H; exact no_ H
 rw [if_pos c10] at H; have c10b0 := eq_true c10; have c10b1 := dt_ c10; try have c10b2 := nl_ c10
 clear c10; by_cases c11 : (a0.extract (a1 : Int).toNat ((wrap64 (a1 + (wrap64 ((a2.size : Int) + 1)))) : Int).toNat).toList = (a2 ++ (⟨#[32]⟩ : ByteArray)).toList; rotate_left
 ·rw [if_neg c11] at H; have c11b0 := ef_ c11; have c11b1 := nt_ c11; obtain ⟨rfl, rfl, rfl⟩ := pj3_ H; go_enter func75, ntmps75; go_wp2_with (first | ((with_reducible refine qb_ (f := 86) rfl ?_); refine gl_ (some 13) func86 #[.string a0, .string ⟨#[10]⟩, .int .i64 a1] ?_; refine cm_ (qg_.calls k a0 ⟨#[10]⟩ a1 t162 _ A4.out) ?_; rintro w' ⟨nd, rfl⟩)); go_ret3
  exact ⟨z1_, z2_⟩
 rw [if_pos c11] at H; have c11b0 := et_ c11; have c11b1 := nf_ c11; clear c11; obtain ⟨ji12, hji12⟩ : ∃ j_ : Int, (wrap64 (a1 + (wrap64 ((a2.size : Int) + 1)))) = j_ := ⟨_, rfl⟩; replace H : (if 0 ≤ (ji12) then (if (ji12) ≤ t162 then (if t162 ≤ (a0.size : Int) then (some (a0.extract ((ji12) : Int).toNat (t162 : Int).toNat, wrap64 (t162 + 1), true)) else (none)) else (none)) else (none)) = some (r1, r2, r3) := by first | (rw [hji12] at H; exact H) | (simp only [hji12] at H ⊢; exact H)
 (try rw [hji12] at c8b0)
 (try rw [hji12] at c8b1)
 (try rw [hji12] at c8)
 (try rw [hji12] at c9b0)
 (try rw [hji12] at c9b1)
 (try rw [hji12] at c9)
 (try rw [hji12] at c11b0)
 (try rw [hji12] at c11b1)
 (try rw [hji12] at A4)
 have hji12w : (IntKind.i64.wrap (a1 + (wrap64 ((a2.size : Int) + 1)))) = ji12 := (i64_w _).trans hji12; by_cases c13 : 0 ≤ (ji12); rotate_left
 ·rw [if_neg c13] at H; exact no_ H
 rw [if_pos c13] at H; have c13b0 := eq_true c13; have c13b1 := dt_ c13; clear c13; by_cases c14 : (ji12) ≤ t162; rotate_left
 ·rw [if_neg c14] at H; exact no_ H
 rw [if_pos c14] at H; have c14b0 := eq_true c14; have c14b1 := dt_ c14; clear c14; by_cases c15 : t162 ≤ (a0.size : Int); rotate_left
 ·rw [if_neg c15] at H; exact no_ H
 rw [if_pos c15] at H; have c15b0 := eq_true c15; have c15b1 := dt_ c15; clear c15; obtain ⟨rfl, rfl, rfl⟩ := pj3_ H; go_enter func75, ntmps75; go_wp2_with (first | ((with_reducible refine qb_ (f := 86) rfl ?_); refine gl_ (some 13) func86 #[.string a0, .string ⟨#[10]⟩, .int .i64 a1] ?_; refine cm_ (qg_.calls k a0 ⟨#[10]⟩ a1 t162 _ A4.out) ?_; rintro w' ⟨nd, rfl⟩)); go_ret3
 exact ⟨by first | rfl | (simp; done) | (simp only [← hji12] <;> (first | rfl | simp)) | (simp [*]; done), z2_⟩
def qat_.j0 : Nat → Int → Bool → Option (Int)
 | 0, _, _ => none
 | k + 1, x0, x8 => if x8 = true then (some ((x0 - 48) % 256)) else (if x0 ≥ 97 then (if x0 ≤ 102 then (some (((x0 - 97) % 256) + 10)) else (some (-1))) else (some (-1)))
def qat_.f (k : Nat) (a0 : Int) : Option (Int) := if a0 ≥ 48 then (qat_.j0 k a0 (decide (a0 ≤ 57))) else (qat_.j0 k a0 false)
theorem qat_.mono_l : ∀ k, (∀ y0 y1, LeO (qat_.j0 k y0 y1) (qat_.j0 (k + 1) y0 y1))
 | 0 => fun _ _ r h => by simp [qat_.j0] at h
 | k + 1 => by
  have ih0 := qat_.mono_l k
  ·intro y0 y1
   unfold qat_.j0
   have m0_ := @ih0
   exact mz_
theorem qat_.mono : ∀ a0 k, LeO (qat_.f k a0) (qat_.f (k + 1) a0) := by
 intro a0 k; have ih0 := qat_.mono_l k; unfold qat_.f; have m0_ := @ih0; exact mz_
theorem qat_.calls (k : Nat) (a0 : Int) (r : Int) (w : World) (h : qat_.f k a0 = some r) :
  Calls Tryz.prog 180 #[.int .u8 a0] w fun e w' => e = .returned (.int .i64 r) ∧ Drawn0 w w' := by
 unfold qat_.f at h; have H := h; clear h; have HC2 := qa_.mk H; clear H; go_enter func180, ntmps180; go_upto_region 1 with (fail)
 go_cut [8] (fun v8 wc => ∃ (kq : Nat) (x8_1 : Bool), v8 = .bool x8_1 ∧ qa_ (qat_.j0 kq a0 x8_1 = some r) ∧ qa_ (kq ≤ k) ∧ Drawn0 w wc)
 case first =>
  have H := HC2.out; clear HC2; by_cases c3 : a0 ≥ 48; rotate_left
  ·rw [if_neg c3] at H; have c3b0 := df_ c3; clear c3; (first | rw [c3b0] | (simp only [i64_w, i32_w]; rw [c3b0]) | skip); have H' := qa_.mk H; clear H; go_wp2
   go_meet
   case rel => exact ⟨_, (false), z1_, H', ⟨z4_⟩, z2_⟩
  rw [if_pos c3] at H; have c3b0 := dt_ c3; clear c3; (first | rw [c3b0] | (simp only [i64_w, i32_w]; rw [c3b0]) | skip); have H' := qa_.mk H; clear H; go_wp2
  go_meet
  case rel => exact ⟨_, (decide (a0 ≤ 57)), z1_, H', ⟨z4_⟩, z2_⟩
 case rest =>
  clear HC2; try clear c1
  try clear p2
  try clear c3
  try clear c3b0
  obtain ⟨kq, x8_1, rfl, HA, HJ1, ⟨mc1, rfl⟩⟩ := hcut
  cases kq with
  | zero => exact absurd HA.out (by simp [qat_.j0])
  | succ kj1 =>
   have H := HA.out; clear HA; simp only [qat_.j0] at H; by_cases c4 : x8_1 = true
   ·subst c4; rw [if_pos rfl] at H; obtain rfl := oi_ H; go_wp2
    go_ret
    exact ⟨z1_, z2_⟩
   replace c4 := Bool.eq_false_iff.mpr c4; subst c4; rw [if_neg nft_] at H; by_cases c5 : a0 ≥ 97; rotate_left
   ·rw [if_neg c5] at H; have c5b0 := df_ c5; clear c5; obtain rfl := oi_ H; go_wp2
    go_ret
    exact ⟨z1_, z2_⟩
   rw [if_pos c5] at H; have c5b0 := dt_ c5; clear c5; by_cases c6 : a0 ≤ 102
   ·rw [if_pos c6] at H; have c6b0 := dt_ c6; clear c6; obtain rfl := oi_ H; go_wp2
    go_ret
    exact ⟨z1_, z2_⟩
   rw [if_neg c6] at H; have c6b0 := df_ c6; clear c6; obtain rfl := oi_ H; go_wp2
   go_ret
   exact ⟨z1_, z2_⟩
def qap_.l0 : Nat → ByteArray → Int → Option (Bool)
 | 0, _, _ => none
 | k + 1, x0, x3 => if x3 < (x0.size : Int) then (if 0 ≤ x3 then ((qat_.f k (bt x0 x3)).bind fun t172 => (if t172 < 0 then (some false) else (qap_.l0 k x0 (wrap64 (x3 + 1))))) else (none)) else (some true)
def qap_.f (k : Nat) (a0 : ByteArray) : Option (Bool) := qap_.l0 k a0 0
theorem qap_.mono_l : ∀ k, (∀ y0 y1, LeO (qap_.l0 k y0 y1) (qap_.l0 (k + 1) y0 y1))
 | 0 => fun _ _ r h => by simp [qap_.l0] at h
 | k + 1 => by
  have ih0 := qap_.mono_l k
  ·intro y0 y1
   unfold qap_.l0
   have m0_ := @ih0
   have m1_ := @qat_.mono
   exact mz_
theorem qap_.mono : ∀ a0 k, LeO (qap_.f k a0) (qap_.f (k + 1) a0) := by
 intro a0 k; have ih0 := qap_.mono_l k; unfold qap_.f; have m0_ := @ih0; have m1_ := @qat_.mono; exact mz_
theorem qap_.calls (k : Nat) (a0 : ByteArray) (r : Bool) (w : World) (h : qap_.f k a0 = some r) :
  Calls Tryz.prog 136 #[.string a0] w fun e w' => e = .returned (.bool r) ∧ Drawn0 w w' := by
 unfold qap_.f at h; have H := h; clear h; have H' := qa_.mk H; clear H; go_enter func136, ntmps136; go_wp2
 go_loopg [3] k (fun kq v3 w' => ∃ (x3_1 : Int), v3 = .int .i64 x3_1 ∧ qa_ (qap_.l0 kq a0 x3_1 = some r) ∧ qa_ (kq ≤ k) ∧ Drawn0 w w')
 case atStart => exact ⟨(0), z1_, H', ⟨Nat.le_refl _⟩, z2_⟩
 case round =>
  clear H'; try clear c1
  obtain ⟨x3_1, rfl, HA, HK1, ⟨m1, rfl⟩⟩ := hrel
  cases gk with
  | zero => exact absurd HA.out (by simp [qap_.l0])
  | succ k1 =>
   have H := HA.out; clear HA; simp only [qap_.l0] at H; by_cases c2 : x3_1 < (a0.size : Int); rotate_left
   ·rw [if_neg c2] at H; have c2b0 := df_ c2; clear c2; obtain rfl := oi_ H; go_wp2
    go_ret
    exact ⟨z1_, z2_⟩
   rw [if_pos c2] at H; have c2b0 := dt_ c2; clear c2; by_cases c3 : 0 ≤ x3_1; rotate_left
   ·rw [if_neg c3] at H; exact no_ H
   rw [if_pos c3] at H; have c3b0 := dt_ c3; clear c3; obtain ⟨t172, A5, H⟩ := bx_ H; by_cases c6 : t172 < 0
   ·rw [if_pos c6] at H; have c6b0 := dt_ c6; clear c6; obtain rfl := oi_ H; have p4 : 0 ≤ (x3_1 : Int) := y0_; have q4 : x3_1 < (a0.size : Int) := y0_; have hx4 := bt_at a0 x3_1; replace p4 := eq_true p4; replace q4 := eq_true q4; go_wp2_with (first | ((with_reducible refine qb_ (f := 180) rfl ?_); refine gl_ (some 13) func180 #[.int .u8 (bt a0 x3_1)] ?_; refine cm_ (qat_.calls k1 (bt a0 x3_1) t172 _ A5.out) ?_; rintro w' ⟨nd, rfl⟩)); go_ret
    exact ⟨z1_, z2_⟩
   rw [if_neg c6] at H; have c6b0 := df_ c6; clear c6; have H' := qa_.mk H; clear H; have p4 : 0 ≤ (x3_1 : Int) := y0_; have q4 : x3_1 < (a0.size : Int) := y0_; have hx4 := bt_at a0 x3_1; replace p4 := eq_true p4; replace q4 := eq_true q4; go_wp2_with (first | ((with_reducible refine qb_ (f := 180) rfl ?_); refine gl_ (some 13) func180 #[.int .u8 (bt a0 x3_1)] ?_; refine cm_ (qat_.calls k1 (bt a0 x3_1) t172 _ A5.out) ?_; rintro w' ⟨nd, rfl⟩)); go_roundg k1
   case measure => have := HK1.out; omega
   case rel => exact ⟨(wrap64 (x3_1 + 1)), z1_, H', ⟨by have := HK1.out; omega⟩, z2_⟩
def qac_.f (k : Nat) (a0 : ByteArray) : Option (Bool) := if (a0.size : Int) = 40 then ((qap_.f k a0).bind fun t132 => (some t132)) else (some false)
theorem qac_.calls (k : Nat) (a0 : ByteArray) (r : Bool) (w : World) (h : qac_.f k a0 = some r) :
  Calls Tryz.prog 61 #[.string a0] w fun e w' => e = .returned (.bool r) ∧ Drawn0 w w' := by
 unfold qac_.f at h; have H := h; clear h; by_cases c2 : (a0.size : Int) = 40; rotate_left
 ·rw [if_neg c2] at H; have c2b0 := ef_ c2; have c2b1 := nt_ c2; obtain rfl := oi_ H; go_enter func61, ntmps61; go_wp2
  go_ret
  exact ⟨z1_, z2_⟩
 rw [if_pos c2] at H; have c2b0 := et_ c2; have c2b1 := nf_ c2; clear c2; obtain ⟨t132, A3, H⟩ := bx_ H; obtain rfl := oi_ H; go_enter func61, ntmps61; go_wp2_with (first | (go_at_call 136; (with_reducible refine (qap_.calls k a0 t132 _ A3.out).mono ?_); rintro e w' ⟨rfl, ⟨nd, rfl⟩⟩)); go_ret
 exact ⟨z1_, z2_⟩
def qbx_.l0 : Nat → ByteArray → Int → Option (Bool)
 | 0, _, _ => none
 | k + 1, x0, x3 => if x3 < (x0.size : Int) then (if 0 ≤ x3 then (if (bt x0 x3) = 0 then (some true) else (qbx_.l0 k x0 (wrap64 (x3 + 1)))) else (none)) else (some false)
def qbx_.f (k : Nat) (a0 : ByteArray) : Option (Bool) := qbx_.l0 k a0 0
theorem qbx_.calls (k : Nat) (a0 : ByteArray) (r : Bool) (w : World) (h : qbx_.f k a0 = some r) :
  Calls Tryz.prog 69 #[.string a0] w fun e w' => e = .returned (.bool r) ∧ Drawn0 w w' := by
 unfold qbx_.f at h; have H := h; clear h; have H' := qa_.mk H; clear H; go_enter func69, ntmps69; go_wp2
 go_loopg [3] k (fun kq v3 w' => ∃ (x3_1 : Int), v3 = .int .i64 x3_1 ∧ qa_ (qbx_.l0 kq a0 x3_1 = some r) ∧ qa_ (kq ≤ k) ∧ Drawn0 w w')
 case atStart => exact ⟨(0), z1_, H', ⟨Nat.le_refl _⟩, z2_⟩
 case round =>
  clear H'; obtain ⟨x3_1, rfl, HA, HK1, ⟨m1, rfl⟩⟩ := hrel
  cases gk with
  | zero => exact absurd HA.out (by simp [qbx_.l0])
  | succ k1 =>
   have H := HA.out; clear HA; simp only [qbx_.l0] at H; by_cases c2 : x3_1 < (a0.size : Int); rotate_left
   ·rw [if_neg c2] at H; have c2b0 := df_ c2; clear c2; obtain rfl := oi_ H; go_wp2
    go_ret
    exact ⟨z1_, z2_⟩
   rw [if_pos c2] at H; have c2b0 := dt_ c2; clear c2; by_cases c3 : 0 ≤ x3_1; rotate_left
   ·rw [if_neg c3] at H; exact no_ H
   rw [if_pos c3] at H; have c3b0 := dt_ c3; clear c3; by_cases c5 : (bt a0 x3_1) = 0
   ·rw [if_pos c5] at H; have c5b0 := et_ c5; have c5b1 := nf_ c5; clear c5; obtain rfl := oi_ H; have p4 : 0 ≤ (x3_1 : Int) := y0_; have q4 : x3_1 < (a0.size : Int) := y0_; have hx4 := bt_at a0 x3_1; replace p4 := eq_true p4; replace q4 := eq_true q4; go_wp2
    go_ret
    exact ⟨z1_, z2_⟩
   rw [if_neg c5] at H; have c5b0 := ef_ c5; have c5b1 := nt_ c5; have H' := qa_.mk H; clear H; have p4 : 0 ≤ (x3_1 : Int) := y0_; have q4 : x3_1 < (a0.size : Int) := y0_; have hx4 := bt_at a0 x3_1; replace p4 := eq_true p4; replace q4 := eq_true q4; go_wp2
   go_roundg k1
   case measure => have := HK1.out; omega
   case rel => exact ⟨(wrap64 (x3_1 + 1)), z1_, H', ⟨by have := HK1.out; omega⟩, z2_⟩
mutual
def qy_.j0 : Nat → ByteArray → Bool → Option (Bool)
 | 0, _, _ => none
 | k + 1, x0, x24 => if x24 = true then (some false) else (qy_.l0 k x0 0)
def qy_.l0 : Nat → ByteArray → Int → Option (Bool)
 | 0, _, _ => none
 | k + 1, x0, x3 => if x3 < (x0.size : Int) then (if 0 ≤ x3 then (if (bt x0 x3) < 32 then (some false) else (if (bt x0 x3) = 60 then (some false) else (if (bt x0 x3) = 62 then (some false) else (qy_.l0 k x0 (wrap64 (x3 + 1)))))) else (none)) else (some true)
end
def qy_.f (k : Nat) (a0 : ByteArray) : Option (Bool) := if (a0.size : Int) < 1 then (qy_.j0 k a0 true) else (if (a0.size : Int) > 64 then (qy_.j0 k a0 true) else (if 0 < (a0.size : Int) then (if (bt a0 0) = 32 then (qy_.j0 k a0 true) else (if 0 ≤ (wrap64 ((a0.size : Int) - 1)) then (if (wrap64 ((a0.size : Int) - 1)) < (a0.size : Int) then (qy_.j0 k a0 ((bt a0 (wrap64 ((a0.size : Int) - 1))) == 32)) else (none)) else (none))) else (none)))
theorem qy_.calls (k : Nat) (a0 : ByteArray) (r : Bool) (w : World) (h : qy_.f k a0 = some r) :
  Calls Tryz.prog 92 #[.string a0] w fun e w' => e = .returned (.bool r) ∧ Drawn0 w w' := by
 unfold qy_.f at h; have H := h; clear h; have HC2 := qa_.mk H; clear H; go_enter func92, ntmps92; go_upto_region 1 with (fail)
 go_cut [24] (fun v24 wc => ∃ (kq : Nat) (x24_1 : Bool), v24 = .bool x24_1 ∧ qa_ (qy_.j0 kq a0 x24_1 = some r) ∧ qa_ (kq ≤ k) ∧ Drawn0 w wc)
 case first =>
  have H := HC2.out; clear HC2; by_cases c3 : (a0.size : Int) < 1
  ·rw [if_pos c3] at H; have c3b0 := dt_ c3; have c3b1 : decide (a0.size < 1) = true := decide_eq_true (by omega); clear c3; (first | rw [c3b0] | (simp only [i64_w, i32_w]; rw [c3b0]) | skip); have H' := qa_.mk H; clear H; go_wp2
   go_meet
   case rel => exact ⟨_, (true), z1_, H', ⟨z4_⟩, z2_⟩
  rw [if_neg c3] at H; have c3b0 := df_ c3; have c3b1 : decide (a0.size < 1) = false := decide_eq_false (by omega); clear c3; (first | rw [c3b0] | (simp only [i64_w, i32_w]; rw [c3b0]) | skip); by_cases c4 : (a0.size : Int) > 64
  ·rw [if_pos c4] at H; have c4b0 := dt_ c4; have c4b1 : decide (64 < a0.size) = true := decide_eq_true (by omega); clear c4; have H' := qa_.mk H; clear H; go_wp2
   go_meet
   case rel => exact ⟨_, (true), z1_, H', ⟨z4_⟩, z2_⟩
  rw [if_neg c4] at H; have c4b0 := df_ c4; have c4b1 : decide (64 < a0.size) = false := decide_eq_false (by omega); clear c4; by_cases c5 : 0 < (a0.size : Int); rotate_left
  ·rw [if_neg c5] at H; exact no_ H
  rw [if_pos c5] at H; have c5b0 := dt_ c5; have c5b1 : decide (0 < a0.size) = true := decide_eq_true (by omega); clear c5; by_cases c7 : (bt a0 0) = 32
  ·rw [if_pos c7] at H; have c7b0 := et_ c7; have c7b1 := nf_ c7; clear c7; have H' := qa_.mk H; clear H; have p6 : 0 ≤ (0 : Int) := (by omega); have q6 : 0 < a0.size := (by have : (0 : Int) < (a0.size : Int) := y0_; omega)
   have hx6 : ∀ h : 0 < a0.size, ((a0[0]'h).toNat : Int) = bt a0 0 := bt_at a0 0; clear p6; have qi6 : (0 < (a0.size : Int)) = True := eq_true (y0_); replace q6 := eq_true q6; go_wp2
   go_meet
   case rel => exact ⟨_, (true), z1_, H', ⟨z4_⟩, z2_⟩
  rw [if_neg c7] at H; have c7b0 := ef_ c7; have c7b1 := nt_ c7; obtain ⟨ji8, hji8⟩ : ∃ j_ : Int, (wrap64 ((a0.size : Int) - 1)) = j_ := ⟨_, rfl⟩; replace H : (if 0 ≤ (ji8) then (if (ji8) < (a0.size : Int) then (qy_.j0 k a0 ((bt a0 (ji8)) == 32)) else (none)) else (none)) = some r := by first | (rw [hji8] at H; exact H) | (simp only [hji8] at H ⊢; exact H)
  have hji8w : (IntKind.i64.wrap ((a0.size : Int) - 1)) = ji8 := (i64_w _).trans hji8; by_cases c9 : 0 ≤ (ji8); rotate_left
  ·rw [if_neg c9] at H; exact no_ H
  rw [if_pos c9] at H; have c9b0 := dt_ c9; clear c9; by_cases c10 : (ji8) < (a0.size : Int); rotate_left
  ·rw [if_neg c10] at H; exact no_ H
  rw [if_pos c10] at H; have c10b0 := dt_ c10; clear c10; have H' := qa_.mk H; clear H; have p6 : 0 ≤ (0 : Int) := (by omega); have q6 : 0 < a0.size := (by have : (0 : Int) < (a0.size : Int) := y0_; omega)
  have hx6 : ∀ h : 0 < a0.size, ((a0[0]'h).toNat : Int) = bt a0 0 := bt_at a0 0; clear p6; have qi6 : (0 < (a0.size : Int)) = True := eq_true (y0_); replace q6 := eq_true q6; have p11 : 0 ≤ ((ji8) : Int) := y0_; have q11 : (ji8) < (a0.size : Int) := y0_; have hx11 := bt_at a0 (ji8); replace p11 := eq_true p11; replace q11 := eq_true q11; go_wp2
  go_meet
  case rel => exact ⟨_, (((bt a0 (ji8)) == 32)), (by first | rfl | (simp; done) | (simp only [← hji8] <;> (first | rfl | simp)) | (simp [*]; done)), H', ⟨z4_⟩, z2_⟩
 case rest =>
  clear HC2; try clear c1
  try clear p1
  try clear q1
  try clear hx1
  try clear p2
  try clear c3
  try clear c3b0
  try clear c3b1
  try clear c4
  try clear c4b0
  try clear c4b1
  try clear c5
  try clear c5b0
  try clear c5b1
  try clear p6
  try clear q6
  try clear hx6
  try clear qi6
  try clear c7
  try clear c7b0
  try clear c7b1
  try clear c9
  try clear c9b0
  try clear c10
  try clear c10b0
  try clear p11
  try clear q11
  try clear hx11
  try clear p11
  try clear p6
  try clear q11
  try clear q6
  obtain ⟨kq, x24_1, rfl, HA, HJ1, ⟨mc1, rfl⟩⟩ := hcut
  cases kq with
  | zero => exact absurd HA.out (by simp [qy_.j0])
  | succ kj1 =>
   have H := HA.out; clear HA; simp only [qy_.j0] at H; by_cases c12 : x24_1 = true
   ·subst c12; rw [if_pos rfl] at H; obtain rfl := oi_ H; go_wp2
    go_ret
    exact ⟨z1_, z2_⟩
   replace c12 := Bool.eq_false_iff.mpr c12; subst c12; rw [if_neg nft_] at H; have H' := qa_.mk H; clear H; go_wp2
   go_loopg [3] kj1 (fun kq v3 w' => ∃ (x3_2 : Int), v3 = .int .i64 x3_2 ∧ qa_ (qy_.l0 kq a0 x3_2 = some r) ∧ qa_ (kq ≤ kj1) ∧ Drawn0 w w')
   case atStart => exact ⟨(0), z1_, H', ⟨Nat.le_refl _⟩, z2_⟩
   case round =>
    clear H'; try clear c1
    try clear p1
    try clear q1
    try clear hx1
    try clear p2
    try clear c3
    try clear c3b0
    try clear c3b1
    try clear c4
    try clear c4b0
    try clear c4b1
    try clear c5
    try clear c5b0
    try clear c5b1
    try clear p6
    try clear q6
    try clear hx6
    try clear qi6
    try clear c7
    try clear c7b0
    try clear c7b1
    try clear c9
    try clear c9b0
    try clear c10
    try clear c10b0
    try clear p11
    try clear q11
    try clear hx11
    try clear c12
    try clear p1
    try clear p11
    try clear p2
    try clear p6
    try clear q1
    try clear q11
    try clear q6
    obtain ⟨x3_2, rfl, HA, HK2, ⟨m2, rfl⟩⟩ := hrel
    cases gk with
    | zero => exact absurd HA.out (by simp [qy_.l0])
    | succ k2 =>
     have H := HA.out; clear HA; simp only [qy_.l0] at H; by_cases c13 : x3_2 < (a0.size : Int); rotate_left
     ·rw [if_neg c13] at H; have c13b0 := df_ c13; clear c13; obtain rfl := oi_ H; go_wp2
      go_ret
      exact ⟨z1_, z2_⟩
     rw [if_pos c13] at H; have c13b0 := dt_ c13; clear c13; by_cases c14 : 0 ≤ x3_2; rotate_left
     ·rw [if_neg c14] at H; exact no_ H
     rw [if_pos c14] at H; have c14b0 := dt_ c14; clear c14; by_cases c16 : (bt a0 x3_2) < 32
     ·rw [if_pos c16] at H; have c16b0 := dt_ c16; clear c16; obtain rfl := oi_ H; have p15 : 0 ≤ (x3_2 : Int) := y0_; have q15 : x3_2 < (a0.size : Int) := y0_; have hx15 := bt_at a0 x3_2; replace p15 := eq_true p15; replace q15 := eq_true q15; go_wp2
      go_ret
      exact ⟨z1_, z2_⟩
     rw [if_neg c16] at H; have c16b0 := df_ c16; clear c16; by_cases c18 : (bt a0 x3_2) = 60
     ·rw [if_pos c18] at H; have c18b0 := et_ c18; have c18b1 := nf_ c18; clear c18; obtain rfl := oi_ H; have p15 : 0 ≤ (x3_2 : Int) := y0_; have q15 : x3_2 < (a0.size : Int) := y0_; have hx15 := bt_at a0 x3_2; replace p15 := eq_true p15; replace q15 := eq_true q15; have p17 : 0 ≤ (x3_2 : Int) := y0_; have q17 : x3_2 < (a0.size : Int) := y0_; have hx17 := bt_at a0 x3_2; replace p17 := eq_true p17; replace q17 := eq_true q17; go_wp2
      go_ret
      exact ⟨z1_, z2_⟩
     rw [if_neg c18] at H; have c18b0 := ef_ c18; have c18b1 := nt_ c18; by_cases c20 : (bt a0 x3_2) = 62
     ·rw [if_pos c20] at H; have c20b0 := et_ c20; have c20b1 := nf_ c20; clear c20; obtain rfl := oi_ H; have p15 : 0 ≤ (x3_2 : Int) := y0_; have q15 : x3_2 < (a0.size : Int) := y0_; have hx15 := bt_at a0 x3_2; replace p15 := eq_true p15; replace q15 := eq_true q15; have p17 : 0 ≤ (x3_2 : Int) := y0_; have q17 : x3_2 < (a0.size : Int) := y0_; have hx17 := bt_at a0 x3_2; replace p17 := eq_true p17; replace q17 := eq_true q17; have p19 : 0 ≤ (x3_2 : Int) := y0_; have q19 : x3_2 < (a0.size : Int) := y0_; have hx19 := bt_at a0 x3_2; replace p19 := eq_true p19; replace q19 := eq_true q19; go_wp2
      go_ret
      exact ⟨z1_, z2_⟩
     rw [if_neg c20] at H; have c20b0 := ef_ c20; have c20b1 := nt_ c20; have H' := qa_.mk H; clear H; have p15 : 0 ≤ (x3_2 : Int) := y0_; have q15 : x3_2 < (a0.size : Int) := y0_; have hx15 := bt_at a0 x3_2; replace p15 := eq_true p15; replace q15 := eq_true q15; have p17 : 0 ≤ (x3_2 : Int) := y0_; have q17 : x3_2 < (a0.size : Int) := y0_; have hx17 := bt_at a0 x3_2; replace p17 := eq_true p17; replace q17 := eq_true q17; have p19 : 0 ≤ (x3_2 : Int) := y0_; have q19 : x3_2 < (a0.size : Int) := y0_; have hx19 := bt_at a0 x3_2; replace p19 := eq_true p19; replace q19 := eq_true q19; go_wp2
     go_roundg k2
     case measure => have := HJ1.out; have := HK2.out; omega
     case rel => exact ⟨(wrap64 (x3_2 + 1)), z1_, H', ⟨by have := HJ1.out; have := HK2.out; omega⟩, z2_⟩
def qaq_.f (k : Nat) (a0_0 : ByteArray) (a0_1 : ByteArray) (a0_2 : Int) (a0_3 : Int) : Option (Bool) := (qy_.f k a0_0).bind fun t105 => (if t105 = true then ((qy_.f k a0_1).bind fun t106 => (if t106 = true then (if a0_2 ≥ 0 then (if a0_2 ≤ 1099511627776 then (if a0_3 ≥ (-840) then (some (decide (a0_3 ≤ 840))) else (some false)) else (some false)) else (some false)) else (some false))) else (some false))
theorem qaq_.calls (k : Nat) (a0_0 : ByteArray) (a0_1 : ByteArray) (a0_2 : Int) (a0_3 : Int) (r : Bool) (w : World) (h : qaq_.f k a0_0 a0_1 a0_2 a0_3 = some r) :
  Calls Tryz.prog 32 #[.agg #[.string a0_0, .string a0_1, .int .i64 a0_2, .int .i64 a0_3]] w fun e w' => e = .returned (.bool r) ∧ Below w.heap.size w w' := by
 have hu24 := underlying24; have HB := qa_.mk (Below.refl w.heap.size w); unfold qaq_.f at h; have H := h; clear h; obtain ⟨t105, A2, H⟩ := bx_ H; by_cases c3 : t105 = true; rotate_left
 ·replace c3 := Bool.eq_false_iff.mpr c3; subst c3; rw [if_neg nft_] at H; obtain rfl := oi_ H; go_enter func32, ntmps32; go_wp2_with (first | ((with_reducible refine qh_ (N := 1) rfl ?_); refine be_ (cs := #[.string a0_0, .string a0_1, .int .i64 a0_2, .int .i64 a0_3]) (t := 24) ?_; intro g104 hg w19 hbox hb; have K104 := qa_.mk (hbox); have W104 := ag_ hg HB; have E104 := ag_ hg HB; replace HB := ah_ HB hb; clear hb hbox hg; obtain ⟨Z20_0, Z20_1, Z20_2, Z20_3, F20⟩ := bc4 K104.out) | ((with_reducible refine qb_ (f := 92) rfl ?_); refine gl_ (some 5) func92 #[.string a0_0] ?_; refine cm_ (qy_.calls k a0_0 false _ A2.out) ?_; rintro w' ⟨nd, rfl⟩)); go_ret
  exact ⟨z3_, hs_⟩
 subst c3; rw [if_pos rfl] at H; obtain ⟨t106, A4, H⟩ := bx_ H; by_cases c5 : t106 = true; rotate_left
 ·replace c5 := Bool.eq_false_iff.mpr c5; subst c5; rw [if_neg nft_] at H; obtain rfl := oi_ H; go_enter func32, ntmps32; have tk9_ : True := trivial; have tk10_ : True := trivial; go_wp2_with (first | ((with_reducible refine qh_ (N := 1) rfl ?_); refine be_ (cs := #[.string a0_0, .string a0_1, .int .i64 a0_2, .int .i64 a0_3]) (t := 24) ?_; intro g104 hg w17 hbox hb; have K104 := qa_.mk (hbox); have W104 := ag_ hg HB; have E104 := ag_ hg HB; replace HB := ah_ HB hb; clear hb hbox hg; obtain ⟨Z18_0, Z18_1, Z18_2, Z18_3, F18⟩ := bc4 K104.out) | (have _t := tk9_; (with_reducible refine qb_ (f := 92) rfl ?_); refine gl_ (some 5) func92 #[.string a0_0] ?_; refine cm_ (qy_.calls k a0_0 true _ A2.out) ?_; rintro w' ⟨nd, rfl⟩; clear tk9_) | (go_at_call 92; have _t := tk10_; (with_reducible refine (qy_.calls k a0_1 false _ A4.out).mono ?_); rintro e w' ⟨rfl, ⟨nd, rfl⟩⟩; clear tk10_)); go_ret
  exact ⟨z3_, hs_⟩
 subst c5; rw [if_pos rfl] at H; by_cases c6 : a0_2 ≥ 0; rotate_left
 ·rw [if_neg c6] at H; have c6b0 := df_ c6; clear c6; obtain rfl := oi_ H; go_enter func32, ntmps32; have tk7_ : True := trivial; have tk8_ : True := trivial; go_wp2_with (first | ((with_reducible refine qh_ (N := 1) rfl ?_); refine be_ (cs := #[.string a0_0, .string a0_1, .int .i64 a0_2, .int .i64 a0_3]) (t := 24) ?_; intro g104 hg w15 hbox hb; have K104 := qa_.mk (hbox); have W104 := ag_ hg HB; have E104 := ag_ hg HB; replace HB := ah_ HB hb; clear hb hbox hg; obtain ⟨Z16_0, Z16_1, Z16_2, Z16_3, F16⟩ := bc4 K104.out) | (have _t := tk7_; (with_reducible refine qb_ (f := 92) rfl ?_); refine gl_ (some 5) func92 #[.string a0_0] ?_; refine cm_ (qy_.calls k a0_0 true _ A2.out) ?_; rintro w' ⟨nd, rfl⟩; clear tk7_) | (go_at_call 92; have _t := tk8_; (with_reducible refine (qy_.calls k a0_1 true _ A4.out).mono ?_); rintro e w' ⟨rfl, ⟨nd, rfl⟩⟩; clear tk8_)); go_ret
  exact ⟨z3_, hs_⟩
 rw [if_pos c6] at H; have c6b0 := dt_ c6; clear c6; by_cases c7 : a0_2 ≤ 1099511627776; rotate_left
 ·rw [if_neg c7] at H; have c7b0 := df_ c7; clear c7; obtain rfl := oi_ H; go_enter func32, ntmps32; have tk5_ : True := trivial; have tk6_ : True := trivial; go_wp2_with (first | ((with_reducible refine qh_ (N := 1) rfl ?_); refine be_ (cs := #[.string a0_0, .string a0_1, .int .i64 a0_2, .int .i64 a0_3]) (t := 24) ?_; intro g104 hg w13 hbox hb; have K104 := qa_.mk (hbox); have W104 := ag_ hg HB; have E104 := ag_ hg HB; replace HB := ah_ HB hb; clear hb hbox hg; obtain ⟨Z14_0, Z14_1, Z14_2, Z14_3, F14⟩ := bc4 K104.out) | (have _t := tk5_; (with_reducible refine qb_ (f := 92) rfl ?_); refine gl_ (some 5) func92 #[.string a0_0] ?_; refine cm_ (qy_.calls k a0_0 true _ A2.out) ?_; rintro w' ⟨nd, rfl⟩; clear tk5_) | (go_at_call 92; have _t := tk6_; (with_reducible refine (qy_.calls k a0_1 true _ A4.out).mono ?_); rintro e w' ⟨rfl, ⟨nd, rfl⟩⟩; clear tk6_)); go_ret
  exact ⟨z3_, hs_⟩
 rw [if_pos c7] at H; have c7b0 := dt_ c7; clear c7; by_cases c8 : a0_3 ≥ (-840)
 ·rw [if_pos c8] at H; have c8b0 := dt_ c8; clear c8; obtain rfl := oi_ H; go_enter func32, ntmps32; have tk1_ : True := trivial; have tk2_ : True := trivial; go_wp2_with (first | ((with_reducible refine qh_ (N := 1) rfl ?_); refine be_ (cs := #[.string a0_0, .string a0_1, .int .i64 a0_2, .int .i64 a0_3]) (t := 24) ?_; intro g104 hg w9 hbox hb; have K104 := qa_.mk (hbox); have W104 := ag_ hg HB; have E104 := ag_ hg HB; replace HB := ah_ HB hb; clear hb hbox hg; obtain ⟨Z10_0, Z10_1, Z10_2, Z10_3, F10⟩ := bc4 K104.out) | (have _t := tk1_; (with_reducible refine qb_ (f := 92) rfl ?_); refine gl_ (some 5) func92 #[.string a0_0] ?_; refine cm_ (qy_.calls k a0_0 true _ A2.out) ?_; rintro w' ⟨nd, rfl⟩; clear tk1_) | (go_at_call 92; have _t := tk2_; (with_reducible refine (qy_.calls k a0_1 true _ A4.out).mono ?_); rintro e w' ⟨rfl, ⟨nd, rfl⟩⟩; clear tk2_)); go_ret
  exact ⟨z3_, hs_⟩
 rw [if_neg c8] at H; have c8b0 := df_ c8; clear c8; obtain rfl := oi_ H; go_enter func32, ntmps32; have tk3_ : True := trivial; have tk4_ : True := trivial; go_wp2_with (first | ((with_reducible refine qh_ (N := 1) rfl ?_); refine be_ (cs := #[.string a0_0, .string a0_1, .int .i64 a0_2, .int .i64 a0_3]) (t := 24) ?_; intro g104 hg w11 hbox hb; have K104 := qa_.mk (hbox); have W104 := ag_ hg HB; have E104 := ag_ hg HB; replace HB := ah_ HB hb; clear hb hbox hg; obtain ⟨Z12_0, Z12_1, Z12_2, Z12_3, F12⟩ := bc4 K104.out) | (have _t := tk3_; (with_reducible refine qb_ (f := 92) rfl ?_); refine gl_ (some 5) func92 #[.string a0_0] ?_; refine cm_ (qy_.calls k a0_0 true _ A2.out) ?_; rintro w' ⟨nd, rfl⟩; clear tk3_) | (go_at_call 92; have _t := tk4_; (with_reducible refine (qy_.calls k a0_1 true _ A4.out).mono ?_); rintro e w' ⟨rfl, ⟨nd, rfl⟩⟩; clear tk4_)); go_ret
 exact ⟨z3_, hs_⟩
mutual
def qf_.j0 : Nat → Bool → ByteArray → List ByteArray → ByteArray → ByteArray → Int → Int → ByteArray → ByteArray → Int → Int → ByteArray → Option (Int)
 | 0, _, _, _, _, _, _, _, _, _, _, _, _ => none
 | k + 1, x3, x102000, x102001, x102002, x102003, x102004, x102005, x102006, x102007, x102008, x102009, x102010 => qf_.l0 k x3 0 x102000 x102001 x102002 x102003 x102004 x102005 x102006 x102007 x102008 x102009 x102010
def qf_.l0 : Nat → Bool → Int → ByteArray → List ByteArray → ByteArray → ByteArray → Int → Int → ByteArray → ByteArray → Int → Int → ByteArray → Option (Int)
 | 0, _, _, _, _, _, _, _, _, _, _, _, _, _ => none
 | k + 1, x3, x4, x102000, x102001, x102002, x102003, x102004, x102005, x102006, x102007, x102008, x102009, x102010 => if x4 < (x102001.length : Int) then (if x3 = true then (qf_.l0 k true (wrap64 (x4 + 1)) x102000 x102001 x102002 x102003 x102004 x102005 x102006 x102007 x102008 x102009 x102010) else (if 0 ≤ x4 then ((qac_.f k (rdOf ByteArray.empty x102001 x4)).bind fun t107 => (qf_.l0 k (!t107) (wrap64 (x4 + 1)) x102000 x102001 x102002 x102003 x102004 x102005 x102006 x102007 x102008 x102009 x102010)) else (none))) else (if x3 = true then (some 1) else (if (x102010.size : Int) > 4096 then (qf_.j2 k true x102000 x102001 x102002 x102003 x102004 x102005 x102006 x102007 x102008 x102009 x102010) else (qf_.j2 k (decide ((x102001.length : Int) > 8)) x102000 x102001 x102002 x102003 x102004 x102005 x102006 x102007 x102008 x102009 x102010)))
def qf_.j2 : Nat → Bool → ByteArray → List ByteArray → ByteArray → ByteArray → Int → Int → ByteArray → ByteArray → Int → Int → ByteArray → Option (Int)
 | 0, _, _, _, _, _, _, _, _, _, _, _, _ => none
 | k + 1, x55, x102000, x102001, x102002, x102003, x102004, x102005, x102006, x102007, x102008, x102009, x102010 => if x55 = true then (some 4) else (qf_.l1 k 0 x102000 x102001 x102002 x102003 x102004 x102005 x102006 x102007 x102008 x102009 x102010)
def qf_.l1 : Nat → Int → ByteArray → List ByteArray → ByteArray → ByteArray → Int → Int → ByteArray → ByteArray → Int → Int → ByteArray → Option (Int)
 | 0, _, _, _, _, _, _, _, _, _, _, _, _ => none
 | k + 1, x5, x102000, x102001, x102002, x102003, x102004, x102005, x102006, x102007, x102008, x102009, x102010 => if x5 < (x102001.length : Int) then (qf_.l2 k x5 0 x102000 x102001 x102002 x102003 x102004 x102005 x102006 x102007 x102008 x102009 x102010) else (some 0)
def qf_.l2 : Nat → Int → Int → ByteArray → List ByteArray → ByteArray → ByteArray → Int → Int → ByteArray → ByteArray → Int → Int → ByteArray → Option (Int)
 | 0, _, _, _, _, _, _, _, _, _, _, _, _, _ => none
 | k + 1, x5, x6, x102000, x102001, x102002, x102003, x102004, x102005, x102006, x102007, x102008, x102009, x102010 => if x6 < x5 then (if 0 ≤ x5 then (if x5 < (x102001.length : Int) then (if 0 ≤ x6 then (if x6 < (x102001.length : Int) then (if (rdOf ByteArray.empty x102001 x5).toList = (rdOf ByteArray.empty x102001 x6).toList then (some 6) else (qf_.l2 k x5 (wrap64 (x6 + 1)) x102000 x102001 x102002 x102003 x102004 x102005 x102006 x102007 x102008 x102009 x102010)) else (none)) else (none)) else (none)) else (none)) else (qf_.l1 k (wrap64 (x5 + 1)) x102000 x102001 x102002 x102003 x102004 x102005 x102006 x102007 x102008 x102009 x102010)
end
def qf_.f (k : Nat) (a0_0 : ByteArray) (l0_1 : List ByteArray) (a0_2 : ByteArray) (a0_3 : ByteArray) (a0_4 : Int) (a0_5 : Int) (a0_6 : ByteArray) (a0_7 : ByteArray) (a0_8 : Int) (a0_9 : Int) (a0_10 : ByteArray) : Option (Int) := (qac_.f k a0_0).bind fun t102 => (if t102 = true then ((qaq_.f k a0_2 a0_3 a0_4 a0_5).bind fun t103 => (if t103 = true then ((qaq_.f k a0_6 a0_7 a0_8 a0_9).bind fun t104 => (if t104 = true then ((qbx_.f k a0_10).bind fun t105 => (qf_.j0 k t105 a0_0 l0_1 a0_2 a0_3 a0_4 a0_5 a0_6 a0_7 a0_8 a0_9 a0_10)) else (qf_.j0 k true a0_0 l0_1 a0_2 a0_3 a0_4 a0_5 a0_6 a0_7 a0_8 a0_9 a0_10))) else (qf_.j0 k true a0_0 l0_1 a0_2 a0_3 a0_4 a0_5 a0_6 a0_7 a0_8 a0_9 a0_10))) else (qf_.j0 k true a0_0 l0_1 a0_2 a0_3 a0_4 a0_5 a0_6 a0_7 a0_8 a0_9 a0_10))
theorem qf_.calls (k : Nat) (a0_0 : ByteArray) (A0_1 : Option Addr) (c0_1 : Nat) (l0_1 : List ByteArray) (a0_2 : ByteArray) (a0_3 : ByteArray) (a0_4 : Int) (a0_5 : Int) (a0_6 : ByteArray) (a0_7 : ByteArray) (a0_8 : Int) (a0_9 : Int) (a0_10 : ByteArray) (r : Int) (w : World) (hr0_1 : Kd.C Kd.string w A0_1 l0_1.length l0_1) (hc0_1 : l0_1.length ≤ c0_1) (h : qf_.f k a0_0 l0_1 a0_2 a0_3 a0_4 a0_5 a0_6 a0_7 a0_8 a0_9 a0_10 = some r) :
  Calls Tryz.prog 19 #[.agg #[.string a0_0, .slice A0_1 l0_1.length c0_1, .string a0_2, .string a0_3, .int .i64 a0_4, .int .i64 a0_5, .string a0_6, .string a0_7, .int .i64 a0_8, .int .i64 a0_9, .string a0_10]] w fun e w' => e = .returned (.int .i64 r) ∧ Below w.heap.size w w' := by
 have hu26 := underlying26; have hu24 := underlying24; have HR0_1 := qa_.mk hr0_1; have HC0_1 := qa_.mk hc0_1; clear hr0_1 hc0_1; have HB := qa_.mk (Below.refl w.heap.size w); unfold qf_.f at h; have H := h; clear h; have HC2 := qa_.mk H; clear H; go_enter func19, ntmps19; go_upto_region 1 with (first | ((with_reducible refine qh_ (N := 1) rfl ?_); (try (refine qcy_ (by rfl) ?_; dsimp only)); refine be_ (cs := #[.string a0_0, .slice A0_1 l0_1.length c0_1, .string a0_2, .string a0_3, .int .i64 a0_4, .int .i64 a0_5, .string a0_6, .string a0_7, .int .i64 a0_8, .int .i64 a0_9, .string a0_10]) (t := 26) ?_; intro g101 hg w3 hbox hb; have K101 := qa_.mk (hbox); have W101 := ag_ hg HB; have E101 := ag_ hg HB; replace HB := ah_ HB hb; clear hb hbox hg)); repeat (go_quiet (first | ((with_reducible refine qh_ (N := 1) rfl ?_); (try (refine qcy_ (by rfl) ?_; dsimp only)); refine be_ (cs := #[.string a0_0, .slice A0_1 l0_1.length c0_1, .string a0_2, .string a0_3, .int .i64 a0_4, .int .i64 a0_5, .string a0_6, .string a0_7, .int .i64 a0_8, .int .i64 a0_9, .string a0_10]) (t := 26) ?_; intro g101 hg w3 hbox hb; have K101 := qa_.mk (hbox); have W101 := ag_ hg HB; have E101 := ag_ hg HB; replace HB := ah_ HB hb; clear hb hbox hg)); go_upto_region 1 with (first | ((with_reducible refine qh_ (N := 1) rfl ?_); (try (refine qcy_ (by rfl) ?_; dsimp only)); refine be_ (cs := #[.string a0_0, .slice A0_1 l0_1.length c0_1, .string a0_2, .string a0_3, .int .i64 a0_4, .int .i64 a0_5, .string a0_6, .string a0_7, .int .i64 a0_8, .int .i64 a0_9, .string a0_10]) (t := 26) ?_; intro g101 hg w3 hbox hb; have K101 := qa_.mk (hbox); have W101 := ag_ hg HB; have E101 := ag_ hg HB; replace HB := ah_ HB hb; clear hb hbox hg))); (try simp only [Act.put, List.setIfInBounds_toArray, List.set_cons_zero, List.set_cons_succ])
 go_cut [3] (fun v3 wc => ∃ (kq : Nat) (x3_1 : Bool), v3 = .bool x3_1 ∧ qa_ (qf_.j0 kq x3_1 a0_0 l0_1 a0_2 a0_3 a0_4 a0_5 a0_6 a0_7 a0_8 a0_9 a0_10 = some r) ∧ qa_ (kq ≤ k) ∧ qa_ (wc.heap[g101]? = some (.cells #[.string a0_0, (.slice A0_1 l0_1.length c0_1), .string a0_2, .string a0_3, .int .i64 a0_4, .int .i64 a0_5, .string a0_6, .string a0_7, .int .i64 a0_8, .int .i64 a0_9, .string a0_10] 26 (0, 0))) ∧ qa_ (Below w.heap.size w wc))
 case first =>
  have H := HC2.out; clear HC2; obtain ⟨t102, A4, H⟩ := bx_ H; by_cases c5 : t102 = true; rotate_left
  ·replace c5 := Bool.eq_false_iff.mpr c5; subst c5; rw [if_neg nft_] at H; have H' := qa_.mk H; clear H; obtain ⟨Z22_0, Z22_1, Z22_2, Z22_3, Z22_4, Z22_5, Z22_6, Z22_7, Z22_8, Z22_9, Z22_10, F22⟩ := bc11 K101.out; go_wp2_with (first | (go_at_call 61; (with_reducible refine (qac_.calls k a0_0 false _ A4.out).mono ?_); rintro e w' ⟨rfl, ⟨nd, rfl⟩⟩; (try first | exact ⟨rfl, _, World.drewN_drewN _ _ _⟩ | exact ⟨rfl, _, Eq.trans (World.drewN_drewN _ _ _) (congrArg (World.drewN _) (Nat.add_assoc _ _ _))⟩)))
   repeat (go_quiet (first | (go_at_call 61; (with_reducible refine (qac_.calls k a0_0 false _ A4.out).mono ?_); rintro e w' ⟨rfl, ⟨nd, rfl⟩⟩; (try first | exact ⟨rfl, _, World.drewN_drewN _ _ _⟩ | exact ⟨rfl, _, Eq.trans (World.drewN_drewN _ _ _) (congrArg (World.drewN _) (Nat.add_assoc _ _ _))⟩))); try go_wp2_with (first | (go_at_call 61; (with_reducible refine (qac_.calls k a0_0 false _ A4.out).mono ?_); rintro e w' ⟨rfl, ⟨nd, rfl⟩⟩; (try first | exact ⟨rfl, _, World.drewN_drewN _ _ _⟩ | exact ⟨rfl, _, Eq.trans (World.drewN_drewN _ _ _) (congrArg (World.drewN _) (Nat.add_assoc _ _ _))⟩))))
   go_meet
   case rel => exact ⟨_, (true), z1_, H', ⟨z4_⟩, ⟨bk_ K101.out⟩, ⟨hs_⟩⟩
  subst c5; rw [if_pos rfl] at H; obtain ⟨t103, A6, H⟩ := bx_ H; by_cases c7 : t103 = true; rotate_left
  ·replace c7 := Bool.eq_false_iff.mpr c7; subst c7; rw [if_neg nft_] at H; have H' := qa_.mk H; clear H; obtain ⟨Z20_0, Z20_1, Z20_2, Z20_3, Z20_4, Z20_5, Z20_6, Z20_7, Z20_8, Z20_9, Z20_10, F20⟩ := bc11 K101.out; go_wp2_with (first | (go_at_call 61; (with_reducible refine (qac_.calls k a0_0 true _ A4.out).mono ?_); rintro e w' ⟨rfl, ⟨nd, rfl⟩⟩; (try first | exact ⟨rfl, _, World.drewN_drewN _ _ _⟩ | exact ⟨rfl, _, Eq.trans (World.drewN_drewN _ _ _) (congrArg (World.drewN _) (Nat.add_assoc _ _ _))⟩)) | (go_at_call 32; (with_reducible refine (qaq_.calls k a0_2 a0_3 a0_4 a0_5 false _ A6.out).mono ?_); rintro e w21 ⟨rfl, hb⟩; replace K101 := ab_ K101 hb; replace HB := hr_ hb; (try clear hb); (try clear hb2); (try clear hk); (try clear hi)))
   repeat (go_quiet (first | (go_at_call 61; (with_reducible refine (qac_.calls k a0_0 true _ A4.out).mono ?_); rintro e w' ⟨rfl, ⟨nd, rfl⟩⟩; (try first | exact ⟨rfl, _, World.drewN_drewN _ _ _⟩ | exact ⟨rfl, _, Eq.trans (World.drewN_drewN _ _ _) (congrArg (World.drewN _) (Nat.add_assoc _ _ _))⟩)) | (go_at_call 32; (with_reducible refine (qaq_.calls k a0_2 a0_3 a0_4 a0_5 false _ A6.out).mono ?_); rintro e w21 ⟨rfl, hb⟩; replace K101 := ab_ K101 hb; replace HB := hr_ hb; (try clear hb); (try clear hb2); (try clear hk); (try clear hi))); try go_wp2_with (first | (go_at_call 61; (with_reducible refine (qac_.calls k a0_0 true _ A4.out).mono ?_); rintro e w' ⟨rfl, ⟨nd, rfl⟩⟩; (try first | exact ⟨rfl, _, World.drewN_drewN _ _ _⟩ | exact ⟨rfl, _, Eq.trans (World.drewN_drewN _ _ _) (congrArg (World.drewN _) (Nat.add_assoc _ _ _))⟩)) | (go_at_call 32; (with_reducible refine (qaq_.calls k a0_2 a0_3 a0_4 a0_5 false _ A6.out).mono ?_); rintro e w21 ⟨rfl, hb⟩; replace K101 := ab_ K101 hb; replace HB := hr_ hb; (try clear hb); (try clear hb2); (try clear hk); (try clear hi))))
   go_meet
   case rel => exact ⟨_, (true), z1_, H', ⟨z4_⟩, ⟨bk_ K101.out⟩, ⟨hs_⟩⟩
  subst c7; rw [if_pos rfl] at H; obtain ⟨t104, A8, H⟩ := bx_ H; by_cases c9 : t104 = true; rotate_left
  ·replace c9 := Bool.eq_false_iff.mpr c9; subst c9; rw [if_neg nft_] at H; have H' := qa_.mk H; clear H; obtain ⟨Z16_0, Z16_1, Z16_2, Z16_3, Z16_4, Z16_5, Z16_6, Z16_7, Z16_8, Z16_9, Z16_10, F16⟩ := bc11 K101.out; have tk3_ : True := trivial; have tk4_ : True := trivial; go_wp2_with (first | (go_at_call 61; (with_reducible refine (qac_.calls k a0_0 true _ A4.out).mono ?_); rintro e w' ⟨rfl, ⟨nd, rfl⟩⟩; (try first | exact ⟨rfl, _, World.drewN_drewN _ _ _⟩ | exact ⟨rfl, _, Eq.trans (World.drewN_drewN _ _ _) (congrArg (World.drewN _) (Nat.add_assoc _ _ _))⟩)) | (go_at_call 32; have _t := tk3_; (with_reducible refine (qaq_.calls k a0_2 a0_3 a0_4 a0_5 true _ A6.out).mono ?_); rintro e w17 ⟨rfl, hb⟩; replace K101 := ab_ K101 hb; replace HB := hr_ hb; (try clear hb); (try clear hb2); (try clear hk); (try clear hi); obtain ⟨Z18_0, Z18_1, Z18_2, Z18_3, Z18_4, Z18_5, Z18_6, Z18_7, Z18_8, Z18_9, Z18_10, F18⟩ := bc11 K101.out; clear tk3_) | (go_at_call 32; have _t := tk4_; (with_reducible refine (qaq_.calls k a0_6 a0_7 a0_8 a0_9 false _ A8.out).mono ?_); rintro e w19 ⟨rfl, hb⟩; replace K101 := ab_ K101 hb; replace HB := hr_ hb; (try clear hb); (try clear hb2); (try clear hk); (try clear hi); clear tk4_)); repeat (go_quiet (first | (go_at_call 61; (with_reducible refine (qac_.calls k a0_0 true _ A4.out).mono ?_); rintro e w' ⟨rfl, ⟨nd, rfl⟩⟩; (try first | exact ⟨rfl, _, World.drewN_drewN _ _ _⟩ | exact ⟨rfl, _, Eq.trans (World.drewN_drewN _ _ _) (congrArg (World.drewN _) (Nat.add_assoc _ _ _))⟩)) | (go_at_call 32; (with_reducible refine (qaq_.calls k a0_2 a0_3 a0_4 a0_5 true _ A6.out).mono ?_); rintro e w17 ⟨rfl, hb⟩; replace K101 := ab_ K101 hb; replace HB := hr_ hb; (try clear hb); (try clear hb2); (try clear hk); (try clear hi); obtain ⟨Z18_0, Z18_1, Z18_2, Z18_3, Z18_4, Z18_5, Z18_6, Z18_7, Z18_8, Z18_9, Z18_10, F18⟩ := bc11 K101.out) | (go_at_call 32; (with_reducible refine (qaq_.calls k a0_6 a0_7 a0_8 a0_9 false _ A8.out).mono ?_); rintro e w19 ⟨rfl, hb⟩; replace K101 := ab_ K101 hb; replace HB := hr_ hb; (try clear hb); (try clear hb2); (try clear hk); (try clear hi))); try go_wp2_with (first | (go_at_call 61; (with_reducible refine (qac_.calls k a0_0 true _ A4.out).mono ?_); rintro e w' ⟨rfl, ⟨nd, rfl⟩⟩; (try first | exact ⟨rfl, _, World.drewN_drewN _ _ _⟩ | exact ⟨rfl, _, Eq.trans (World.drewN_drewN _ _ _) (congrArg (World.drewN _) (Nat.add_assoc _ _ _))⟩)) | (go_at_call 32; (with_reducible refine (qaq_.calls k a0_2 a0_3 a0_4 a0_5 true _ A6.out).mono ?_); rintro e w17 ⟨rfl, hb⟩; replace K101 := ab_ K101 hb; replace HB := hr_ hb; (try clear hb); (try clear hb2); (try clear hk); (try clear hi); obtain ⟨Z18_0, Z18_1, Z18_2, Z18_3, Z18_4, Z18_5, Z18_6, Z18_7, Z18_8, Z18_9, Z18_10, F18⟩ := bc11 K101.out) | (go_at_call 32; (with_reducible refine (qaq_.calls k a0_6 a0_7 a0_8 a0_9 false _ A8.out).mono ?_); rintro e w19 ⟨rfl, hb⟩; replace K101 := ab_ K101 hb; replace HB := hr_ hb; (try clear hb); (try clear hb2); (try clear hk); (try clear hi))))
   go_meet
   case rel => exact ⟨_, (true), z1_, H', ⟨z4_⟩, ⟨bk_ K101.out⟩, ⟨hs_⟩⟩
  subst c9; rw [if_pos rfl] at H; obtain ⟨t105, A10, H⟩ := bx_ H; have H' := qa_.mk H; clear H; obtain ⟨Z11_0, Z11_1, Z11_2, Z11_3, Z11_4, Z11_5, Z11_6, Z11_7, Z11_8, Z11_9, Z11_10, F11⟩ := bc11 K101.out; have tk1_ : True := trivial; have tk2_ : True := trivial; go_wp2_with (first | (go_at_call 61; (with_reducible refine (qac_.calls k a0_0 true _ A4.out).mono ?_); rintro e w' ⟨rfl, ⟨nd, rfl⟩⟩; (try first | exact ⟨rfl, _, World.drewN_drewN _ _ _⟩ | exact ⟨rfl, _, Eq.trans (World.drewN_drewN _ _ _) (congrArg (World.drewN _) (Nat.add_assoc _ _ _))⟩)) | (go_at_call 32; have _t := tk1_; (with_reducible refine (qaq_.calls k a0_2 a0_3 a0_4 a0_5 true _ A6.out).mono ?_); rintro e w12 ⟨rfl, hb⟩; replace K101 := ab_ K101 hb; replace HB := hr_ hb; (try clear hb); (try clear hb2); (try clear hk); (try clear hi); obtain ⟨Z13_0, Z13_1, Z13_2, Z13_3, Z13_4, Z13_5, Z13_6, Z13_7, Z13_8, Z13_9, Z13_10, F13⟩ := bc11 K101.out; clear tk1_) | (go_at_call 32; have _t := tk2_; (with_reducible refine (qaq_.calls k a0_6 a0_7 a0_8 a0_9 true _ A8.out).mono ?_); rintro e w14 ⟨rfl, hb⟩; replace K101 := ab_ K101 hb; replace HB := hr_ hb; (try clear hb); (try clear hb2); (try clear hk); (try clear hi); obtain ⟨Z15_0, Z15_1, Z15_2, Z15_3, Z15_4, Z15_5, Z15_6, Z15_7, Z15_8, Z15_9, Z15_10, F15⟩ := bc11 K101.out; clear tk2_) | (go_at_call 69; (with_reducible refine (qbx_.calls k a0_10 t105 _ A10.out).mono ?_); rintro e w' ⟨rfl, ⟨nd, rfl⟩⟩; (try first | exact ⟨rfl, _, World.drewN_drewN _ _ _⟩ | exact ⟨rfl, _, Eq.trans (World.drewN_drewN _ _ _) (congrArg (World.drewN _) (Nat.add_assoc _ _ _))⟩)))
  repeat (go_quiet (first | (go_at_call 61; (with_reducible refine (qac_.calls k a0_0 true _ A4.out).mono ?_); rintro e w' ⟨rfl, ⟨nd, rfl⟩⟩; (try first | exact ⟨rfl, _, World.drewN_drewN _ _ _⟩ | exact ⟨rfl, _, Eq.trans (World.drewN_drewN _ _ _) (congrArg (World.drewN _) (Nat.add_assoc _ _ _))⟩)) | (go_at_call 32; (with_reducible refine (qaq_.calls k a0_2 a0_3 a0_4 a0_5 true _ A6.out).mono ?_); rintro e w12 ⟨rfl, hb⟩; replace K101 := ab_ K101 hb; replace HB := hr_ hb; (try clear hb); (try clear hb2); (try clear hk); (try clear hi); obtain ⟨Z13_0, Z13_1, Z13_2, Z13_3, Z13_4, Z13_5, Z13_6, Z13_7, Z13_8, Z13_9, Z13_10, F13⟩ := bc11 K101.out) | (go_at_call 32; (with_reducible refine (qaq_.calls k a0_6 a0_7 a0_8 a0_9 true _ A8.out).mono ?_); rintro e w14 ⟨rfl, hb⟩; replace K101 := ab_ K101 hb; replace HB := hr_ hb; (try clear hb); (try clear hb2); (try clear hk); (try clear hi); obtain ⟨Z15_0, Z15_1, Z15_2, Z15_3, Z15_4, Z15_5, Z15_6, Z15_7, Z15_8, Z15_9, Z15_10, F15⟩ := bc11 K101.out) | (go_at_call 69; (with_reducible refine (qbx_.calls k a0_10 t105 _ A10.out).mono ?_); rintro e w' ⟨rfl, ⟨nd, rfl⟩⟩; (try first | exact ⟨rfl, _, World.drewN_drewN _ _ _⟩ | exact ⟨rfl, _, Eq.trans (World.drewN_drewN _ _ _) (congrArg (World.drewN _) (Nat.add_assoc _ _ _))⟩))); try go_wp2_with (first | (go_at_call 61; (with_reducible refine (qac_.calls k a0_0 true _ A4.out).mono ?_); rintro e w' ⟨rfl, ⟨nd, rfl⟩⟩; (try first | exact ⟨rfl, _, World.drewN_drewN _ _ _⟩ | exact ⟨rfl, _, Eq.trans (World.drewN_drewN _ _ _) (congrArg (World.drewN _) (Nat.add_assoc _ _ _))⟩)) | (go_at_call 32; (with_reducible refine (qaq_.calls k a0_2 a0_3 a0_4 a0_5 true _ A6.out).mono ?_); rintro e w12 ⟨rfl, hb⟩; replace K101 := ab_ K101 hb; replace HB := hr_ hb; (try clear hb); (try clear hb2); (try clear hk); (try clear hi); obtain ⟨Z13_0, Z13_1, Z13_2, Z13_3, Z13_4, Z13_5, Z13_6, Z13_7, Z13_8, Z13_9, Z13_10, F13⟩ := bc11 K101.out) | (go_at_call 32; (with_reducible refine (qaq_.calls k a0_6 a0_7 a0_8 a0_9 true _ A8.out).mono ?_); rintro e w14 ⟨rfl, hb⟩; replace K101 := ab_ K101 hb; replace HB := hr_ hb; (try clear hb); (try clear hb2); (try clear hk); (try clear hi); obtain ⟨Z15_0, Z15_1, Z15_2, Z15_3, Z15_4, Z15_5, Z15_6, Z15_7, Z15_8, Z15_9, Z15_10, F15⟩ := bc11 K101.out) | (go_at_call 69; (with_reducible refine (qbx_.calls k a0_10 t105 _ A10.out).mono ?_); rintro e w' ⟨rfl, ⟨nd, rfl⟩⟩; (try first | exact ⟨rfl, _, World.drewN_drewN _ _ _⟩ | exact ⟨rfl, _, Eq.trans (World.drewN_drewN _ _ _) (congrArg (World.drewN _) (Nat.add_assoc _ _ _))⟩))))
  go_meet
  case rel => exact ⟨_, (t105), z1_, H', ⟨z4_⟩, ⟨bk_ K101.out⟩, ⟨hs_⟩⟩
 case rest =>
  clear HC2; try clear c1
  try clear p2
  try clear c5
  try clear c7
  try clear c9
  try clear c19
  try clear Z11_0 Z11_1 Z11_10 Z11_2 Z11_3 Z11_4 Z11_5 Z11_6 Z11_7 Z11_8 Z11_9
  try clear Z13_0 Z13_1 Z13_10 Z13_2 Z13_3 Z13_4 Z13_5 Z13_6 Z13_7 Z13_8 Z13_9
  try clear Z15_0 Z15_1 Z15_10 Z15_2 Z15_3 Z15_4 Z15_5 Z15_6 Z15_7 Z15_8 Z15_9
  try clear Z16_0 Z16_1 Z16_10 Z16_2 Z16_3 Z16_4 Z16_5 Z16_6 Z16_7 Z16_8 Z16_9
  try clear Z18_0 Z18_1 Z18_10 Z18_2 Z18_3 Z18_4 Z18_5 Z18_6 Z18_7 Z18_8 Z18_9
  try clear Z20_0 Z20_1 Z20_10 Z20_2 Z20_3 Z20_4 Z20_5 Z20_6 Z20_7 Z20_8 Z20_9
  try clear Z22_0 Z22_1 Z22_10 Z22_2 Z22_3 Z22_4 Z22_5 Z22_6 Z22_7 Z22_8 Z22_9
  try clear F11
  try clear F13
  try clear F15
  try clear F16
  try clear F18
  try clear F20
  try clear F22
  obtain ⟨kq, x3_1, rfl, HA, HJ1, K101, HB⟩ := hcut
  cases kq with
  | zero => exact absurd HA.out (by simp [qf_.j0])
  | succ kj1 =>
   have H := HA.out; clear HA; simp only [qf_.j0] at H; have H' := qa_.mk H; clear H; go_wp2
   repeat (go_quiet (fail); try go_wp2)
   go_loopg [3, 4] kj1 (fun kq v3 v4 w' => ∃ (x3_2 : Bool) (x4_2 : Int), v3 = .bool x3_2 ∧ v4 = .int .i64 x4_2 ∧ qa_ (qf_.l0 kq x3_2 x4_2 a0_0 l0_1 a0_2 a0_3 a0_4 a0_5 a0_6 a0_7 a0_8 a0_9 a0_10 = some r) ∧ qa_ (kq ≤ kj1) ∧ qa_ (w'.heap[g101]? = some (.cells #[.string a0_0, (.slice A0_1 l0_1.length c0_1), .string a0_2, .string a0_3, .int .i64 a0_4, .int .i64 a0_5, .string a0_6, .string a0_7, .int .i64 a0_8, .int .i64 a0_9, .string a0_10] 26 (0, 0))) ∧ qa_ (Below w.heap.size w w'))
   case atStart => exact ⟨(x3_1), (0), z1_, z1_, H', ⟨Nat.le_refl _⟩, ⟨bk_ K101.out⟩, ⟨hs_⟩⟩
   case round =>
    clear H'; try clear c1
    try clear p2
    try clear c5
    try clear c7
    try clear c9
    try clear c19
    try clear Z11_0 Z11_1 Z11_10 Z11_2 Z11_3 Z11_4 Z11_5 Z11_6 Z11_7 Z11_8 Z11_9
    try clear Z13_0 Z13_1 Z13_10 Z13_2 Z13_3 Z13_4 Z13_5 Z13_6 Z13_7 Z13_8 Z13_9
    try clear Z15_0 Z15_1 Z15_10 Z15_2 Z15_3 Z15_4 Z15_5 Z15_6 Z15_7 Z15_8 Z15_9
    try clear Z16_0 Z16_1 Z16_10 Z16_2 Z16_3 Z16_4 Z16_5 Z16_6 Z16_7 Z16_8 Z16_9
    try clear Z18_0 Z18_1 Z18_10 Z18_2 Z18_3 Z18_4 Z18_5 Z18_6 Z18_7 Z18_8 Z18_9
    try clear Z20_0 Z20_1 Z20_10 Z20_2 Z20_3 Z20_4 Z20_5 Z20_6 Z20_7 Z20_8 Z20_9
    try clear Z22_0 Z22_1 Z22_10 Z22_2 Z22_3 Z22_4 Z22_5 Z22_6 Z22_7 Z22_8 Z22_9
    try clear F11
    try clear F13
    try clear F15
    try clear F16
    try clear F18
    try clear F20
    try clear F22
    try clear p2
    obtain ⟨x3_2, x4_2, rfl, rfl, HA, HK2, K101, HB⟩ := hrel
    cases gk with
    | zero => exact absurd HA.out (by simp [qf_.l0])
    | succ k2 =>
     have H := HA.out; clear HA; simp only [qf_.l0] at H; by_cases c23 : x4_2 < (l0_1.length : Int)
     ·rw [if_pos c23] at H; have c23b0 := dt_ c23; clear c23; by_cases c24 : x3_2 = true
      ·subst c24; rw [if_pos rfl] at H; have H' := qa_.mk H; clear H; obtain ⟨Z25_0, Z25_1, Z25_2, Z25_3, Z25_4, Z25_5, Z25_6, Z25_7, Z25_8, Z25_9, Z25_10, F25⟩ := bc11 K101.out; go_wp2
       repeat (go_quiet (fail); try go_wp2)
       go_roundg k2
       case measure => have := HJ1.out; have := HK2.out; omega
       case rel => exact ⟨(true), (wrap64 (x4_2 + 1)), z1_, z1_, H', ⟨by have := HJ1.out; have := HK2.out; omega⟩, ⟨bk_ K101.out⟩, ⟨hs_⟩⟩
      replace c24 := Bool.eq_false_iff.mpr c24; subst c24; rw [if_neg nft_] at H; by_cases c26 : 0 ≤ x4_2; rotate_left
      ·rw [if_neg c26] at H; exact no_ H
      rw [if_pos c26] at H; have c26b0 := dt_ c26; clear c26; obtain ⟨t107, A27, H⟩ := bx_ H; have H' := qa_.mk H; clear H; obtain ⟨Z28_0, Z28_1, Z28_2, Z28_3, Z28_4, Z28_5, Z28_6, Z28_7, Z28_8, Z28_9, Z28_10, F28⟩ := bc11 K101.out; have p106 : 0 ≤ (x4_2 : Int) := y0_; have q106 : x4_2 < (l0_1.length : Int) := y0_; obtain ⟨ad106, e106, hx106_0⟩ := Kd.at_string HR0_1.out x4_2 p106 q106
      cases e106
      replace hx106_0 := (HB.out.cell (World.block_lt_of_cell? w _ hx106_0)).trans hx106_0; replace p106 := eq_true p106; replace q106 := eq_true q106; go_wp2_with (first | (go_at_call 61; (with_reducible refine (qac_.calls k2 (rdOf ByteArray.empty l0_1 x4_2) t107 _ A27.out).mono ?_); rintro e w' ⟨rfl, ⟨nd, rfl⟩⟩; (try first | exact ⟨rfl, _, World.drewN_drewN _ _ _⟩ | exact ⟨rfl, _, Eq.trans (World.drewN_drewN _ _ _) (congrArg (World.drewN _) (Nat.add_assoc _ _ _))⟩)))
      repeat (go_quiet (first | (go_at_call 61; (with_reducible refine (qac_.calls k2 (rdOf ByteArray.empty l0_1 x4_2) t107 _ A27.out).mono ?_); rintro e w' ⟨rfl, ⟨nd, rfl⟩⟩; (try first | exact ⟨rfl, _, World.drewN_drewN _ _ _⟩ | exact ⟨rfl, _, Eq.trans (World.drewN_drewN _ _ _) (congrArg (World.drewN _) (Nat.add_assoc _ _ _))⟩))); try go_wp2_with (first | (go_at_call 61; (with_reducible refine (qac_.calls k2 (rdOf ByteArray.empty l0_1 x4_2) t107 _ A27.out).mono ?_); rintro e w' ⟨rfl, ⟨nd, rfl⟩⟩; (try first | exact ⟨rfl, _, World.drewN_drewN _ _ _⟩ | exact ⟨rfl, _, Eq.trans (World.drewN_drewN _ _ _) (congrArg (World.drewN _) (Nat.add_assoc _ _ _))⟩))))
      go_roundg k2
      case measure => have := HJ1.out; have := HK2.out; omega
      case rel => exact ⟨(!t107), (wrap64 (x4_2 + 1)), z1_, z1_, H', ⟨by have := HJ1.out; have := HK2.out; omega⟩, ⟨bk_ K101.out⟩, ⟨hs_⟩⟩
     rw [if_neg c23] at H; have c23b0 := df_ c23; clear c23; by_cases c29 : x3_2 = true
     ·subst c29; rw [if_pos rfl] at H; obtain rfl := oi_ H; obtain ⟨Z30_0, Z30_1, Z30_2, Z30_3, Z30_4, Z30_5, Z30_6, Z30_7, Z30_8, Z30_9, Z30_10, F30⟩ := bc11 K101.out; go_wp2
      repeat (go_quiet (fail); try go_wp2)
      go_ret
      exact ⟨z3_, hs_⟩
     replace c29 := Bool.eq_false_iff.mpr c29; subst c29; rw [if_neg nft_] at H; have HC31 := qa_.mk H; clear H; obtain ⟨Z32_0, Z32_1, Z32_2, Z32_3, Z32_4, Z32_5, Z32_6, Z32_7, Z32_8, Z32_9, Z32_10, F32⟩ := bc11 K101.out; go_upto_region 8 with (fail)
     repeat (go_quiet (fail); go_upto_region 8 with (fail))
     go_cut [55] (fun v55 wc => ∃ (kq : Nat) (x55_30 : Bool), v55 = .bool x55_30 ∧ qa_ (qf_.j2 kq x55_30 a0_0 l0_1 a0_2 a0_3 a0_4 a0_5 a0_6 a0_7 a0_8 a0_9 a0_10 = some r) ∧ qa_ (kq ≤ k2) ∧ qa_ (wc.heap[g101]? = some (.cells #[.string a0_0, (.slice A0_1 l0_1.length c0_1), .string a0_2, .string a0_3, .int .i64 a0_4, .int .i64 a0_5, .string a0_6, .string a0_7, .int .i64 a0_8, .int .i64 a0_9, .string a0_10] 26 (0, 0))) ∧ qa_ (Below w.heap.size w wc))
     case first =>
      have H := HC31.out; clear HC31; by_cases c33 : (a0_10.size : Int) > 4096
      ·rw [if_pos c33] at H; have c33b0 := dt_ c33; have c33b1 : decide (4096 < a0_10.size) = true := decide_eq_true (by omega); clear c33; (first | rw [c33b0] | (simp only [i64_w, i32_w]; rw [c33b0]) | skip); have H' := qa_.mk H; clear H; obtain ⟨Z34_0, Z34_1, Z34_2, Z34_3, Z34_4, Z34_5, Z34_6, Z34_7, Z34_8, Z34_9, Z34_10, F34⟩ := bc11 K101.out; go_wp2
       repeat (go_quiet (fail); try go_wp2)
       go_meet
       case rel => exact ⟨_, (true), z1_, H', ⟨by have := HJ1.out; have := HK2.out; first | omega | exact Nat.le_refl _⟩, ⟨bk_ K101.out⟩, ⟨hs_⟩⟩
      rw [if_neg c33] at H; have c33b0 := df_ c33; have c33b1 : decide (4096 < a0_10.size) = false := decide_eq_false (by omega); clear c33; (first | rw [c33b0] | (simp only [i64_w, i32_w]; rw [c33b0]) | skip); have H' := qa_.mk H; clear H; obtain ⟨Z35_0, Z35_1, Z35_2, Z35_3, Z35_4, Z35_5, Z35_6, Z35_7, Z35_8, Z35_9, Z35_10, F35⟩ := bc11 K101.out; go_wp2
      repeat (go_quiet (fail); try go_wp2)
      go_meet
      case rel => exact ⟨_, (decide ((l0_1.length : Int) > 8)), z1_, H', ⟨by have := HJ1.out; have := HK2.out; first | omega | exact Nat.le_refl _⟩, ⟨bk_ K101.out⟩, ⟨hs_⟩⟩
     case rest =>
      clear HC31; try clear c1
      try clear p1
      try clear q1
      try clear hx1
      try clear c2
      try clear p2
      try clear c3
      try clear c5
      try clear p6
      try clear c7
      try clear c9
      try clear p10
      try clear q10
      try clear hx10
      try clear c19
      try clear c23
      try clear c23b0
      try clear c24
      try clear c26
      try clear c26b0
      try clear c29
      try clear c33
      try clear c33b0
      try clear c33b1
      try clear Z11_0 Z11_1 Z11_10 Z11_2 Z11_3 Z11_4 Z11_5 Z11_6 Z11_7 Z11_8 Z11_9
      try clear Z13_0 Z13_1 Z13_10 Z13_2 Z13_3 Z13_4 Z13_5 Z13_6 Z13_7 Z13_8 Z13_9
      try clear Z15_0 Z15_1 Z15_10 Z15_2 Z15_3 Z15_4 Z15_5 Z15_6 Z15_7 Z15_8 Z15_9
      try clear Z16_0 Z16_1 Z16_10 Z16_2 Z16_3 Z16_4 Z16_5 Z16_6 Z16_7 Z16_8 Z16_9
      try clear Z18_0 Z18_1 Z18_10 Z18_2 Z18_3 Z18_4 Z18_5 Z18_6 Z18_7 Z18_8 Z18_9
      try clear Z20_0 Z20_1 Z20_10 Z20_2 Z20_3 Z20_4 Z20_5 Z20_6 Z20_7 Z20_8 Z20_9
      try clear Z22_0 Z22_1 Z22_10 Z22_2 Z22_3 Z22_4 Z22_5 Z22_6 Z22_7 Z22_8 Z22_9
      try clear Z25_0 Z25_1 Z25_10 Z25_2 Z25_3 Z25_4 Z25_5 Z25_6 Z25_7 Z25_8 Z25_9
      try clear Z28_0 Z28_1 Z28_10 Z28_2 Z28_3 Z28_4 Z28_5 Z28_6 Z28_7 Z28_8 Z28_9
      try clear Z30_0 Z30_1 Z30_10 Z30_2 Z30_3 Z30_4 Z30_5 Z30_6 Z30_7 Z30_8 Z30_9
      try clear Z32_0 Z32_1 Z32_10 Z32_2 Z32_3 Z32_4 Z32_5 Z32_6 Z32_7 Z32_8 Z32_9
      try clear Z34_0 Z34_1 Z34_10 Z34_2 Z34_3 Z34_4 Z34_5 Z34_6 Z34_7 Z34_8 Z34_9
      try clear Z35_0 Z35_1 Z35_10 Z35_2 Z35_3 Z35_4 Z35_5 Z35_6 Z35_7 Z35_8 Z35_9
      try clear F11
      try clear F13
      try clear F15
      try clear F16
      try clear F18
      try clear F20
      try clear F22
      try clear F25
      try clear F28
      try clear F30
      try clear F32
      try clear F34
      try clear F35
      try clear hx106_0
      try clear p106
      try clear p2
      try clear q106
      obtain ⟨kq, x55_30, rfl, HA, HJ30, K101, HB⟩ := hcut
      cases kq with
      | zero => exact absurd HA.out (by simp [qf_.j2])
      | succ kj30 =>
       have H := HA.out; clear HA; simp only [qf_.j2] at H; by_cases c36 : x55_30 = true
       ·subst c36; rw [if_pos rfl] at H; obtain rfl := oi_ H; go_wp2
        repeat (go_quiet (fail); try go_wp2)
        go_ret
        exact ⟨z3_, hs_⟩
       replace c36 := Bool.eq_false_iff.mpr c36; subst c36; rw [if_neg nft_] at H; have H' := qa_.mk H; clear H; go_wp2
       repeat (go_quiet (fail); try go_wp2)
       go_loopg [5] kj30 (fun kq v5 w' => ∃ (x5_4 : Int), v5 = .int .i64 x5_4 ∧ qa_ (qf_.l1 kq x5_4 a0_0 l0_1 a0_2 a0_3 a0_4 a0_5 a0_6 a0_7 a0_8 a0_9 a0_10 = some r) ∧ qa_ (kq ≤ kj30) ∧ qa_ (w'.heap[g101]? = some (.cells #[.string a0_0, (.slice A0_1 l0_1.length c0_1), .string a0_2, .string a0_3, .int .i64 a0_4, .int .i64 a0_5, .string a0_6, .string a0_7, .int .i64 a0_8, .int .i64 a0_9, .string a0_10] 26 (0, 0))) ∧ qa_ (Below w.heap.size w w'))
       case atStart => exact ⟨(0), z1_, H', ⟨Nat.le_refl _⟩, ⟨bk_ K101.out⟩, ⟨hs_⟩⟩
       case round =>
        clear H'; try clear c1
        try clear p1
        try clear q1
        try clear hx1
        try clear c2
        try clear p2
        try clear c3
        try clear c5
        try clear p6
        try clear c7
        try clear c9
        try clear p10
        try clear q10
        try clear hx10
        try clear c19
        try clear c23
        try clear c23b0
        try clear c24
        try clear c26
        try clear c26b0
        try clear c29
        try clear c33
        try clear c33b0
        try clear c33b1
        try clear c36
        try clear Z11_0 Z11_1 Z11_10 Z11_2 Z11_3 Z11_4 Z11_5 Z11_6 Z11_7 Z11_8 Z11_9
        try clear Z13_0 Z13_1 Z13_10 Z13_2 Z13_3 Z13_4 Z13_5 Z13_6 Z13_7 Z13_8 Z13_9
        try clear Z15_0 Z15_1 Z15_10 Z15_2 Z15_3 Z15_4 Z15_5 Z15_6 Z15_7 Z15_8 Z15_9
        try clear Z16_0 Z16_1 Z16_10 Z16_2 Z16_3 Z16_4 Z16_5 Z16_6 Z16_7 Z16_8 Z16_9
        try clear Z18_0 Z18_1 Z18_10 Z18_2 Z18_3 Z18_4 Z18_5 Z18_6 Z18_7 Z18_8 Z18_9
        try clear Z20_0 Z20_1 Z20_10 Z20_2 Z20_3 Z20_4 Z20_5 Z20_6 Z20_7 Z20_8 Z20_9
        try clear Z22_0 Z22_1 Z22_10 Z22_2 Z22_3 Z22_4 Z22_5 Z22_6 Z22_7 Z22_8 Z22_9
        try clear Z25_0 Z25_1 Z25_10 Z25_2 Z25_3 Z25_4 Z25_5 Z25_6 Z25_7 Z25_8 Z25_9
        try clear Z28_0 Z28_1 Z28_10 Z28_2 Z28_3 Z28_4 Z28_5 Z28_6 Z28_7 Z28_8 Z28_9
        try clear Z30_0 Z30_1 Z30_10 Z30_2 Z30_3 Z30_4 Z30_5 Z30_6 Z30_7 Z30_8 Z30_9
        try clear Z32_0 Z32_1 Z32_10 Z32_2 Z32_3 Z32_4 Z32_5 Z32_6 Z32_7 Z32_8 Z32_9
        try clear Z34_0 Z34_1 Z34_10 Z34_2 Z34_3 Z34_4 Z34_5 Z34_6 Z34_7 Z34_8 Z34_9
        try clear Z35_0 Z35_1 Z35_10 Z35_2 Z35_3 Z35_4 Z35_5 Z35_6 Z35_7 Z35_8 Z35_9
        try clear F11
        try clear F13
        try clear F15
        try clear F16
        try clear F18
        try clear F20
        try clear F22
        try clear F25
        try clear F28
        try clear F30
        try clear F32
        try clear F34
        try clear F35
        try clear hx106_0
        try clear p1
        try clear p10
        try clear p106
        try clear p2
        try clear p6
        try clear q1
        try clear q10
        try clear q106
        obtain ⟨x5_4, rfl, HA, HK4, K101, HB⟩ := hrel
        cases gk with
        | zero => exact absurd HA.out (by simp [qf_.l1])
        | succ k4 =>
         have H := HA.out; clear HA; simp only [qf_.l1] at H; by_cases c37 : x5_4 < (l0_1.length : Int); rotate_left
         ·rw [if_neg c37] at H; have c37b0 := df_ c37; clear c37; obtain rfl := oi_ H; obtain ⟨Z47_0, Z47_1, Z47_2, Z47_3, Z47_4, Z47_5, Z47_6, Z47_7, Z47_8, Z47_9, Z47_10, F47⟩ := bc11 K101.out; go_wp2
          repeat (go_quiet (fail); try go_wp2)
          go_ret
          exact ⟨z3_, hs_⟩
         rw [if_pos c37] at H; have c37b0 := dt_ c37; clear c37; have H' := qa_.mk H; clear H; obtain ⟨Z38_0, Z38_1, Z38_2, Z38_3, Z38_4, Z38_5, Z38_6, Z38_7, Z38_8, Z38_9, Z38_10, F38⟩ := bc11 K101.out; go_wp2
         repeat (go_quiet (fail); try go_wp2)
         go_loopg [6] k4 (fun kq v6 w' => ∃ (x6_5 : Int), v6 = .int .i64 x6_5 ∧ qa_ (qf_.l2 kq x5_4 x6_5 a0_0 l0_1 a0_2 a0_3 a0_4 a0_5 a0_6 a0_7 a0_8 a0_9 a0_10 = some r) ∧ qa_ (kq ≤ k4) ∧ qa_ (w'.heap[g101]? = some (.cells #[.string a0_0, (.slice A0_1 l0_1.length c0_1), .string a0_2, .string a0_3, .int .i64 a0_4, .int .i64 a0_5, .string a0_6, .string a0_7, .int .i64 a0_8, .int .i64 a0_9, .string a0_10] 26 (0, 0))) ∧ qa_ (Below w.heap.size w w'))
         case atStart => exact ⟨(0), z1_, H', ⟨Nat.le_refl _⟩, ⟨bk_ K101.out⟩, ⟨hs_⟩⟩
         case round =>
          clear H'; try clear c1
          try clear p1
          try clear q1
          try clear hx1
          try clear c2
          try clear p2
          try clear c3
          try clear c5
          try clear p6
          try clear c7
          try clear c9
          try clear p10
          try clear q10
          try clear hx10
          try clear c19
          try clear c23
          try clear c23b0
          try clear c24
          try clear c26
          try clear c26b0
          try clear c29
          try clear c33
          try clear c33b0
          try clear c33b1
          try clear c36
          try clear c37
          try clear c37b0
          try clear Z11_0 Z11_1 Z11_10 Z11_2 Z11_3 Z11_4 Z11_5 Z11_6 Z11_7 Z11_8 Z11_9
          try clear Z13_0 Z13_1 Z13_10 Z13_2 Z13_3 Z13_4 Z13_5 Z13_6 Z13_7 Z13_8 Z13_9
          try clear Z15_0 Z15_1 Z15_10 Z15_2 Z15_3 Z15_4 Z15_5 Z15_6 Z15_7 Z15_8 Z15_9
          try clear Z16_0 Z16_1 Z16_10 Z16_2 Z16_3 Z16_4 Z16_5 Z16_6 Z16_7 Z16_8 Z16_9
          try clear Z18_0 Z18_1 Z18_10 Z18_2 Z18_3 Z18_4 Z18_5 Z18_6 Z18_7 Z18_8 Z18_9
          try clear Z20_0 Z20_1 Z20_10 Z20_2 Z20_3 Z20_4 Z20_5 Z20_6 Z20_7 Z20_8 Z20_9
          try clear Z22_0 Z22_1 Z22_10 Z22_2 Z22_3 Z22_4 Z22_5 Z22_6 Z22_7 Z22_8 Z22_9
          try clear Z25_0 Z25_1 Z25_10 Z25_2 Z25_3 Z25_4 Z25_5 Z25_6 Z25_7 Z25_8 Z25_9
          try clear Z28_0 Z28_1 Z28_10 Z28_2 Z28_3 Z28_4 Z28_5 Z28_6 Z28_7 Z28_8 Z28_9
          try clear Z30_0 Z30_1 Z30_10 Z30_2 Z30_3 Z30_4 Z30_5 Z30_6 Z30_7 Z30_8 Z30_9
          try clear Z32_0 Z32_1 Z32_10 Z32_2 Z32_3 Z32_4 Z32_5 Z32_6 Z32_7 Z32_8 Z32_9
          try clear Z34_0 Z34_1 Z34_10 Z34_2 Z34_3 Z34_4 Z34_5 Z34_6 Z34_7 Z34_8 Z34_9
          try clear Z35_0 Z35_1 Z35_10 Z35_2 Z35_3 Z35_4 Z35_5 Z35_6 Z35_7 Z35_8 Z35_9
          try clear Z38_0 Z38_1 Z38_10 Z38_2 Z38_3 Z38_4 Z38_5 Z38_6 Z38_7 Z38_8 Z38_9
          try clear F11
          try clear F13
          try clear F15
          try clear F16
          try clear F18
          try clear F20
          try clear F22
          try clear F25
          try clear F28
          try clear F30
          try clear F32
          try clear F34
          try clear F35
          try clear F38
          try clear hx106_0
          try clear p1
          try clear p10
          try clear p106
          try clear p2
          try clear p6
          try clear q1
          try clear q10
          try clear q106
          obtain ⟨x6_5, rfl, HA, HK5, K101, HB⟩ := hrel
          cases gk with
          | zero => exact absurd HA.out (by simp [qf_.l2])
          | succ k5 =>
           have H := HA.out; clear HA; simp only [qf_.l2] at H; by_cases c39 : x6_5 < x5_4; rotate_left
           ·rw [if_neg c39] at H; have c39b0 := df_ c39; clear c39; have H' := qa_.mk H; clear H; go_wp2
            repeat (go_quiet (fail); try go_wp2)
            go_roundg k5
            case measure => have := HJ1.out; have := HK2.out; have := HJ30.out; have := HK4.out; have := HK5.out; omega
            case rel => exact ⟨(wrap64 (x5_4 + 1)), z1_, H', ⟨by have := HJ1.out; have := HK2.out; have := HJ30.out; have := HK4.out; have := HK5.out; omega⟩, ⟨bk_ K101.out⟩, ⟨hs_⟩⟩
           rw [if_pos c39] at H; have c39b0 := dt_ c39; clear c39; by_cases c40 : 0 ≤ x5_4; rotate_left
           ·rw [if_neg c40] at H; exact no_ H
           rw [if_pos c40] at H; have c40b0 := dt_ c40; clear c40; by_cases c41 : x5_4 < (l0_1.length : Int); rotate_left
           ·rw [if_neg c41] at H; exact no_ H
           rw [if_pos c41] at H; have c41b0 := dt_ c41; clear c41; by_cases c42 : 0 ≤ x6_5; rotate_left
           ·rw [if_neg c42] at H; exact no_ H
           rw [if_pos c42] at H; have c42b0 := dt_ c42; clear c42; by_cases c43 : x6_5 < (l0_1.length : Int); rotate_left
           ·rw [if_neg c43] at H; exact no_ H
           rw [if_pos c43] at H; have c43b0 := dt_ c43; clear c43; by_cases c44 : (rdOf ByteArray.empty l0_1 x5_4).toList = (rdOf ByteArray.empty l0_1 x6_5).toList
           ·rw [if_pos c44] at H; have c44b0 := et_ c44; have c44b1 := nf_ c44; clear c44; obtain rfl := oi_ H; obtain ⟨Z45_0, Z45_1, Z45_2, Z45_3, Z45_4, Z45_5, Z45_6, Z45_7, Z45_8, Z45_9, Z45_10, F45⟩ := bc11 K101.out; have p108 : 0 ≤ (x5_4 : Int) := y0_; have q108 : x5_4 < (l0_1.length : Int) := y0_; obtain ⟨ad108, e108, hx108_0⟩ := Kd.at_string HR0_1.out x5_4 p108 q108
            cases e108
            replace hx108_0 := (HB.out.cell (World.block_lt_of_cell? w _ hx108_0)).trans hx108_0; replace p108 := eq_true p108; replace q108 := eq_true q108; have p109 : 0 ≤ (x6_5 : Int) := y0_; have q109 : x6_5 < (l0_1.length : Int) := y0_; obtain ⟨ad109, e109, hx109_0⟩ := Kd.at_string HR0_1.out x6_5 p109 q109; obtain rfl : ad108 = ad109 := (by injection e109); replace hx109_0 := (HB.out.cell (World.block_lt_of_cell? w _ hx109_0)).trans hx109_0; replace p109 := eq_true p109; replace q109 := eq_true q109; go_wp2
            repeat (go_quiet (fail); try go_wp2)
            go_ret
            exact ⟨z3_, hs_⟩
           rw [if_neg c44] at H; have c44b0 := ef_ c44; have c44b1 := nt_ c44; have H' := qa_.mk H; clear H; obtain ⟨Z46_0, Z46_1, Z46_2, Z46_3, Z46_4, Z46_5, Z46_6, Z46_7, Z46_8, Z46_9, Z46_10, F46⟩ := bc11 K101.out; have p108 : 0 ≤ (x5_4 : Int) := y0_; have q108 : x5_4 < (l0_1.length : Int) := y0_; obtain ⟨ad108, e108, hx108_0⟩ := Kd.at_string HR0_1.out x5_4 p108 q108
           cases e108
           replace hx108_0 := (HB.out.cell (World.block_lt_of_cell? w _ hx108_0)).trans hx108_0; replace p108 := eq_true p108; replace q108 := eq_true q108; have p109 : 0 ≤ (x6_5 : Int) := y0_; have q109 : x6_5 < (l0_1.length : Int) := y0_; obtain ⟨ad109, e109, hx109_0⟩ := Kd.at_string HR0_1.out x6_5 p109 q109; obtain rfl : ad108 = ad109 := (by injection e109); replace hx109_0 := (HB.out.cell (World.block_lt_of_cell? w _ hx109_0)).trans hx109_0; replace p109 := eq_true p109; replace q109 := eq_true q109; go_wp2
           repeat (go_quiet (fail); try go_wp2)
           go_roundg k5
           case measure => have := HJ1.out; have := HK2.out; have := HJ30.out; have := HK4.out; have := HK5.out; omega
           case rel => exact ⟨(wrap64 (x6_5 + 1)), z1_, H', ⟨by have := HJ1.out; have := HK2.out; have := HJ30.out; have := HK4.out; have := HK5.out; omega⟩, ⟨bk_ K101.out⟩, ⟨hs_⟩⟩
mutual
def qad_.j0 : Nat → ByteArray → Bool → Option (Bool)
 | 0, _, _ => none
 | k + 1, x0, x21 => if x21 = true then (some false) else (qad_.l0 k x0 0)
def qad_.l0 : Nat → ByteArray → Int → Option (Bool)
 | 0, _, _ => none
 | k + 1, x0, x3 => if x3 < (x0.size : Int) then (if 0 ≤ x3 then (if (bt x0 x3) < 48 then (some false) else (if (bt x0 x3) > 57 then (some false) else (qad_.l0 k x0 (wrap64 (x3 + 1))))) else (none)) else (some true)
end
def qad_.f (k : Nat) (a0 : ByteArray) : Option (Bool) := if (a0.size : Int) < 1 then (qad_.j0 k a0 true) else (if (a0.size : Int) > 18 then (qad_.j0 k a0 true) else (if (a0.size : Int) > 1 then (if 0 < (a0.size : Int) then (qad_.j0 k a0 ((bt a0 0) == 48)) else (none)) else (qad_.j0 k a0 false)))
theorem qad_.calls (k : Nat) (a0 : ByteArray) (r : Bool) (w : World) (h : qad_.f k a0 = some r) :
  Calls Tryz.prog 88 #[.string a0] w fun e w' => e = .returned (.bool r) ∧ Drawn0 w w' := by
 unfold qad_.f at h; have H := h; clear h; have HC2 := qa_.mk H; clear H; go_enter func88, ntmps88; go_upto_region 1 with (fail)
 go_cut [21] (fun v21 wc => ∃ (kq : Nat) (x21_1 : Bool), v21 = .bool x21_1 ∧ qa_ (qad_.j0 kq a0 x21_1 = some r) ∧ qa_ (kq ≤ k) ∧ Drawn0 w wc)
 case first =>
  have H := HC2.out; clear HC2; by_cases c3 : (a0.size : Int) < 1
  ·rw [if_pos c3] at H; have c3b0 := dt_ c3; have c3b1 : decide (a0.size < 1) = true := decide_eq_true (by omega); clear c3; (first | rw [c3b0] | (simp only [i64_w, i32_w]; rw [c3b0]) | skip); have H' := qa_.mk H; clear H; go_wp2
   go_meet
   case rel => exact ⟨_, (true), z1_, H', ⟨z4_⟩, z2_⟩
  rw [if_neg c3] at H; have c3b0 := df_ c3; have c3b1 : decide (a0.size < 1) = false := decide_eq_false (by omega); clear c3; (first | rw [c3b0] | (simp only [i64_w, i32_w]; rw [c3b0]) | skip); by_cases c4 : (a0.size : Int) > 18
  ·rw [if_pos c4] at H; have c4b0 := dt_ c4; have c4b1 : decide (18 < a0.size) = true := decide_eq_true (by omega); clear c4; have H' := qa_.mk H; clear H; go_wp2
   go_meet
   case rel => exact ⟨_, (true), z1_, H', ⟨z4_⟩, z2_⟩
  rw [if_neg c4] at H; have c4b0 := df_ c4; have c4b1 : decide (18 < a0.size) = false := decide_eq_false (by omega); clear c4; by_cases c5 : (a0.size : Int) > 1; rotate_left
  ·rw [if_neg c5] at H; have c5b0 := df_ c5; have c5b1 : decide (1 < a0.size) = false := decide_eq_false (by omega); clear c5; have H' := qa_.mk H; clear H; go_wp2
   go_meet
   case rel => exact ⟨_, (false), z1_, H', ⟨z4_⟩, z2_⟩
  rw [if_pos c5] at H; have c5b0 := dt_ c5; have c5b1 : decide (1 < a0.size) = true := decide_eq_true (by omega); clear c5; by_cases c6 : 0 < (a0.size : Int); rotate_left
  ·rw [if_neg c6] at H; exact no_ H
  rw [if_pos c6] at H; have c6b0 := dt_ c6; have c6b1 : decide (0 < a0.size) = true := decide_eq_true (by omega); clear c6; have H' := qa_.mk H; clear H; have p7 : 0 ≤ (0 : Int) := (by omega); have q7 : 0 < a0.size := (by have : (0 : Int) < (a0.size : Int) := y0_; omega)
  have hx7 : ∀ h : 0 < a0.size, ((a0[0]'h).toNat : Int) = bt a0 0 := bt_at a0 0; clear p7; have qi7 : (0 < (a0.size : Int)) = True := eq_true (y0_); replace q7 := eq_true q7; go_wp2
  go_meet
  case rel => exact ⟨_, (((bt a0 0) == 48)), z1_, H', ⟨z4_⟩, z2_⟩
 case rest =>
  clear HC2; try clear p2
  try clear c3
  try clear c3b0
  try clear c3b1
  try clear c4
  try clear c4b0
  try clear c4b1
  try clear c5
  try clear c5b0
  try clear c5b1
  try clear c6
  try clear c6b0
  try clear c6b1
  try clear p7
  try clear q7
  try clear hx7
  try clear qi7
  try clear p7
  try clear q7
  obtain ⟨kq, x21_1, rfl, HA, HJ1, ⟨mc1, rfl⟩⟩ := hcut
  cases kq with
  | zero => exact absurd HA.out (by simp [qad_.j0])
  | succ kj1 =>
   have H := HA.out; clear HA; simp only [qad_.j0] at H; by_cases c8 : x21_1 = true
   ·subst c8; rw [if_pos rfl] at H; obtain rfl := oi_ H; go_wp2
    go_ret
    exact ⟨z1_, z2_⟩
   replace c8 := Bool.eq_false_iff.mpr c8; subst c8; rw [if_neg nft_] at H; have H' := qa_.mk H; clear H; go_wp2
   go_loopg [3] kj1 (fun kq v3 w' => ∃ (x3_2 : Int), v3 = .int .i64 x3_2 ∧ qa_ (qad_.l0 kq a0 x3_2 = some r) ∧ qa_ (kq ≤ kj1) ∧ Drawn0 w w')
   case atStart => exact ⟨(0), z1_, H', ⟨Nat.le_refl _⟩, z2_⟩
   case round =>
    clear H'; try clear c1
    try clear p2
    try clear c3
    try clear c3b0
    try clear c3b1
    try clear c4
    try clear c4b0
    try clear c4b1
    try clear c5
    try clear c5b0
    try clear c5b1
    try clear c6
    try clear c6b0
    try clear c6b1
    try clear p7
    try clear q7
    try clear hx7
    try clear qi7
    try clear c8
    try clear p2
    try clear p7
    try clear q7
    obtain ⟨x3_2, rfl, HA, HK2, ⟨m2, rfl⟩⟩ := hrel
    cases gk with
    | zero => exact absurd HA.out (by simp [qad_.l0])
    | succ k2 =>
     have H := HA.out; clear HA; simp only [qad_.l0] at H; by_cases c9 : x3_2 < (a0.size : Int); rotate_left
     ·rw [if_neg c9] at H; have c9b0 := df_ c9; clear c9; obtain rfl := oi_ H; go_wp2
      go_ret
      exact ⟨z1_, z2_⟩
     rw [if_pos c9] at H; have c9b0 := dt_ c9; clear c9; by_cases c10 : 0 ≤ x3_2; rotate_left
     ·rw [if_neg c10] at H; exact no_ H
     rw [if_pos c10] at H; have c10b0 := dt_ c10; clear c10; by_cases c12 : (bt a0 x3_2) < 48
     ·rw [if_pos c12] at H; have c12b0 := dt_ c12; clear c12; obtain rfl := oi_ H; have p11 : 0 ≤ (x3_2 : Int) := y0_; have q11 : x3_2 < (a0.size : Int) := y0_; have hx11 := bt_at a0 x3_2; replace p11 := eq_true p11; replace q11 := eq_true q11; go_wp2
      go_ret
      exact ⟨z1_, z2_⟩
     rw [if_neg c12] at H; have c12b0 := df_ c12; clear c12; by_cases c14 : (bt a0 x3_2) > 57
     ·rw [if_pos c14] at H; have c14b0 := dt_ c14; clear c14; obtain rfl := oi_ H; have p11 : 0 ≤ (x3_2 : Int) := y0_; have q11 : x3_2 < (a0.size : Int) := y0_; have hx11 := bt_at a0 x3_2; replace p11 := eq_true p11; replace q11 := eq_true q11; have p13 : 0 ≤ (x3_2 : Int) := y0_; have q13 : x3_2 < (a0.size : Int) := y0_; have hx13 := bt_at a0 x3_2; replace p13 := eq_true p13; replace q13 := eq_true q13; go_wp2
      go_ret
      exact ⟨z1_, z2_⟩
     rw [if_neg c14] at H; have c14b0 := df_ c14; clear c14; have H' := qa_.mk H; clear H; have p11 : 0 ≤ (x3_2 : Int) := y0_; have q11 : x3_2 < (a0.size : Int) := y0_; have hx11 := bt_at a0 x3_2; replace p11 := eq_true p11; replace q11 := eq_true q11; have p13 : 0 ≤ (x3_2 : Int) := y0_; have q13 : x3_2 < (a0.size : Int) := y0_; have hx13 := bt_at a0 x3_2; replace p13 := eq_true p13; replace q13 := eq_true q13; go_wp2
     go_roundg k2
     case measure => have := HJ1.out; have := HK2.out; omega
     case rel => exact ⟨(wrap64 (x3_2 + 1)), z1_, H', ⟨by have := HJ1.out; have := HK2.out; omega⟩, z2_⟩
def qaz_.l0 : Nat → ByteArray → Int → Int → Option (Int)
 | 0, _, _, _ => none
 | k + 1, x0, x3, x4 => if x4 < (x0.size : Int) then (if 0 ≤ x4 then (qaz_.l0 k x0 (wrap64 ((wrap64 ((wrap64 (10 * x3)) + (wrap64 (bt x0 x4)))) - 48)) (wrap64 (x4 + 1))) else (none)) else (some x3)
def qaz_.f (k : Nat) (a0 : ByteArray) : Option (Int) := qaz_.l0 k a0 0 0
theorem qaz_.calls (k : Nat) (a0 : ByteArray) (r : Int) (w : World) (h : qaz_.f k a0 = some r) :
  Calls Tryz.prog 89 #[.string a0] w fun e w' => e = .returned (.int .i64 r) ∧ Drawn0 w w' := by
 unfold qaz_.f at h; have H := h; clear h; have H' := qa_.mk H; clear H; go_enter func89, ntmps89; go_wp2
 go_loopg [3, 4] k (fun kq v3 v4 w' => ∃ (x3_1 : Int) (x4_1 : Int), v3 = .int .i64 x3_1 ∧ v4 = .int .i64 x4_1 ∧ qa_ (qaz_.l0 kq a0 x3_1 x4_1 = some r) ∧ qa_ (kq ≤ k) ∧ Drawn0 w w')
 case atStart => exact ⟨(0), (0), z1_, z1_, H', ⟨Nat.le_refl _⟩, z2_⟩
 case round =>
  clear H'; obtain ⟨x3_1, x4_1, rfl, rfl, HA, HK1, ⟨m1, rfl⟩⟩ := hrel
  cases gk with
  | zero => exact absurd HA.out (by simp [qaz_.l0])
  | succ k1 =>
   have H := HA.out; clear HA; simp only [qaz_.l0] at H; by_cases c2 : x4_1 < (a0.size : Int); rotate_left
   ·rw [if_neg c2] at H; have c2b0 := df_ c2; clear c2; obtain rfl := oi_ H; go_wp2
    go_ret
    exact ⟨z1_, z2_⟩
   rw [if_pos c2] at H; have c2b0 := dt_ c2; clear c2; by_cases c3 : 0 ≤ x4_1; rotate_left
   ·rw [if_neg c3] at H; exact no_ H
   rw [if_pos c3] at H; have c3b0 := dt_ c3; clear c3; have H' := qa_.mk H; clear H; have p4 : 0 ≤ (x4_1 : Int) := y0_; have q4 : x4_1 < (a0.size : Int) := y0_; have hx4 := bt_at a0 x4_1; replace p4 := eq_true p4; replace q4 := eq_true q4; go_wp2
   go_roundg k1
   case measure => have := HK1.out; omega
   case rel => exact ⟨(wrap64 ((wrap64 ((wrap64 (10 * x3_1)) + (wrap64 (bt a0 x4_1)))) - 48)), (wrap64 (x4_1 + 1)), z1_, z1_, H', ⟨by have := HK1.out; omega⟩, z2_⟩
mutual
def qas_.j0 : Nat → ByteArray → Bool → Option (Int × Bool)
 | 0, _, _ => none
 | k + 1, x0, x23 => if x23 = true then (some (0, false)) else (qas_.l0 k x0 1)
def qas_.l0 : Nat → ByteArray → Int → Option (Int × Bool)
 | 0, _, _ => none
 | k + 1, x0, x4 => if x4 < 5 then (if 0 ≤ x4 then (if x4 < (x0.size : Int) then (if (bt x0 x4) < 48 then (some (0, false)) else (if (bt x0 x4) > 57 then (some (0, false)) else (qas_.l0 k x0 (wrap64 (x4 + 1))))) else (none)) else (none)) else (if 3 ≤ (x0.size : Int) then ((qaz_.f k (x0.extract 3 x0.size)).bind fun t163 => (if t163 ≥ 60 then (some (0, false)) else (if 1 ≤ 3 then ((qaz_.f k (x0.extract 1 3)).bind fun t164 => (if 0 < (x0.size : Int) then (if (bt x0 0) = 45 then (some (wrap64 (-(wrap64 ((wrap64 (60 * t164)) + t163))), true)) else (some (wrap64 ((wrap64 (60 * t164)) + t163), true))) else (none))) else (none)))) else (none))
end
def qas_.f (k : Nat) (a0 : ByteArray) : Option (Int × Bool) := if (a0.size : Int) = 5 then (if 0 < (a0.size : Int) then (if (bt a0 0) = 43 then (qas_.j0 k a0 (a0.toList == ([45, 48, 48, 48, 48] : List UInt8))) else (if (bt a0 0) = 45 then (qas_.j0 k a0 (a0.toList == ([45, 48, 48, 48, 48] : List UInt8))) else (qas_.j0 k a0 true))) else (none)) else (qas_.j0 k a0 true)
theorem qas_.calls (k : Nat) (a0 : ByteArray) (r1 : Int) (r2 : Bool) (w : World) (h : qas_.f k a0 = some (r1, r2)) :
  Calls Tryz.prog 87 #[.string a0] w fun e w' => e = .returned (.tuple #[.int .i64 r1, .bool r2]) ∧ Drawn0 w w' := by
 unfold qas_.f at h; have H := h; clear h; have HC2 := qa_.mk H; clear H; go_enter func87, ntmps87; go_upto_region 1 with (fail)
 go_cut [23] (fun v23 wc => ∃ (kq : Nat) (x23_1 : Bool), v23 = .bool x23_1 ∧ qa_ (qas_.j0 kq a0 x23_1 = some (r1, r2)) ∧ qa_ (kq ≤ k) ∧ Drawn0 w wc)
 case first =>
  have H := HC2.out; clear HC2; by_cases c3 : (a0.size : Int) = 5; rotate_left
  ·rw [if_neg c3] at H; have c3b0 := ef_ c3; have c3b1 := nt_ c3; (first | rw [c3b0] | (simp only [i64_w, i32_w]; rw [c3b0]) | skip); have H' := qa_.mk H; clear H; go_wp2
   go_meet
   case rel => exact ⟨_, (true), z1_, H', ⟨z4_⟩, z2_⟩
  rw [if_pos c3] at H; have c3b0 := et_ c3; have c3b1 := nf_ c3; clear c3; (first | rw [c3b0] | (simp only [i64_w, i32_w]; rw [c3b0]) | skip); by_cases c4 : 0 < (a0.size : Int); rotate_left
  ·rw [if_neg c4] at H; exact no_ H
  rw [if_pos c4] at H; have c4b0 := dt_ c4; have c4b1 : decide (0 < a0.size) = true := decide_eq_true (by omega); clear c4; by_cases c6 : (bt a0 0) = 43
  ·rw [if_pos c6] at H; have c6b0 := et_ c6; have c6b1 := nf_ c6; clear c6; have H' := qa_.mk H; clear H; have p5 : 0 ≤ (0 : Int) := (by omega); have q5 : 0 < a0.size := (by have : (0 : Int) < (a0.size : Int) := y0_; omega)
   have hx5 : ∀ h : 0 < a0.size, ((a0[0]'h).toNat : Int) = bt a0 0 := bt_at a0 0; clear p5; have qi5 : (0 < (a0.size : Int)) = True := eq_true (y0_); replace q5 := eq_true q5; go_wp2
   go_meet
   case rel => exact ⟨_, ((a0.toList == ([45, 48, 48, 48, 48] : List UInt8))), z1_, H', ⟨z4_⟩, z2_⟩
  rw [if_neg c6] at H; have c6b0 := ef_ c6; have c6b1 := nt_ c6; by_cases c8 : (bt a0 0) = 45; rotate_left
  ·rw [if_neg c8] at H; have c8b0 := ef_ c8; have c8b1 := nt_ c8; have H' := qa_.mk H; clear H; have p5 : 0 ≤ (0 : Int) := (by omega); have q5 : 0 < a0.size := (by have : (0 : Int) < (a0.size : Int) := y0_; omega)
   have hx5 : ∀ h : 0 < a0.size, ((a0[0]'h).toNat : Int) = bt a0 0 := bt_at a0 0; clear p5; have qi5 : (0 < (a0.size : Int)) = True := eq_true (y0_); replace q5 := eq_true q5; have p7 : 0 ≤ (0 : Int) := (by omega); have q7 : 0 < a0.size := (by have : (0 : Int) < (a0.size : Int) := y0_; omega)
   have hx7 : ∀ h : 0 < a0.size, ((a0[0]'h).toNat : Int) = bt a0 0 := bt_at a0 0; clear p7; have qi7 : (0 < (a0.size : Int)) = True := eq_true (y0_); replace q7 := eq_true q7; go_wp2
   go_meet
   case rel => exact ⟨_, (true), z1_, H', ⟨z4_⟩, z2_⟩
  rw [if_pos c8] at H; have c8b0 := et_ c8; have c8b1 := nf_ c8; clear c8; have H' := qa_.mk H; clear H; have p5 : 0 ≤ (0 : Int) := (by omega); have q5 : 0 < a0.size := (by have : (0 : Int) < (a0.size : Int) := y0_; omega)
  have hx5 : ∀ h : 0 < a0.size, ((a0[0]'h).toNat : Int) = bt a0 0 := bt_at a0 0; clear p5; have qi5 : (0 < (a0.size : Int)) = True := eq_true (y0_); replace q5 := eq_true q5; have p7 : 0 ≤ (0 : Int) := (by omega); have q7 : 0 < a0.size := (by have : (0 : Int) < (a0.size : Int) := y0_; omega)
  have hx7 : ∀ h : 0 < a0.size, ((a0[0]'h).toNat : Int) = bt a0 0 := bt_at a0 0; clear p7; have qi7 : (0 < (a0.size : Int)) = True := eq_true (y0_); replace q7 := eq_true q7; go_wp2
  go_meet
  case rel => exact ⟨_, ((a0.toList == ([45, 48, 48, 48, 48] : List UInt8))), z1_, H', ⟨z4_⟩, z2_⟩
 case rest =>
  clear HC2; try clear p2
  try clear c3
  try clear c3b0
  try clear c3b1
  try clear c4
  try clear c4b0
  try clear c4b1
  try clear p5
  try clear q5
  try clear hx5
  try clear qi5
  try clear c6
  try clear c6b0
  try clear c6b1
  try clear p7
  try clear q7
  try clear hx7
  try clear qi7
  try clear c8
  try clear c8b0
  try clear c8b1
  try clear p5
  try clear p7
  try clear q5
  try clear q7
  obtain ⟨kq, x23_1, rfl, HA, HJ1, ⟨mc1, rfl⟩⟩ := hcut
  cases kq with
  | zero => exact absurd HA.out (by simp [qas_.j0])
  | succ kj1 =>
   have H := HA.out; clear HA; simp only [qas_.j0] at H; by_cases c9 : x23_1 = true
   ·subst c9; rw [if_pos rfl] at H; obtain ⟨rfl, rfl⟩ := pj2_ H; go_wp2
    go_ret2
    exact ⟨z1_, z2_⟩
   replace c9 := Bool.eq_false_iff.mpr c9; subst c9; rw [if_neg nft_] at H; have H' := qa_.mk H; clear H; go_wp2
   go_loopg [4] kj1 (fun kq v4 w' => ∃ (x4_2 : Int), v4 = .int .i64 x4_2 ∧ qa_ (qas_.l0 kq a0 x4_2 = some (r1, r2)) ∧ qa_ (kq ≤ kj1) ∧ Drawn0 w w')
   case atStart => exact ⟨(1), z1_, H', ⟨Nat.le_refl _⟩, z2_⟩
   case round =>
    clear H'; try clear c1
    try clear p2
    try clear c3
    try clear c3b0
    try clear c3b1
    try clear c4
    try clear c4b0
    try clear c4b1
    try clear p5
    try clear q5
    try clear hx5
    try clear qi5
    try clear c6
    try clear c6b0
    try clear c6b1
    try clear p7
    try clear q7
    try clear hx7
    try clear qi7
    try clear c8
    try clear c8b0
    try clear c8b1
    try clear c9
    try clear p2
    try clear p5
    try clear p7
    try clear q5
    try clear q7
    obtain ⟨x4_2, rfl, HA, HK2, ⟨m2, rfl⟩⟩ := hrel
    cases gk with
    | zero => exact absurd HA.out (by simp [qas_.l0])
    | succ k2 =>
     have H := HA.out; clear HA; simp only [qas_.l0] at H; by_cases c10 : x4_2 < 5
     ·rw [if_pos c10] at H; have c10b0 := dt_ c10; clear c10; by_cases c11 : 0 ≤ x4_2; rotate_left
      ·rw [if_neg c11] at H; exact no_ H
      rw [if_pos c11] at H; have c11b0 := dt_ c11; clear c11; by_cases c12 : x4_2 < (a0.size : Int); rotate_left
      ·rw [if_neg c12] at H; exact no_ H
      rw [if_pos c12] at H; have c12b0 := dt_ c12; clear c12; by_cases c14 : (bt a0 x4_2) < 48
      ·rw [if_pos c14] at H; have c14b0 := dt_ c14; clear c14; obtain ⟨rfl, rfl⟩ := pj2_ H; have p13 : 0 ≤ (x4_2 : Int) := y0_; have q13 : x4_2 < (a0.size : Int) := y0_; have hx13 := bt_at a0 x4_2; replace p13 := eq_true p13; replace q13 := eq_true q13; go_wp2
       go_ret2
       exact ⟨z1_, z2_⟩
      rw [if_neg c14] at H; have c14b0 := df_ c14; clear c14; by_cases c16 : (bt a0 x4_2) > 57
      ·rw [if_pos c16] at H; have c16b0 := dt_ c16; clear c16; obtain ⟨rfl, rfl⟩ := pj2_ H; have p13 : 0 ≤ (x4_2 : Int) := y0_; have q13 : x4_2 < (a0.size : Int) := y0_; have hx13 := bt_at a0 x4_2; replace p13 := eq_true p13; replace q13 := eq_true q13; have p15 : 0 ≤ (x4_2 : Int) := y0_; have q15 : x4_2 < (a0.size : Int) := y0_; have hx15 := bt_at a0 x4_2; replace p15 := eq_true p15; replace q15 := eq_true q15; go_wp2
       go_ret2
       exact ⟨z1_, z2_⟩
      rw [if_neg c16] at H; have c16b0 := df_ c16; clear c16; have H' := qa_.mk H; clear H; have p13 : 0 ≤ (x4_2 : Int) := y0_; have q13 : x4_2 < (a0.size : Int) := y0_; have hx13 := bt_at a0 x4_2; replace p13 := eq_true p13; replace q13 := eq_true q13; have p15 : 0 ≤ (x4_2 : Int) := y0_; have q15 : x4_2 < (a0.size : Int) := y0_; have hx15 := bt_at a0 x4_2; replace p15 := eq_true p15; replace q15 := eq_true q15; go_wp2
      go_roundg k2
      case measure => have := HJ1.out; have := HK2.out; omega
      case rel => exact ⟨(wrap64 (x4_2 + 1)), z1_, H', ⟨by have := HJ1.out; have := HK2.out; omega⟩, z2_⟩
     rw [if_neg c10] at H; have c10b0 := df_ c10; clear c10; by_cases c17 : 3 ≤ (a0.size : Int); rotate_left
     ·rw [if_neg c17] at H; exact no_ H
     rw [if_pos c17] at H; have c17b0 := eq_true c17; have c17b1 := dt_ c17; clear c17; obtain ⟨t163, A18, H⟩ := bx_ H; by_cases c19 : t163 ≥ 60
     ·rw [if_pos c19] at H; have c19b0 := dt_ c19; clear c19; obtain ⟨rfl, rfl⟩ := pj2_ H; go_wp2_with (first | ((with_reducible refine qb_ (f := 89) rfl ?_); refine gl_ (some 40) func89 #[.string (a0.extract 3 a0.size)] ?_; refine cm_ (qaz_.calls k2 (a0.extract 3 a0.size) t163 _ A18.out) ?_; rintro w' ⟨nd, rfl⟩)); go_ret2
      exact ⟨z1_, z2_⟩
     rw [if_neg c19] at H; have c19b0 := df_ c19; clear c19; by_cases c20 : 1 ≤ 3; rotate_left
     ·rw [if_neg c20] at H; exact no_ H
     rw [if_pos c20] at H; have c20b0 := eq_true c20; have c20b1 := dt_ c20; clear c20; have c21b0 := eq_true (y0_ : 3 ≤ (a0.size : Int)); obtain ⟨t164, A22, H⟩ := bx_ H; by_cases c23 : 0 < (a0.size : Int); rotate_left
     ·rw [if_neg c23] at H; exact no_ H
     rw [if_pos c23] at H; have c23b0 := dt_ c23; have c23b1 : decide (0 < a0.size) = true := decide_eq_true (by omega); clear c23; by_cases c25 : (bt a0 0) = 45; rotate_left
     ·rw [if_neg c25] at H; have c25b0 := ef_ c25; have c25b1 := nt_ c25; obtain ⟨rfl, rfl⟩ := pj2_ H; have tk15_ : True := trivial; have tk16_ : True := trivial; go_wp2_with (first | (have _t := tk15_; (with_reducible refine qb_ (f := 89) rfl ?_); refine gl_ (some 40) func89 #[.string (a0.extract 3 a0.size)] ?_; refine cm_ (qaz_.calls k2 (a0.extract 3 a0.size) t163 _ A18.out) ?_; rintro w' ⟨nd, rfl⟩; clear tk15_) | (have _t := tk16_; (with_reducible refine qb_ (f := 89) rfl ?_); refine gl_ (some 45) func89 #[.string (a0.extract 1 3)] ?_; refine cm_ (qaz_.calls k2 (a0.extract 1 3) t164 _ A22.out) ?_; rintro w' ⟨nd, rfl⟩; have p24 : 0 ≤ (0 : Int) := (by omega); have q24 : 0 < a0.size := (by have : (0 : Int) < (a0.size : Int) := y0_; omega); have hx24 : ∀ h : 0 < a0.size, ((a0[0]'h).toNat : Int) = bt a0 0 := bt_at a0 0; clear p24; have qi24 : (0 < (a0.size : Int)) = True := eq_true (y0_); replace q24 := eq_true q24; clear tk16_)); go_ret2
      exact ⟨z1_, z2_⟩
     rw [if_pos c25] at H; have c25b0 := et_ c25; have c25b1 := nf_ c25; clear c25; obtain ⟨rfl, rfl⟩ := pj2_ H; have tk13_ : True := trivial; have tk14_ : True := trivial; go_wp2_with (first | (have _t := tk13_; (with_reducible refine qb_ (f := 89) rfl ?_); refine gl_ (some 40) func89 #[.string (a0.extract 3 a0.size)] ?_; refine cm_ (qaz_.calls k2 (a0.extract 3 a0.size) t163 _ A18.out) ?_; rintro w' ⟨nd, rfl⟩; clear tk13_) | (have _t := tk14_; (with_reducible refine qb_ (f := 89) rfl ?_); refine gl_ (some 45) func89 #[.string (a0.extract 1 3)] ?_; refine cm_ (qaz_.calls k2 (a0.extract 1 3) t164 _ A22.out) ?_; rintro w' ⟨nd, rfl⟩; have p24 : 0 ≤ (0 : Int) := (by omega); have q24 : 0 < a0.size := (by have : (0 : Int) < (a0.size : Int) := y0_; omega); have hx24 : ∀ h : 0 < a0.size, ((a0[0]'h).toNat : Int) = bt a0 0 := bt_at a0 0; clear p24; have qi24 : (0 < (a0.size : Int)) = True := eq_true (y0_); replace q24 := eq_true q24; clear tk14_)); go_ret2
     exact ⟨z1_, z2_⟩
def qi_.j0 : Nat → ByteArray → Int → Int → Int → Bool → ByteArray → ByteArray → Int → Int → Option (ByteArray × ByteArray × Int × Int × Int)
 | 0, _, _, _, _, _, _, _, _, _ => none
 | k + 1, x0, x5, x6, x8, x79, x106000, x106001, x106002, x106003 => if x79 = true then (some ((⟨#[]⟩ : ByteArray), (⟨#[]⟩ : ByteArray), 0, 0, 2)) else (if 0 ≤ (wrap64 (x5 + 2)) then (if (wrap64 (x5 + 2)) ≤ x6 then (if x6 ≤ (x0.size : Int) then ((qaz_.f k (x0.extract ((wrap64 (x5 + 2)) : Int).toNat (x6 : Int).toNat)).bind fun t113 => ((qaq_.f k x106000 x106001 t113 x8).bind fun t114 => (if t114 = true then (some (x106000, x106001, t113, x8, 0)) else (some ((⟨#[]⟩ : ByteArray), (⟨#[]⟩ : ByteArray), 0, 0, 1))))) else (none)) else (none)) else (none))
def qi_.f (k : Nat) (a0 : ByteArray) : Option (ByteArray × ByteArray × Int × Int × Int) := (qg_.f k a0 ⟨#[32, 60]⟩ 0).bind fun t102 => (if t102 < 0 then (some ((⟨#[]⟩ : ByteArray), (⟨#[]⟩ : ByteArray), 0, 0, 2)) else ((qg_.f k a0 ⟨#[62, 32]⟩ t102).bind fun t103 => (if t103 < 0 then (some ((⟨#[]⟩ : ByteArray), (⟨#[]⟩ : ByteArray), 0, 0, 2)) else ((qg_.f k a0 ⟨#[32]⟩ (wrap64 (t103 + 2))).bind fun t104 => (if t104 < 0 then (some ((⟨#[]⟩ : ByteArray), (⟨#[]⟩ : ByteArray), 0, 0, 2)) else (if 0 ≤ t102 then (if t102 ≤ (a0.size : Int) then (if 0 ≤ (wrap64 (t102 + 2)) then (if (wrap64 (t102 + 2)) ≤ t103 then (if t103 ≤ (a0.size : Int) then (if 0 ≤ (wrap64 (t104 + 1)) then (if (wrap64 (t104 + 1)) ≤ (a0.size : Int) then ((qas_.f k (a0.extract ((wrap64 (t104 + 1)) : Int).toNat a0.size)).bind fun bt106 => (if bt106.2 = true then (if 0 ≤ (wrap64 (t103 + 2)) then (if (wrap64 (t103 + 2)) ≤ t104 then (if t104 ≤ (a0.size : Int) then ((qad_.f k (a0.extract ((wrap64 (t103 + 2)) : Int).toNat (t104 : Int).toNat)).bind fun t108 => (if t108 = true then ((qg_.f k (a0.extract 0 (t102 : Int).toNat) ⟨#[60]⟩ 0).bind fun t109 => (if t109 ≥ 0 then (qi_.j0 k a0 t103 t104 bt106.1 true (a0.extract 0 (t102 : Int).toNat) (a0.extract ((wrap64 (t102 + 2)) : Int).toNat (t103 : Int).toNat) 0 0) else ((qg_.f k (a0.extract 0 (t102 : Int).toNat) ⟨#[62]⟩ 0).bind fun t110 => (if t110 ≥ 0 then (qi_.j0 k a0 t103 t104 bt106.1 true (a0.extract 0 (t102 : Int).toNat) (a0.extract ((wrap64 (t102 + 2)) : Int).toNat (t103 : Int).toNat) 0 0) else ((qg_.f k (a0.extract ((wrap64 (t102 + 2)) : Int).toNat (t103 : Int).toNat) ⟨#[60]⟩ 0).bind fun t111 => (if t111 ≥ 0 then (qi_.j0 k a0 t103 t104 bt106.1 true (a0.extract 0 (t102 : Int).toNat) (a0.extract ((wrap64 (t102 + 2)) : Int).toNat (t103 : Int).toNat) 0 0) else ((qg_.f k (a0.extract ((wrap64 (t102 + 2)) : Int).toNat (t103 : Int).toNat) ⟨#[62]⟩ 0).bind fun t112 => (qi_.j0 k a0 t103 t104 bt106.1 (decide (t112 ≥ 0)) (a0.extract 0 (t102 : Int).toNat) (a0.extract ((wrap64 (t102 + 2)) : Int).toNat (t103 : Int).toNat) 0 0)))))))) else (qi_.j0 k a0 t103 t104 bt106.1 true (a0.extract 0 (t102 : Int).toNat) (a0.extract ((wrap64 (t102 + 2)) : Int).toNat (t103 : Int).toNat) 0 0))) else (none)) else (none)) else (none)) else (qi_.j0 k a0 t103 t104 bt106.1 true (a0.extract 0 (t102 : Int).toNat) (a0.extract ((wrap64 (t102 + 2)) : Int).toNat (t103 : Int).toNat) 0 0))) else (none)) else (none)) else (none)) else (none)) else (none)) else (none)) else (none)))))))
def qi_.T10 : Bool × List (List Nat × List Nat) := (true, [([], []), ([], []), ([0, 1], [0, 1]), ([], []), ([], []), ([4], [4]), ([], []), ([3, 5, 6], [3, 5, 6]), ([2, 7], [2, 7]), ([], []), ([9, 8, 0, 1, 2, 3, 4, 5, 6, 7, 8, 9], [8, 9])])
def qi_.B10 : List Nat := [0, 0, 3, 0, 0, 16, 0, 120, 255, 0, 1023]
theorem qi_.tab10 : rtab .any (opsOf Tryz.f30 10) = qi_.T10 := by kernel_rfl
theorem qi_.bits10 : qdu_ qi_.T10.2 qi_.B10 = true := by kernel_rfl
theorem qi_.calls (k : Nat) (a0 : ByteArray) (r1 : ByteArray) (r2 : ByteArray) (r3 : Int) (r4 : Int) (r5 : Int) (w : World) (h : qi_.f k a0 = some (r1, r2, r3, r4, r5)) :
  Calls Tryz.prog 30 #[.string a0] w fun e w' => e = .returned (.tuple #[.agg #[.string r1, .string r2, .int .i64 r3, .int .i64 r4], .int .i64 r5]) ∧ Below w.heap.size w w' := by
 have hu24 := underlying24; have HB := qa_.mk (Below.refl w.heap.size w); unfold qi_.f at h; have H := h; clear h; obtain ⟨t102, A2, H⟩ := bx_ H; by_cases c3 : t102 < 0
 ·rw [if_pos c3] at H; have c3b0 := dt_ c3; clear c3; obtain ⟨rfl, rfl, rfl, rfl, rfl⟩ := pj5_ H; go_enter func30, ntmps30; go_wp2_with (first | ((with_reducible refine qh_ (N := 2) rfl ?_); refine be_ (cs := #[.string ⟨#[]⟩, .string ⟨#[]⟩, .int .i64 0, .int .i64 0]) (t := 24) ?_; intro g101 hg w4 hbox hb; have K101 := qa_.mk (hbox); have W101 := ag_ hg HB; have E101 := ag_ hg HB; replace HB := ah_ HB hb; clear hb hbox hg) | ((with_reducible refine qb_ (f := 86) rfl ?_); refine gl_ (some 11) func86 #[.string a0, .string ⟨#[32, 60]⟩, .int .i64 0] ?_; refine cm_ (qg_.calls k a0 ⟨#[32, 60]⟩ 0 t102 _ A2.out) ?_; rintro w' ⟨nd, rfl⟩; (try (rw [qce_ w4]; generalize hq_ : World.drewN w4 _ = w4; have n0_ : qa_ (w4.heap[g101]? = some (.cells #[.string ⟨#[]⟩, .string ⟨#[]⟩, .int .i64 0, .int .i64 0] 24 (0, 0))) := ⟨by rw [← hq_]; exact (bk_ K101.out)⟩; have n1_ : qa_ (Below w.heap.size w w4) := ⟨by rw [← hq_]; exact (hs_)⟩; clear K101 HB hq_; have K101 := n0_; have HB := n1_; clear n0_ n1_)); obtain ⟨Z5_0, Z5_1, Z5_2, Z5_3, F5⟩ := bc4 K101.out)); refine bodyPost_ret (qcq_ rfl _ _ g101 24 #[.string ⟨#[]⟩, .string ⟨#[]⟩, .int .i64 0, .int .i64 0] (0, 0) _ rfl (by have b_ := K101; exact zb_) underlying24 rfl (by kernel_rfl)) rfl ?_; exact ⟨z3_, hs_⟩
 rw [if_neg c3] at H; have c3b0 := df_ c3; clear c3; obtain ⟨t103, A6, H⟩ := bx_ H; by_cases c7 : t103 < 0
 ·rw [if_pos c7] at H; have c7b0 := dt_ c7; clear c7; obtain ⟨rfl, rfl, rfl, rfl, rfl⟩ := pj5_ H; go_enter func30, ntmps30; have tk1_ : True := trivial; have tk2_ : True := trivial; go_wp2_with (first | ((with_reducible refine qh_ (N := 2) rfl ?_); refine be_ (cs := #[.string ⟨#[]⟩, .string ⟨#[]⟩, .int .i64 0, .int .i64 0]) (t := 24) ?_; intro g101 hg w8 hbox hb; have K101 := qa_.mk (hbox); have W101 := ag_ hg HB; have E101 := ag_ hg HB; replace HB := ah_ HB hb; clear hb hbox hg) | (have _t := tk1_; (with_reducible refine qb_ (f := 86) rfl ?_); refine gl_ (some 11) func86 #[.string a0, .string ⟨#[32, 60]⟩, .int .i64 0] ?_; refine cm_ (qg_.calls k a0 ⟨#[32, 60]⟩ 0 t102 _ A2.out) ?_; rintro w' ⟨nd, rfl⟩; (try (rw [qce_ w8]; generalize hq_ : World.drewN w8 _ = w8; have n0_ : qa_ (w8.heap[g101]? = some (.cells #[.string ⟨#[]⟩, .string ⟨#[]⟩, .int .i64 0, .int .i64 0] 24 (0, 0))) := ⟨by rw [← hq_]; exact (bk_ K101.out)⟩; have n1_ : qa_ (Below w.heap.size w w8) := ⟨by rw [← hq_]; exact (hs_)⟩; clear K101 HB hq_; have K101 := n0_; have HB := n1_; clear n0_ n1_)); clear tk1_) | (have _t := tk2_; (with_reducible refine qb_ (f := 86) rfl ?_); refine gl_ (some 17) func86 #[.string a0, .string ⟨#[62, 32]⟩, .int .i64 t102] ?_; refine cm_ (qg_.calls k a0 ⟨#[62, 32]⟩ t102 t103 _ A6.out) ?_; rintro w' ⟨nd, rfl⟩; (try (rw [qce_ w8]; generalize hq_ : World.drewN w8 _ = w8; have n0_ : qa_ (w8.heap[g101]? = some (.cells #[.string ⟨#[]⟩, .string ⟨#[]⟩, .int .i64 0, .int .i64 0] 24 (0, 0))) := ⟨by rw [← hq_]; exact (bk_ K101.out)⟩; have n1_ : qa_ (Below w.heap.size w w8) := ⟨by rw [← hq_]; exact (hs_)⟩; clear K101 HB hq_; have K101 := n0_; have HB := n1_; clear n0_ n1_)); obtain ⟨Z9_0, Z9_1, Z9_2, Z9_3, F9⟩ := bc4 K101.out; clear tk2_)); refine bodyPost_ret (qcq_ rfl _ _ g101 24 #[.string ⟨#[]⟩, .string ⟨#[]⟩, .int .i64 0, .int .i64 0] (0, 0) _ rfl (by have b_ := K101; exact zb_) underlying24 rfl (by kernel_rfl)) rfl ?_; exact ⟨z3_, hs_⟩
 rw [if_neg c7] at H; have c7b0 := df_ c7; clear c7; obtain ⟨t104, A10, H⟩ := bx_ H; by_cases c11 : t104 < 0
 ·rw [if_pos c11] at H; have c11b0 := dt_ c11; clear c11; obtain ⟨rfl, rfl, rfl, rfl, rfl⟩ := pj5_ H; go_enter func30, ntmps30; have tk3_ : True := trivial; have tk4_ : True := trivial; have tk5_ : True := trivial; go_wp2_with (first | ((with_reducible refine qh_ (N := 2) rfl ?_); refine be_ (cs := #[.string ⟨#[]⟩, .string ⟨#[]⟩, .int .i64 0, .int .i64 0]) (t := 24) ?_; intro g101 hg w12 hbox hb; have K101 := qa_.mk (hbox); have W101 := ag_ hg HB; have E101 := ag_ hg HB; replace HB := ah_ HB hb; clear hb hbox hg) | (have _t := tk3_; (with_reducible refine qb_ (f := 86) rfl ?_); refine gl_ (some 11) func86 #[.string a0, .string ⟨#[32, 60]⟩, .int .i64 0] ?_; refine cm_ (qg_.calls k a0 ⟨#[32, 60]⟩ 0 t102 _ A2.out) ?_; rintro w' ⟨nd, rfl⟩; (try (rw [qce_ w12]; generalize hq_ : World.drewN w12 _ = w12; have n0_ : qa_ (w12.heap[g101]? = some (.cells #[.string ⟨#[]⟩, .string ⟨#[]⟩, .int .i64 0, .int .i64 0] 24 (0, 0))) := ⟨by rw [← hq_]; exact (bk_ K101.out)⟩; have n1_ : qa_ (Below w.heap.size w w12) := ⟨by rw [← hq_]; exact (hs_)⟩; clear K101 HB hq_; have K101 := n0_; have HB := n1_; clear n0_ n1_)); clear tk3_) | (have _t := tk4_; (with_reducible refine qb_ (f := 86) rfl ?_); refine gl_ (some 17) func86 #[.string a0, .string ⟨#[62, 32]⟩, .int .i64 t102] ?_; refine cm_ (qg_.calls k a0 ⟨#[62, 32]⟩ t102 t103 _ A6.out) ?_; rintro w' ⟨nd, rfl⟩; (try (rw [qce_ w12]; generalize hq_ : World.drewN w12 _ = w12; have n0_ : qa_ (w12.heap[g101]? = some (.cells #[.string ⟨#[]⟩, .string ⟨#[]⟩, .int .i64 0, .int .i64 0] 24 (0, 0))) := ⟨by rw [← hq_]; exact (bk_ K101.out)⟩; have n1_ : qa_ (Below w.heap.size w w12) := ⟨by rw [← hq_]; exact (hs_)⟩; clear K101 HB hq_; have K101 := n0_; have HB := n1_; clear n0_ n1_)); clear tk4_) | (have _t := tk5_; (with_reducible refine qb_ (f := 86) rfl ?_); refine gl_ (some 24) func86 #[.string a0, .string ⟨#[32]⟩, .int .i64 (wrap64 (t103 + 2))] ?_; refine cm_ (qg_.calls k a0 ⟨#[32]⟩ (wrap64 (t103 + 2)) t104 _ A10.out) ?_; rintro w' ⟨nd, rfl⟩; (try (rw [qce_ w12]; generalize hq_ : World.drewN w12 _ = w12; have n0_ : qa_ (w12.heap[g101]? = some (.cells #[.string ⟨#[]⟩, .string ⟨#[]⟩, .int .i64 0, .int .i64 0] 24 (0, 0))) := ⟨by rw [← hq_]; exact (bk_ K101.out)⟩; have n1_ : qa_ (Below w.heap.size w w12) := ⟨by rw [← hq_]; exact (hs_)⟩; clear K101 HB hq_; have K101 := n0_; have HB := n1_; clear n0_ n1_)); obtain ⟨Z13_0, Z13_1, Z13_2, Z13_3, F13⟩ := bc4 K101.out; clear tk5_)); refine bodyPost_ret (qcq_ rfl _ _ g101 24 #[.string ⟨#[]⟩, .string ⟨#[]⟩, .int .i64 0, .int .i64 0] (0, 0) _ rfl (by have b_ := K101; exact zb_) underlying24 rfl (by kernel_rfl)) rfl ?_; exact ⟨z3_, hs_⟩
 rw [if_neg c11] at H; have c11b0 := df_ c11; clear c11; by_cases c14 : 0 ≤ t102; rotate_left
 ·rw [if_neg c14] at H; exact no_ H
 rw [if_pos c14] at H; have c14b0 := eq_true c14; have c14b1 := dt_ c14; clear c14; by_cases c15 : t102 ≤ (a0.size : Int); rotate_left
 ·rw [if_neg c15] at H; exact no_ H
 rw [if_pos c15] at H; have c15b0 := eq_true c15; have c15b1 := dt_ c15; clear c15; obtain ⟨ji16, hji16⟩ : ∃ j_ : Int, (wrap64 (t102 + 2)) = j_ := ⟨_, rfl⟩; replace H : (if 0 ≤ (ji16) then (if (ji16) ≤ t103 then (if t103 ≤ (a0.size : Int) then (if 0 ≤ (wrap64 (t104 + 1)) then (if (wrap64 (t104 + 1)) ≤ (a0.size : Int) then ((qas_.f k (a0.extract ((wrap64 (t104 + 1)) : Int).toNat a0.size)).bind fun bt106 => (if bt106.2 = true then (if 0 ≤ (wrap64 (t103 + 2)) then (if (wrap64 (t103 + 2)) ≤ t104 then (if t104 ≤ (a0.size : Int) then ((qad_.f k (a0.extract ((wrap64 (t103 + 2)) : Int).toNat (t104 : Int).toNat)).bind fun t108 => (if t108 = true then ((qg_.f k (a0.extract 0 (t102 : Int).toNat) ⟨#[60]⟩ 0).bind fun t109 => (if t109 ≥ 0 then (qi_.j0 k a0 t103 t104 bt106.1 true (a0.extract 0 (t102 : Int).toNat) (a0.extract ((ji16) : Int).toNat (t103 : Int).toNat) 0 0) else ((qg_.f k (a0.extract 0 (t102 : Int).toNat) ⟨#[62]⟩ 0).bind fun t110 => (if t110 ≥ 0 then (qi_.j0 k a0 t103 t104 bt106.1 true (a0.extract 0 (t102 : Int).toNat) (a0.extract ((ji16) : Int).toNat (t103 : Int).toNat) 0 0) else ((qg_.f k (a0.extract ((ji16) : Int).toNat (t103 : Int).toNat) ⟨#[60]⟩ 0).bind fun t111 => (if t111 ≥ 0 then (qi_.j0 k a0 t103 t104 bt106.1 true (a0.extract 0 (t102 : Int).toNat) (a0.extract ((ji16) : Int).toNat (t103 : Int).toNat) 0 0) else ((qg_.f k (a0.extract ((ji16) : Int).toNat (t103 : Int).toNat) ⟨#[62]⟩ 0).bind fun t112 => (qi_.j0 k a0 t103 t104 bt106.1 (decide (t112 ≥ 0)) (a0.extract 0 (t102 : Int).toNat) (a0.extract ((ji16) : Int).toNat (t103 : Int).toNat) 0 0)))))))) else (qi_.j0 k a0 t103 t104 bt106.1 true (a0.extract 0 (t102 : Int).toNat) (a0.extract ((ji16) : Int).toNat (t103 : Int).toNat) 0 0))) else (none)) else (none)) else (none)) else (qi_.j0 k a0 t103 t104 bt106.1 true (a0.extract 0 (t102 : Int).toNat) (a0.extract ((ji16) : Int).toNat (t103 : Int).toNat) 0 0))) else (none)) else (none)) else (none)) else (none)) else (none)) = some (r1, r2, r3, r4, r5) := by first | (rw [hji16] at H; exact H) | (simp only [hji16] at H ⊢; exact H)
 (try rw [hji16] at A2)
 (try rw [hji16] at A6)
 (try rw [hji16] at A10)
 have hji16w : (IntKind.i64.wrap (t102 + 2)) = ji16 := (i64_w _).trans hji16; by_cases c17 : 0 ≤ (ji16); rotate_left
 ·rw [if_neg c17] at H; exact no_ H
 rw [if_pos c17] at H; have c17b0 := eq_true c17; have c17b1 := dt_ c17; clear c17; by_cases c18 : (ji16) ≤ t103; rotate_left
 ·rw [if_neg c18] at H; exact no_ H
 rw [if_pos c18] at H; have c18b0 := eq_true c18; have c18b1 := dt_ c18; clear c18; by_cases c19 : t103 ≤ (a0.size : Int); rotate_left
 ·rw [if_neg c19] at H; exact no_ H
 rw [if_pos c19] at H; have c19b0 := eq_true c19; have c19b1 := dt_ c19; clear c19; obtain ⟨ji20, hji20⟩ : ∃ j_ : Int, (wrap64 (t104 + 1)) = j_ := ⟨_, rfl⟩; replace H : (if 0 ≤ (ji20) then (if (ji20) ≤ (a0.size : Int) then ((qas_.f k (a0.extract ((ji20) : Int).toNat a0.size)).bind fun bt106 => (if bt106.2 = true then (if 0 ≤ (wrap64 (t103 + 2)) then (if (wrap64 (t103 + 2)) ≤ t104 then (if t104 ≤ (a0.size : Int) then ((qad_.f k (a0.extract ((wrap64 (t103 + 2)) : Int).toNat (t104 : Int).toNat)).bind fun t108 => (if t108 = true then ((qg_.f k (a0.extract 0 (t102 : Int).toNat) ⟨#[60]⟩ 0).bind fun t109 => (if t109 ≥ 0 then (qi_.j0 k a0 t103 t104 bt106.1 true (a0.extract 0 (t102 : Int).toNat) (a0.extract ((ji16) : Int).toNat (t103 : Int).toNat) 0 0) else ((qg_.f k (a0.extract 0 (t102 : Int).toNat) ⟨#[62]⟩ 0).bind fun t110 => (if t110 ≥ 0 then (qi_.j0 k a0 t103 t104 bt106.1 true (a0.extract 0 (t102 : Int).toNat) (a0.extract ((ji16) : Int).toNat (t103 : Int).toNat) 0 0) else ((qg_.f k (a0.extract ((ji16) : Int).toNat (t103 : Int).toNat) ⟨#[60]⟩ 0).bind fun t111 => (if t111 ≥ 0 then (qi_.j0 k a0 t103 t104 bt106.1 true (a0.extract 0 (t102 : Int).toNat) (a0.extract ((ji16) : Int).toNat (t103 : Int).toNat) 0 0) else ((qg_.f k (a0.extract ((ji16) : Int).toNat (t103 : Int).toNat) ⟨#[62]⟩ 0).bind fun t112 => (qi_.j0 k a0 t103 t104 bt106.1 (decide (t112 ≥ 0)) (a0.extract 0 (t102 : Int).toNat) (a0.extract ((ji16) : Int).toNat (t103 : Int).toNat) 0 0)))))))) else (qi_.j0 k a0 t103 t104 bt106.1 true (a0.extract 0 (t102 : Int).toNat) (a0.extract ((ji16) : Int).toNat (t103 : Int).toNat) 0 0))) else (none)) else (none)) else (none)) else (qi_.j0 k a0 t103 t104 bt106.1 true (a0.extract 0 (t102 : Int).toNat) (a0.extract ((ji16) : Int).toNat (t103 : Int).toNat) 0 0))) else (none)) else (none)) = some (r1, r2, r3, r4, r5) := by first | (rw [hji20] at H; exact H) | (simp only [hji20] at H ⊢; exact H)
 (try rw [hji20] at A2)
 (try rw [hji20] at A6)
 (try rw [hji20] at A10)
 have hji20w : (IntKind.i64.wrap (t104 + 1)) = ji20 := (i64_w _).trans hji20; by_cases c21 : 0 ≤ (ji20); rotate_left
 ·rw [if_neg c21] at H; exact no_ H
 rw [if_pos c21] at H; have c21b0 := eq_true c21; have c21b1 := dt_ c21; clear c21; by_cases c22 : (ji20) ≤ (a0.size : Int); rotate_left
 ·rw [if_neg c22] at H; exact no_ H
 rw [if_pos c22] at H; have c22b0 := eq_true c22; have c22b1 := dt_ c22; clear c22; obtain ⟨⟨t106, t107⟩, A23, H⟩ := bx_ H; dsimp only at H; have HC24 := qa_.mk H; clear H; go_enter func30, ntmps30; try go_wp2_with (first | ((with_reducible refine qh_ (N := 2) rfl ?_); refine be_ (cs := #[.string ⟨#[]⟩, .string ⟨#[]⟩, .int .i64 0, .int .i64 0]) (t := 24) ?_; intro g101 hg w25 hbox hb; have K101 := qa_.mk (hbox); have W101 := ag_ hg HB; have E101 := ag_ hg HB; replace HB := ah_ HB hb; clear hb hbox hg) | ((with_reducible refine qb_ (f := 86) rfl ?_); refine gl_ (some 11) func86 #[.string a0, .string ⟨#[32, 60]⟩, .int .i64 0] ?_; refine cm_ (qg_.calls k a0 ⟨#[32, 60]⟩ 0 t102 _ A2.out) ?_; rintro w' ⟨nd, rfl⟩; (try (rw [qce_ w25]; generalize hq_ : World.drewN w25 _ = w25; have n0_ : qa_ (w25.heap[g101]? = some (.cells #[.string ⟨#[]⟩, .string ⟨#[]⟩, .int .i64 0, .int .i64 0] 24 (0, 0))) := ⟨by rw [← hq_]; exact (bk_ K101.out)⟩; have n1_ : qa_ (Below w.heap.size w w25) := ⟨by rw [← hq_]; exact (hs_)⟩; clear K101 HB hq_; have K101 := n0_; have HB := n1_; clear n0_ n1_))) | ((with_reducible refine qb_ (f := 86) rfl ?_); refine gl_ (some 17) func86 #[.string a0, .string ⟨#[62, 32]⟩, .int .i64 t102] ?_; refine cm_ (qg_.calls k a0 ⟨#[62, 32]⟩ t102 t103 _ A6.out) ?_; rintro w' ⟨nd, rfl⟩; (try (rw [qce_ w25]; generalize hq_ : World.drewN w25 _ = w25; have n0_ : qa_ (w25.heap[g101]? = some (.cells #[.string ⟨#[]⟩, .string ⟨#[]⟩, .int .i64 0, .int .i64 0] 24 (0, 0))) := ⟨by rw [← hq_]; exact (bk_ K101.out)⟩; have n1_ : qa_ (Below w.heap.size w w25) := ⟨by rw [← hq_]; exact (hs_)⟩; clear K101 HB hq_; have K101 := n0_; have HB := n1_; clear n0_ n1_))) | ((with_reducible refine qb_ (f := 86) rfl ?_); refine gl_ (some 24) func86 #[.string a0, .string ⟨#[32]⟩, .int .i64 (wrap64 (t103 + 2))] ?_; refine cm_ (qg_.calls k a0 ⟨#[32]⟩ (wrap64 (t103 + 2)) t104 _ A10.out) ?_; rintro w' ⟨nd, rfl⟩; (try (rw [qce_ w25]; generalize hq_ : World.drewN w25 _ = w25; have n0_ : qa_ (w25.heap[g101]? = some (.cells #[.string ⟨#[]⟩, .string ⟨#[]⟩, .int .i64 0, .int .i64 0] 24 (0, 0))) := ⟨by rw [← hq_]; exact (bk_ K101.out)⟩; have n1_ : qa_ (Below w.heap.size w w25) := ⟨by rw [← hq_]; exact (hs_)⟩; clear K101 HB hq_; have K101 := n0_; have HB := n1_; clear n0_ n1_)))); replace K101 := ad_ K101; replace HB := hd_ HB; refine qdm_ (n := 11) (S := fun w' => True) (ds := []) (bs 11 0) (by kernel_rfl) rfl rfl trivial (fun qn_ => ?_); refine qdg_ qi_.tab10 qi_.bits10 (fun HT_ HW_ => ?_); generalize w25.drew = w26 at K101 HB qn_ ⊢; refine pun_ 0 28 11 1 ?_; refine pun_ 1 29 11 3 ?_; refine pun_ 2 30 11 7 ?_; refine pun_ 3 31 11 15 ?_; refine pun_ 4 32 11 31 ?_; refine pun_ 5 33 11 63 ?_; refine pun_ 6 34 11 127 ?_; refine pun_ 7 35 11 255 ?_; refine pun_ 8 36 11 511 ?_; refine on_ 9 7 11 1023 (fun K hK => ?_)
 refine box_step ?hg (N := 7) ?hd (cs := #[.string ⟨#[]⟩, .string ⟨#[]⟩, .int .i64 0, .int .i64 0]) (t := 24) ?hr ?_; (case hd => rfl); (case hg => rfl); (case hr => first | (go_simp; done) | (go_simp; rfl))
 intro g105 hg w27 hbox hb; have K105 := qa_.mk (hbox); have W105 := qa_.mk ((by rw [hg]; exact (qj_ (hs_)) : w.heap.size ≤ g105)); have E105 := qa_.mk ((by rw [hg]; exact (qj_ (hs_)) : w.heap.size ≤ g105)); replace HB := hr_ hb; have N101_105 := qa_.mk (nl2_ hg K101.out); have N105_101 := qa_.mk (ng2_ hg K101.out); replace K101 := ab_ K101 hb; clear hb hbox hg; refine hK.out _ _ trivial (fun qn_ => ?_); clear hK K; refine nrm_ 7 ?_
 refine one_ (i := 10) (N := none) (bs 11 2047) rfl rfl (one_of HT_.out (by kernel_rfl)) (by decide) (fun K hK => ?_); have hs28 : w27.cell? ⟨g105, 0, none⟩ = some (.string ⟨#[]⟩) := (qc_ K105.out 0).trans rfl; have hfs28 := qp_ K105.out 0; have hns28_0 := N101_105.out; have hms28_0 := N105_101.out; have hs29 : w27.cell? ⟨g105, 1, none⟩ = some (.string ⟨#[]⟩) := (qc_ K105.out 1).trans rfl; have hfs29 := qp_ K105.out 1; have hns29_0 := N101_105.out; have hms29_0 := N105_101.out; have hs30 : w27.cell? ⟨g105, 2, none⟩ = some (.int .i64 0) := (qc_ K105.out 2).trans rfl; have hfs30 := qp_ K105.out 2; have hns30_0 := N101_105.out; have hms30_0 := N105_101.out; have hs31 : w27.cell? ⟨g105, 3, none⟩ = some (.int .i64 0) := (qc_ K105.out 3).trans rfl; have hfs31 := qp_ K105.out 3; have hns31_0 := N101_105.out; have hms31_0 := N105_101.out; refine skip_ (w1 := ?_) (by rfl) rfl ?_ ?_; rotate_left
 ·go_simp
  rfl
 refine hK.out _ _ trivial (fun qn_ => ?_); clear hK K; refine dn_ ?_; go_upto_region 12 with (first | ((with_reducible refine qb_ (f := 87) rfl ?_); refine goesL_ (some 42) rfl rfl func87 (by kernel_rfl) rfl #[.string (a0.extract ((ji20) : Int).toNat a0.size)] rfl (by (try simp only [List.map_toArray, List.map_cons, List.map_nil]); first | done | (simp only [hji20]; rfl) | rfl | (simp only [List.length_drop, List.length_take]; rfl)) ?_; refine cm_ (qas_.calls k (a0.extract ((ji20) : Int).toNat a0.size) t106 t107 _ A23.out) ?_; rintro w' ⟨nd, rfl⟩)); (try simp only [Act.put, List.setIfInBounds_toArray, List.set_cons_zero, List.set_cons_succ])
 go_cut [79] (fun v79 wc => ∃ (kq : Nat) (x79_23 : Bool), v79 = .bool x79_23 ∧ qa_ (qi_.j0 kq a0 t103 t104 t106 x79_23 (a0.extract 0 (t102 : Int).toNat) (a0.extract ((ji16) : Int).toNat (t103 : Int).toNat) 0 0 = some (r1, r2, r3, r4, r5)) ∧ qa_ (kq ≤ k) ∧ qa_ (wc.heap[g101]? = some (.cells #[.string ⟨#[]⟩, .string ⟨#[]⟩, .int .i64 0, .int .i64 0] 24 (0, 0))) ∧ qa_ (wc.heap[g105]? = some (.cells #[.string (a0.extract 0 (t102 : Int).toNat), .string (a0.extract ((ji16) : Int).toNat (t103 : Int).toNat), .int .i64 0, .int .i64 0] 24 (0, 0))) ∧ qa_ (Below w.heap.size w wc))
 case first =>
  have H := HC24.out; clear HC24; by_cases c32 : t107 = true; rotate_left
  ·replace c32 := Bool.eq_false_iff.mpr c32; subst c32; rw [if_neg nft_] at H; have H' := qa_.mk H; clear H; go_wp2
   (try subst hji20)
   go_meet
   case rel => exact ⟨_, (true), z1_, H', ⟨z4_⟩, ⟨by have b_ := K101; have f_ := N101_105; exact zb_⟩, ⟨by have b_ := K105; exact zb_⟩, ⟨hs_⟩⟩
  subst c32; rw [if_pos rfl] at H; obtain ⟨ji33, hji33⟩ : ∃ j_ : Int, (wrap64 (t103 + 2)) = j_ := ⟨_, rfl⟩; replace H : (if 0 ≤ (ji33) then (if (ji33) ≤ t104 then (if t104 ≤ (a0.size : Int) then ((qad_.f k (a0.extract ((ji33) : Int).toNat (t104 : Int).toNat)).bind fun t108 => (if t108 = true then ((qg_.f k (a0.extract 0 (t102 : Int).toNat) ⟨#[60]⟩ 0).bind fun t109 => (if t109 ≥ 0 then (qi_.j0 k a0 t103 t104 t106 true (a0.extract 0 (t102 : Int).toNat) (a0.extract ((ji16) : Int).toNat (t103 : Int).toNat) 0 0) else ((qg_.f k (a0.extract 0 (t102 : Int).toNat) ⟨#[62]⟩ 0).bind fun t110 => (if t110 ≥ 0 then (qi_.j0 k a0 t103 t104 t106 true (a0.extract 0 (t102 : Int).toNat) (a0.extract ((ji16) : Int).toNat (t103 : Int).toNat) 0 0) else ((qg_.f k (a0.extract ((ji16) : Int).toNat (t103 : Int).toNat) ⟨#[60]⟩ 0).bind fun t111 => (if t111 ≥ 0 then (qi_.j0 k a0 t103 t104 t106 true (a0.extract 0 (t102 : Int).toNat) (a0.extract ((ji16) : Int).toNat (t103 : Int).toNat) 0 0) else ((qg_.f k (a0.extract ((ji16) : Int).toNat (t103 : Int).toNat) ⟨#[62]⟩ 0).bind fun t112 => (qi_.j0 k a0 t103 t104 t106 (decide (t112 ≥ 0)) (a0.extract 0 (t102 : Int).toNat) (a0.extract ((ji16) : Int).toNat (t103 : Int).toNat) 0 0)))))))) else (qi_.j0 k a0 t103 t104 t106 true (a0.extract 0 (t102 : Int).toNat) (a0.extract ((ji16) : Int).toNat (t103 : Int).toNat) 0 0))) else (none)) else (none)) else (none)) = some (r1, r2, r3, r4, r5) := by first | (rw [hji33] at H; exact H) | (simp only [hji33] at H ⊢; exact H)
  have hji33w : (IntKind.i64.wrap (t103 + 2)) = ji33 := (i64_w _).trans hji33; by_cases c34 : 0 ≤ (ji33); rotate_left
  ·rw [if_neg c34] at H; exact no_ H
  rw [if_pos c34] at H; have c34b0 := eq_true c34; have c34b1 := dt_ c34; clear c34; by_cases c35 : (ji33) ≤ t104; rotate_left
  ·rw [if_neg c35] at H; exact no_ H
  rw [if_pos c35] at H; have c35b0 := eq_true c35; have c35b1 := dt_ c35; clear c35; by_cases c36 : t104 ≤ (a0.size : Int); rotate_left
  ·rw [if_neg c36] at H; exact no_ H
  rw [if_pos c36] at H; have c36b0 := eq_true c36; have c36b1 := dt_ c36; clear c36; obtain ⟨t108, A37, H⟩ := bx_ H; by_cases c38 : t108 = true; rotate_left
  ·replace c38 := Bool.eq_false_iff.mpr c38; subst c38; rw [if_neg nft_] at H; have H' := qa_.mk H; clear H; go_wp2_with (first | (go_at_call 88; (with_reducible refine (qad_.calls k (a0.extract ((ji33) : Int).toNat (t104 : Int).toNat) false _ A37.out).mono ?_); rintro e w' ⟨rfl, ⟨nd, rfl⟩⟩)); (try subst hji33)
   (try subst hji20)
   go_meet
   case rel => exact ⟨_, (true), z1_, H', ⟨z4_⟩, ⟨by have b_ := K101; have f_ := N101_105; exact zb_⟩, ⟨by have b_ := K105; exact zb_⟩, ⟨hs_⟩⟩
  subst c38; rw [if_pos rfl] at H; obtain ⟨t109, A39, H⟩ := bx_ H; by_cases c40 : t109 ≥ 0
  ·rw [if_pos c40] at H; have c40b0 := dt_ c40; clear c40; (first | rw [c40b0] | (simp only [i64_w, i32_w]; rw [c40b0]) | skip); have H' := qa_.mk H; clear H; go_wp2_with (first | (go_at_call 88; (with_reducible refine (qad_.calls k (a0.extract ((ji33) : Int).toNat (t104 : Int).toNat) true _ A37.out).mono ?_); rintro e w' ⟨rfl, ⟨nd, rfl⟩⟩; have hnb41 := N105_101.out; have hnc41 := N101_105.out; obtain ⟨Z42_0, Z42_1, Z42_2, Z42_3, F42⟩ := bc4 K105.out) | (go_at_call 86; (with_reducible refine (qg_.calls k (a0.extract 0 (t102 : Int).toNat) ⟨#[60]⟩ 0 t109 _ A39.out).mono ?_); rintro e w' ⟨rfl, ⟨nd, rfl⟩⟩)); (try subst hji33)
   (try subst hji20)
   go_meet
   case rel => exact ⟨_, (true), z1_, H', ⟨z4_⟩, ⟨by have b_ := K101; have f_ := N101_105; exact zb_⟩, ⟨by have b_ := K105; exact zb_⟩, ⟨hs_⟩⟩
  rw [if_neg c40] at H; have c40b0 := df_ c40; clear c40; (first | rw [c40b0] | (simp only [i64_w, i32_w]; rw [c40b0]) | skip); obtain ⟨t110, A43, H⟩ := bx_ H; by_cases c44 : t110 ≥ 0
  ·rw [if_pos c44] at H; have c44b0 := dt_ c44; clear c44; have H' := qa_.mk H; clear H; have tk6_ : True := trivial; have tk7_ : True := trivial; go_wp2_with (first | (go_at_call 88; (with_reducible refine (qad_.calls k (a0.extract ((ji33) : Int).toNat (t104 : Int).toNat) true _ A37.out).mono ?_); rintro e w' ⟨rfl, ⟨nd, rfl⟩⟩; have hnb45 := N105_101.out; have hnc45 := N101_105.out; obtain ⟨Z46_0, Z46_1, Z46_2, Z46_3, F46⟩ := bc4 K105.out) | (go_at_call 86; have _t := tk6_; (with_reducible refine (qg_.calls k (a0.extract 0 (t102 : Int).toNat) ⟨#[60]⟩ 0 t109 _ A39.out).mono ?_); rintro e w' ⟨rfl, ⟨nd, rfl⟩⟩; clear tk6_) | (go_at_call 86; have _t := tk7_; (with_reducible refine (qg_.calls k (a0.extract 0 (t102 : Int).toNat) ⟨#[62]⟩ 0 t110 _ A43.out).mono ?_); rintro e w' ⟨rfl, ⟨nd, rfl⟩⟩; clear tk7_)); (try subst hji33)
   (try subst hji20)
   go_meet
   case rel => exact ⟨_, (true), z1_, H', ⟨z4_⟩, ⟨by have b_ := K101; have f_ := N101_105; exact zb_⟩, ⟨by have b_ := K105; exact zb_⟩, ⟨hs_⟩⟩
  rw [if_neg c44] at H; have c44b0 := df_ c44; clear c44; obtain ⟨t111, A47, H⟩ := bx_ H; by_cases c48 : t111 ≥ 0
  ·rw [if_pos c48] at H; have c48b0 := dt_ c48; clear c48; have H' := qa_.mk H; clear H; have tk8_ : True := trivial; have tk9_ : True := trivial; have tk10_ : True := trivial; go_wp2_with (first | (go_at_call 88; (with_reducible refine (qad_.calls k (a0.extract ((ji33) : Int).toNat (t104 : Int).toNat) true _ A37.out).mono ?_); rintro e w' ⟨rfl, ⟨nd, rfl⟩⟩; have hnb49 := N105_101.out; have hnc49 := N101_105.out; obtain ⟨Z50_0, Z50_1, Z50_2, Z50_3, F50⟩ := bc4 K105.out) | (go_at_call 86; have _t := tk8_; (with_reducible refine (qg_.calls k (a0.extract 0 (t102 : Int).toNat) ⟨#[60]⟩ 0 t109 _ A39.out).mono ?_); rintro e w' ⟨rfl, ⟨nd, rfl⟩⟩; clear tk8_) | (go_at_call 86; have _t := tk9_; (with_reducible refine (qg_.calls k (a0.extract 0 (t102 : Int).toNat) ⟨#[62]⟩ 0 t110 _ A43.out).mono ?_); rintro e w' ⟨rfl, ⟨nd, rfl⟩⟩; clear tk9_) | (go_at_call 86; have _t := tk10_; (with_reducible refine (qg_.calls k (a0.extract ((ji16) : Int).toNat (t103 : Int).toNat) ⟨#[60]⟩ 0 t111 _ A47.out).mono ?_); rintro e w' ⟨rfl, ⟨nd, rfl⟩⟩; clear tk10_)); (try subst hji33)
   (try subst hji20)
   go_meet
   case rel => exact ⟨_, (true), z1_, H', ⟨z4_⟩, ⟨by have b_ := K101; have f_ := N101_105; exact zb_⟩, ⟨by have b_ := K105; exact zb_⟩, ⟨hs_⟩⟩
  rw [if_neg c48] at H; have c48b0 := df_ c48; clear c48; obtain ⟨t112, A51, H⟩ := bx_ H; have H' := qa_.mk H; clear H; have tk11_ : True := trivial; have tk12_ : True := trivial; have tk13_ : True := trivial; have tk14_ : True := trivial; go_wp2_with (first | (go_at_call 88; (with_reducible refine (qad_.calls k (a0.extract ((ji33) : Int).toNat (t104 : Int).toNat) true _ A37.out).mono ?_); rintro e w' ⟨rfl, ⟨nd, rfl⟩⟩; have hnb52 := N105_101.out; have hnc52 := N101_105.out; obtain ⟨Z53_0, Z53_1, Z53_2, Z53_3, F53⟩ := bc4 K105.out) | (go_at_call 86; have _t := tk11_; (with_reducible refine (qg_.calls k (a0.extract 0 (t102 : Int).toNat) ⟨#[60]⟩ 0 t109 _ A39.out).mono ?_); rintro e w' ⟨rfl, ⟨nd, rfl⟩⟩; clear tk11_) | (go_at_call 86; have _t := tk12_; (with_reducible refine (qg_.calls k (a0.extract 0 (t102 : Int).toNat) ⟨#[62]⟩ 0 t110 _ A43.out).mono ?_); rintro e w' ⟨rfl, ⟨nd, rfl⟩⟩; clear tk12_) | (go_at_call 86; have _t := tk13_; (with_reducible refine (qg_.calls k (a0.extract ((ji16) : Int).toNat (t103 : Int).toNat) ⟨#[60]⟩ 0 t111 _ A47.out).mono ?_); rintro e w' ⟨rfl, ⟨nd, rfl⟩⟩; clear tk13_) | (go_at_call 86; have _t := tk14_; (with_reducible refine (qg_.calls k (a0.extract ((ji16) : Int).toNat (t103 : Int).toNat) ⟨#[62]⟩ 0 t112 _ A51.out).mono ?_); rintro e w' ⟨rfl, ⟨nd, rfl⟩⟩; clear tk14_)); (try subst hji33)
  (try subst hji20)
  go_meet
  case rel => exact ⟨_, (decide (t112 ≥ 0)), z1_, H', ⟨z4_⟩, ⟨by have b_ := K101; have f_ := N101_105; exact zb_⟩, ⟨by have b_ := K105; exact zb_⟩, ⟨hs_⟩⟩
 case rest =>
  clear HC24; try clear c1
  try clear c2
  try clear p2
  try clear c3
  try clear c3b0
  try clear c4
  try clear c5
  try clear p6
  try clear c7
  try clear c7b0
  try clear c8
  try clear c11
  try clear c11b0
  try clear c14
  try clear c14b0
  try clear c14b1
  try clear c15
  try clear c15b0
  try clear c15b1
  try clear c17
  try clear c17b0
  try clear c17b1
  try clear c18
  try clear c18b0
  try clear c18b1
  try clear c19
  try clear c19b0
  try clear c19b1
  try clear c21
  try clear c21b0
  try clear c21b1
  try clear c22
  try clear c22b0
  try clear c22b1
  try clear c30
  try clear c32
  try clear c34
  try clear c34b0
  try clear c34b1
  try clear c35
  try clear c35b0
  try clear c35b1
  try clear c36
  try clear c36b0
  try clear c36b1
  try clear c38
  try clear c40
  try clear c40b0
  try clear c41
  try clear c44
  try clear c44b0
  try clear c45
  try clear c48
  try clear c48b0
  try clear c49
  try clear c52
  try clear Z13_0 Z13_1 Z13_2 Z13_3
  try clear Z42_0 Z42_1 Z42_2 Z42_3
  try clear Z46_0 Z46_1 Z46_2 Z46_3
  try clear Z50_0 Z50_1 Z50_2 Z50_3
  try clear Z53_0 Z53_1 Z53_2 Z53_3
  try clear Z5_0 Z5_1 Z5_2 Z5_3
  try clear Z9_0 Z9_1 Z9_2 Z9_3
  try clear F13
  try clear F42
  try clear F46
  try clear F50
  try clear F53
  try clear F5
  try clear F9
  obtain ⟨kq, x79_23, rfl, HA, HJ23, K101, K105, HB⟩ := hcut
  cases kq with
  | zero => exact absurd HA.out (by simp [qi_.j0])
  | succ kj23 =>
   have H := HA.out; clear HA; simp only [qi_.j0] at H; by_cases c54 : x79_23 = true
   ·subst c54; rw [if_pos rfl] at H; obtain ⟨rfl, rfl, rfl, rfl, rfl⟩ := pj5_ H; have hnb55 := N101_105.out; have hnc55 := N105_101.out; obtain ⟨Z56_0, Z56_1, Z56_2, Z56_3, F56⟩ := bc4 K101.out; go_wp2
    refine bodyPost_ret (qcq_ rfl _ _ g101 24 #[.string ⟨#[]⟩, .string ⟨#[]⟩, .int .i64 0, .int .i64 0] (0, 0) _ rfl (by have b_ := K101; exact zb_) underlying24 rfl (by kernel_rfl)) rfl ?_; exact ⟨by first | rfl | (simp [qbo_, qbp_] <;> rfl) | (simp only [← hji16, ← hji20]; first | rfl | (simp [qbo_, qbp_] <;> rfl)) | (simp [*, qbo_, qbp_] <;> rfl) | (simp [qby_]; done) | (simp [*, qby_]; done), hs_⟩
   replace c54 := Bool.eq_false_iff.mpr c54; subst c54; rw [if_neg nft_] at H; obtain ⟨ji57, hji57⟩ : ∃ j_ : Int, (wrap64 (t103 + 2)) = j_ := ⟨_, rfl⟩; replace H : (if 0 ≤ (ji57) then (if (ji57) ≤ t104 then (if t104 ≤ (a0.size : Int) then ((qaz_.f kj23 (a0.extract ((ji57) : Int).toNat (t104 : Int).toNat)).bind fun t113 => ((qaq_.f kj23 (a0.extract 0 (t102 : Int).toNat) (a0.extract ((ji16) : Int).toNat (t103 : Int).toNat) t113 t106).bind fun t114 => (if t114 = true then (some ((a0.extract 0 (t102 : Int).toNat), (a0.extract ((ji16) : Int).toNat (t103 : Int).toNat), t113, t106, 0)) else (some ((⟨#[]⟩ : ByteArray), (⟨#[]⟩ : ByteArray), 0, 0, 1))))) else (none)) else (none)) else (none)) = some (r1, r2, r3, r4, r5) := by first | (rw [hji57] at H; exact H) | (simp only [hji57] at H ⊢; exact H)
   have hji57w : (IntKind.i64.wrap (t103 + 2)) = ji57 := (i64_w _).trans hji57; by_cases c58 : 0 ≤ (ji57); rotate_left
   ·rw [if_neg c58] at H; exact no_ H
   rw [if_pos c58] at H; have c58b0 := eq_true c58; have c58b1 := dt_ c58; clear c58; by_cases c59 : (ji57) ≤ t104; rotate_left
   ·rw [if_neg c59] at H; exact no_ H
   rw [if_pos c59] at H; have c59b0 := eq_true c59; have c59b1 := dt_ c59; clear c59; by_cases c60 : t104 ≤ (a0.size : Int); rotate_left
   ·rw [if_neg c60] at H; exact no_ H
   rw [if_pos c60] at H; have c60b0 := eq_true c60; have c60b1 := dt_ c60; clear c60; obtain ⟨t113, A61, H⟩ := bx_ H; obtain ⟨t114, A62, H⟩ := bx_ H; by_cases c63 : t114 = true; rotate_left
   ·replace c63 := Bool.eq_false_iff.mpr c63; subst c63; rw [if_neg nft_] at H; obtain ⟨rfl, rfl, rfl, rfl, rfl⟩ := pj5_ H; go_wp2_with (first | ((with_reducible refine qb_ (f := 89) rfl ?_); refine goesL_ (some 86) rfl rfl func89 (by kernel_rfl) rfl #[.string (a0.extract ((ji57) : Int).toNat (t104 : Int).toNat)] rfl (by (try simp only [List.map_toArray, List.map_cons, List.map_nil]); first | done | (simp only [hji57]; rfl) | rfl | (simp only [List.length_drop, List.length_take]; rfl)) ?_; refine cm_ (qaz_.calls kj23 (a0.extract ((ji57) : Int).toNat (t104 : Int).toNat) t113 _ A61.out) ?_; rintro w' ⟨nd, rfl⟩; (try (rw [qce_ wc]; generalize hq_ : World.drewN wc _ = wc; have n0_ : qa_ (wc.heap[g101]? = some (.cells #[.string ⟨#[]⟩, .string ⟨#[]⟩, .int .i64 0, .int .i64 0] 24 (0, 0))) := ⟨by rw [← hq_]; exact (bk_ K101.out)⟩; have n1_ : qa_ (wc.heap[g105]? = some (.cells #[.string (a0.extract 0 (t102 : Int).toNat), .string (a0.extract ((ji16) : Int).toNat (t103 : Int).toNat), .int .i64 0, .int .i64 0] 24 (0, 0))) := ⟨by rw [← hq_]; exact (bk_ K105.out)⟩; have n2_ : qa_ (Below w.heap.size w wc) := ⟨by rw [← hq_]; exact (hs_)⟩; clear K101 K105 HB hq_; have K101 := n0_; have K105 := n1_; have HB := n2_; clear n0_ n1_ n2_)); have hnb69 := N105_101.out; have hnc69 := N101_105.out; obtain ⟨Z70_0, Z70_1, Z70_2, Z70_3, F70⟩ := bc4 K105.out) | ((with_reducible refine qb_ (f := 32) rfl ?_); refine goesL_ (some 91) rfl rfl func32 (by kernel_rfl) rfl #[.agg #[.string (a0.extract 0 (t102 : Int).toNat), .string (a0.extract ((ji16) : Int).toNat (t103 : Int).toNat), .int .i64 t113, .int .i64 t106]] rfl (by (try simp only [List.map_toArray, List.map_cons, List.map_nil]); first | done | (simp only [hji16]; rfl) | rfl | (simp only [List.length_drop, List.length_take]; rfl)) ?_; refine cm_ (qaq_.calls kj23 (a0.extract 0 (t102 : Int).toNat) (a0.extract ((ji16) : Int).toNat (t103 : Int).toNat) t113 t106 false _ A62.out) fun w71 hb => ?_; replace K101 := qa_.mk (qbk_ (g := g101) (o := .cells #[.string ⟨#[]⟩, .string ⟨#[]⟩, .int .i64 0, .int .i64 0] 24 (0, 0)) (by have b_ := K101; have f_ := N101_105; exact zb_) hb); replace K105 := qa_.mk (qbk_ (g := g105) (o := .cells #[.string (a0.extract 0 (t102 : Int).toNat), .string (a0.extract ((ji16) : Int).toNat (t103 : Int).toNat), .int .i64 t113, .int .i64 t106] 24 (0, 0)) (by have b_ := K105; exact zb_) hb); replace HB := hr_ hb; (try clear hb); (try clear hb2); (try clear hk); (try clear hi); obtain ⟨Z72_0, Z72_1, Z72_2, Z72_3, F72⟩ := bc4 K101.out)); refine bodyPost_ret (qcq_ rfl _ _ g101 24 #[.string ⟨#[]⟩, .string ⟨#[]⟩, .int .i64 0, .int .i64 0] (0, 0) _ rfl (by have b_ := K101; exact zb_) underlying24 rfl (by kernel_rfl)) rfl ?_; exact ⟨by first | rfl | (simp [qbo_, qbp_] <;> rfl) | (simp only [← hji16, ← hji20, ← hji57]; first | rfl | (simp [qbo_, qbp_] <;> rfl)) | (simp [*, qbo_, qbp_] <;> rfl) | (simp [qby_]; done) | (simp [*, qby_]; done), hs_⟩
   subst c63; rw [if_pos rfl] at H; obtain ⟨rfl, rfl, rfl, rfl, rfl⟩ := pj5_ H; go_wp2_with (first | ((with_reducible refine qb_ (f := 89) rfl ?_); refine goesL_ (some 86) rfl rfl func89 (by kernel_rfl) rfl #[.string (a0.extract ((ji57) : Int).toNat (t104 : Int).toNat)] rfl (by (try simp only [List.map_toArray, List.map_cons, List.map_nil]); first | done | (simp only [hji57]; rfl) | rfl | (simp only [List.length_drop, List.length_take]; rfl)) ?_; refine cm_ (qaz_.calls kj23 (a0.extract ((ji57) : Int).toNat (t104 : Int).toNat) t113 _ A61.out) ?_; rintro w' ⟨nd, rfl⟩; (try (rw [qce_ wc]; generalize hq_ : World.drewN wc _ = wc; have n0_ : qa_ (wc.heap[g101]? = some (.cells #[.string ⟨#[]⟩, .string ⟨#[]⟩, .int .i64 0, .int .i64 0] 24 (0, 0))) := ⟨by rw [← hq_]; exact (bk_ K101.out)⟩; have n1_ : qa_ (wc.heap[g105]? = some (.cells #[.string (a0.extract 0 (t102 : Int).toNat), .string (a0.extract ((ji16) : Int).toNat (t103 : Int).toNat), .int .i64 0, .int .i64 0] 24 (0, 0))) := ⟨by rw [← hq_]; exact (bk_ K105.out)⟩; have n2_ : qa_ (Below w.heap.size w wc) := ⟨by rw [← hq_]; exact (hs_)⟩; clear K101 K105 HB hq_; have K101 := n0_; have K105 := n1_; have HB := n2_; clear n0_ n1_ n2_)); have hnb64 := N105_101.out; have hnc64 := N101_105.out; obtain ⟨Z65_0, Z65_1, Z65_2, Z65_3, F65⟩ := bc4 K105.out) | ((with_reducible refine qb_ (f := 32) rfl ?_); refine goesL_ (some 91) rfl rfl func32 (by kernel_rfl) rfl #[.agg #[.string (a0.extract 0 (t102 : Int).toNat), .string (a0.extract ((ji16) : Int).toNat (t103 : Int).toNat), .int .i64 t113, .int .i64 t106]] rfl (by (try simp only [List.map_toArray, List.map_cons, List.map_nil]); first | done | (simp only [hji16]; rfl) | rfl | (simp only [List.length_drop, List.length_take]; rfl)) ?_; refine cm_ (qaq_.calls kj23 (a0.extract 0 (t102 : Int).toNat) (a0.extract ((ji16) : Int).toNat (t103 : Int).toNat) t113 t106 true _ A62.out) fun w66 hb => ?_; replace K101 := qa_.mk (qbk_ (g := g101) (o := .cells #[.string ⟨#[]⟩, .string ⟨#[]⟩, .int .i64 0, .int .i64 0] 24 (0, 0)) (by have b_ := K101; have f_ := N101_105; exact zb_) hb); replace K105 := qa_.mk (qbk_ (g := g105) (o := .cells #[.string (a0.extract 0 (t102 : Int).toNat), .string (a0.extract ((ji16) : Int).toNat (t103 : Int).toNat), .int .i64 t113, .int .i64 t106] 24 (0, 0)) (by have b_ := K105; exact zb_) hb); replace HB := hr_ hb; (try clear hb); (try clear hb2); (try clear hk); (try clear hi); obtain ⟨Z67_0, Z67_1, Z67_2, Z67_3, F67⟩ := bc4 K105.out; obtain ⟨Z68_0, Z68_1, Z68_2, Z68_3, F68⟩ := bc4 K101.out)); refine bodyPost_ret (qcq_ rfl _ _ g101 24 #[.string (a0.extract 0 (t102 : Int).toNat), .string (a0.extract ((ji16) : Int).toNat (t103 : Int).toNat), .int .i64 t113, .int .i64 t106] (0, 0) _ rfl (by have b_ := K101; exact zb_) underlying24 rfl (by kernel_rfl)) rfl ?_; exact ⟨by first | rfl | (simp [qbo_, qbp_] <;> rfl) | (simp only [← hji16, ← hji20, ← hji57]; first | rfl | (simp [qbo_, qbp_] <;> rfl)) | (simp [*, qbo_, qbp_] <;> rfl) | (simp [qby_]; done) | (simp [*, qby_]; done), hs_⟩
end
end Go.Proofs.YtbhfbbfjdklfgaaGreatDoor.Q

