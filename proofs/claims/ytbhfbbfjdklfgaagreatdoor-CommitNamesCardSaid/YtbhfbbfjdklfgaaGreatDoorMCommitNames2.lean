/- The law CommitNames holds: for every input it returns true, and each argument reads afterwards as it read before. -/
import Derived.Test.YtbhfbbfjdklfgaaGreatDoorMCommitNames1
import Derived.Test.YtbhfbbfjdklfgaaGreatDoorProg
import Derived.Shelf.Strings.Builder1
import Derived.Shelf.Small.Utf8
import Derived.Shelf.Small.Bits
import Derived.Shelf.Small.Strs
import Derived.Shelf.Small.Wraps
import Derived.Shelf.Strings.BuilderF
import Derived.Shelf.Strings.BuilderK
import Derived.Shelf.Utf8.RuneCount
import Derived.Shelf.Strconv.Atoi
import Derived.Shelf.Strconv.Itoa0
import Derived.Shelf.Strconv.Itoa1
import Derived.Shelf.LaysM
import Derived.Shelf.Strconv.Itoa2
import Derived.Shelf.Strconv.Itoa3
import Derived.Shelf.Strconv.AtoiErrFast
import Derived.Shelf.Strconv.ParseIntEmpty
import Derived.Shelf.Strconv.AtoiFail
import Derived.Shelf.Strconv.Clone
import Derived.Shelf.Strconv.SyntaxError
import Derived.Shelf.LaysC
import Derived.Shelf.Strconv.ToError
import Derived.Shelf.Strconv.Lower
import Derived.Shelf.Strconv.ParseUint10
import Derived.Shelf.Strconv.ParseUint10Empty
import Derived.Shelf.Strconv.ParseUint10Any
import Derived.Shelf.Strconv.ParseInt10
import Derived.Shelf.Strconv.AtoiLong
import Derived.Shelf.Strconv.AtoiInnerAll
import Derived.Shelf.Strconv.RangeError
import Derived.Shelf.Strconv.ToErrorRange
import Derived.Shelf.Strconv.AtoiAll
import Derived.Shelf.Strconv.ErrVarAll
import Derived.Shelf.Strings.Search1
import Derived.Shelf.Strings.Search2
import Derived.Shelf.Strings.Search3
import Derived.Shelf.Strings.Cut
import Derived.Shelf.Strings.Count
import Derived.Shelf.Strings.Shaped
import Derived.Shelf.Strings.Prefix
import Derived.Shelf.Strings.Split
import Derived.Shelf.Strings.SplitShaped
import Derived.Shelf.Strings.Runes
import Derived.Shelf.Strings.IndexAny
import Derived.Shelf.Strings.AsciiSet
import Derived.Shelf.Strings.IndexAnyAll
import Derived.Shelf.Unicode.DecodeSlow
import Derived.Shelf.Slices.CompactS
import Derived.Shelf.Slices.Cells
import Derived.Lib.DecodeN
import Derived.Lib.SpaceUEq
import Derived.Laws.Runes
import Derived.Laws.RangeAny
import Derived.WalkMore
import Derived.Lib.OthersKept
import Derived.Lib.TrimUEq
import Derived.Shelf.RegionOpenPlain
import Derived.HandedShaped
import Derived.Lib.LaidTab
import Derived.Lib.LaidU8
import Derived.Lib.SmallJoins
import Derived.Laws.Cover1
import Derived.Lib.AtoiErrMem
import Derived.Lib.AppendZerosOnto
import Derived.Lib.Overlaps
import Derived.Lib.SliceRun
import Derived.Deep.AppendSrc
import Derived.Laws.CopyRow
import Derived.Maps.OwnOps
import Derived.Maps.OwnSet
import Derived.Maps.Views
set_option linter.unusedVariables false
set_option linter.unusedSimpArgs false
set_option maxHeartbeats 8000000
set_option maxRecDepth 100000
namespace Go.Proofs.YtbhfbbfjdklfgaaGreatDoor.Q
open Go.Proofs.Tryz Go.RowKit Go.Proofs.YtbhfbbfjdklfgaaGreatDoorW.PrintWords Go.Proofs.YtbhfbbfjdklfgaaGreatDoorW.PrintLast Go.Proofs.YtbhfbbfjdklfgaaGreatDoorW.PrintMore
attribute [local go_sem] max2_int min2_int max_two min_two max_three min_three max_four min_four
def errW : Option Int → Value
  | none => .nilIface
  | some c => .iface 0 (.int .i64 c)
theorem errW_none : errW none = .nilIface := rfl
theorem errW_some (c : Int) : errW (some c) = .iface 0 (.int .i64 c) := rfl
theorem info5 : (Tryz.prog.info? 5).map (fun i => (i.zero, i.size, i.bytes)) = some (some (.int .u8 0), 1, 1) := by kernel_rfl
theorem info9 : (Tryz.prog.info? 9).map (fun i => (i.zero, i.size, i.bytes)) = some (some (.string ⟨#[]⟩), 1, 16) := by kernel_rfl
theorem info108 : (Tryz.prog.info? 108).map (fun i => (i.zero, i.size, i.bytes)) = some (some (.agg #[(.int .i64 0), (.string ⟨#[]⟩), (.string ⟨#[]⟩)]), 3, 40) := by kernel_rfl
structure S24 where
  f0 : ByteArray
  f1 : ByteArray
  f2 : Int
  f3 : Int
def z24 : S24 := ⟨(⟨#[]⟩ : ByteArray), (⟨#[]⟩ : ByteArray), (0 : Int), (0 : Int)⟩
def k24 : Kd S24 := Kd.iso (Kd.pair Kd.string (Kd.pair Kd.string (Kd.pair (Kd.int .i64) (Kd.int .i64)))) (fun x : S24 => (x.f0, x.f1, x.f2, x.f3))
theorem k24_open {w : World} {x : S24} {cs : List Value} (h : k24.K w x cs) : cs = [.string x.f0, .string x.f1, .int .i64 x.f2, .int .i64 x.f3] := by
  obtain ⟨_, _, rfl, rfl, ⟨_, _, rfl, rfl, ⟨_, _, rfl, rfl, rfl⟩⟩⟩ := h
  exact rfl
structure S26 where
  f0 : ByteArray
  f1 : (List ByteArray)
  f2 : S24
  f3 : S24
  f4 : ByteArray
def k26 : Kd S26 := Kd.iso (Kd.pair Kd.string (Kd.pair (Kd.slice 9 Kd.string) (Kd.pair k24 (Kd.pair k24 Kd.string)))) (fun x : S26 => (x.f0, x.f1, x.f2, x.f3, x.f4))
theorem k26_open {w : World} {x : S26} {cs : List Value} (h : k26.K w x cs) : ∃ A1 c1, cs = [.string x.f0, .slice A1 x.f1.length c1, .string x.f2.f0, .string x.f2.f1, .int .i64 x.f2.f2, .int .i64 x.f2.f3, .string x.f3.f0, .string x.f3.f1, .int .i64 x.f3.f2, .int .i64 x.f3.f3, .string x.f4] ∧ x.f1.length ≤ c1 ∧ Kd.string.C w A1 x.f1.length x.f1 := by
  obtain ⟨_, _, rfl, rfl, ⟨_, _, rfl, ⟨A1, c1, rfl, l1, g1⟩, ⟨_, _, rfl, s2, ⟨_, _, rfl, s6, rfl⟩⟩⟩⟩ := h
  obtain rfl := k24_open s2
  obtain rfl := k24_open s6
  exact ⟨A1, c1, rfl, l1, g1⟩
structure S37 where
  f0 : ByteArray
  f1 : Int
  f2 : ByteArray
  f3 : S24
  f4 : ByteArray
def z37 : S37 := ⟨(⟨#[]⟩ : ByteArray), (0 : Int), (⟨#[]⟩ : ByteArray), z24, (⟨#[]⟩ : ByteArray)⟩
def k37 : Kd S37 := Kd.iso (Kd.pair Kd.string (Kd.pair (Kd.int .i64) (Kd.pair Kd.string (Kd.pair k24 Kd.string)))) (fun x : S37 => (x.f0, x.f1, x.f2, x.f3, x.f4))
theorem k37_open {w : World} {x : S37} {cs : List Value} (h : k37.K w x cs) : cs = [.string x.f0, .int .i64 x.f1, .string x.f2, .string x.f3.f0, .string x.f3.f1, .int .i64 x.f3.f2, .int .i64 x.f3.f3, .string x.f4] := by
  obtain ⟨_, _, rfl, rfl, ⟨_, _, rfl, rfl, ⟨_, _, rfl, rfl, ⟨_, _, rfl, s3, rfl⟩⟩⟩⟩ := h
  obtain rfl := k24_open s3
  exact rfl
structure S50 where
  f0 : Int
  f1 : ByteArray
structure S70 where
  f0 : ByteArray
  f1 : ByteArray
  f2 : S24
  f3 : ByteArray
structure S68 where
  f0 : ByteArray
  f1 : (List S70)
structure S74 where
  f0 : ByteArray
  f1 : ByteArray
  f2 : ByteArray
  f3 : S24
  f4 : ByteArray
structure S87 where
  f0 : ByteArray
  f1 : Int
structure S108 where
  f0 : Int
  f1 : ByteArray
  f2 : ByteArray
def z108 : S108 := ⟨(0 : Int), (⟨#[]⟩ : ByteArray), (⟨#[]⟩ : ByteArray)⟩
def k108 : Kd S108 := Kd.iso (Kd.pair (Kd.int .i64) (Kd.pair Kd.string Kd.string)) (fun x : S108 => (x.f0, x.f1, x.f2))
theorem k108_open {w : World} {x : S108} {cs : List Value} (h : k108.K w x cs) : cs = [.int .i64 x.f0, .string x.f1, .string x.f2] := by
  obtain ⟨_, _, rfl, rfl, ⟨_, _, rfl, rfl, rfl⟩⟩ := h
  exact rfl
theorem k108_mkM (w : World) (base : Nat) (ok : Nat → Prop) (x : S108)  : k108.M w base ok x [.int .i64 x.f0, .string x.f1, .string x.f2] := ⟨[.int .i64 x.f0], [.string x.f1, .string x.f2], rfl, rfl, ⟨[.string x.f1], [.string x.f2], rfl, rfl, rfl⟩⟩
def rd_T108 (xs : List S108) (i : Int) : S108 := xs.getD i.toNat z108
theorem at_T108 {w : World} {A : Option Addr} {n : Nat} {xs : List S108} (h : Kd.C k108 w A n xs) (i : Int) (h0 : 0 ≤ i) (h1 : i < n) : ∃ ad , A = some ad ∧ w.cell? (ad.add (i.toNat * 3)) = some (.int .i64 (rd_T108 xs i).f0) ∧ w.cell? ⟨(ad.add (i.toNat * 3)).block, (ad.add (i.toNat * 3)).off + 1, none⟩ = some (.string (rd_T108 xs i).f1) ∧ w.cell? ⟨(ad.add (i.toNat * 3)).block, (ad.add (i.toNat * 3)).off + 2, none⟩ = some (.string (rd_T108 xs i).f2) := by
  obtain ⟨ad, c, e, _, hK, hc0⟩ := Kd.C_get h z108 i h0 h1
  have hc : ∀ j u, c[j]? = some u → w.cell? (ad.add (i.toNat * 3 + j)) = some u := hc0
  obtain rfl := k108_open hK
  exact ⟨ad, e, hc 0 _ rfl, by rw [← add_field _ _ 1 (by omega)]; exact hc 1 _ rfl, by rw [← add_field _ _ 2 (by omega)]; exact hc 2 _ rfl⟩
structure S147 where
  f0 : Int
  f1 : ByteArray
theorem eqA24 (d : Nat) (w : World) (x0 y0 : ByteArray) (x1 y1 : ByteArray) (x2 y2 : Int) (x3 y3 : Int) :
    (Op.equalIn (d + 2) 24 (.agg #[.string x0, .string x1, .int .i64 x2, .int .i64 x3]) (.agg #[.string y0, .string y1, .int .i64 y2, .int .i64 y3])).run Tryz.prog w = .ok (x0.toList == y0.toList && (x1.toList == y1.toList && (x2 == y2 && (x3 == y3)))) w := by
  refine eqA_of underlying24 (by kernel_rfl) ?_
  refine eqf_cons (by rfl) (by go_simp; rfl) (by go_simp; rfl) (by go_simp) ?_
  refine eqf_cons (by rfl) (by go_simp; rfl) (by go_simp; rfl) (by go_simp) ?_
  refine eqf_cons (by rfl) (by go_simp; rfl) (by go_simp; rfl) (by go_simp) ?_
  exact eqf_last (by rfl) (by go_simp; rfl) (by go_simp; rfl) (by go_simp)
theorem ne_nil_bool (l : List UInt8) : (l != []) = !l.isEmpty := by cases l <;> rfl
class Up (w w1 : World) : Prop where
  b : Below w.heap.size w w1
instance (w : World) : Up w w := ⟨Below.refl _ _⟩
instance (w w1 : World) (o : Obj) [h : Up w w1] : Up w (w1.alloc o) := ⟨below_alloc h.b o⟩
instance (w w1 : World) [h : Up w w1] : Up w w1.drew := ⟨below_drew1 h.b⟩
instance (w w1 : World) (n : Nat) [h : Up w w1] : Up w (w1.drewN n) := ⟨pw_below_drewN h.b n⟩
theorem hb_ {w0 w w1 : World} [h : Up w w1] (hb : Below w0.heap.size w0 w) : Below w0.heap.size w0 w1 := below_step hb h.b
theorem bk_ {w w1 : World} {g : Nat} {o : Obj} [h : Up w w1] (hb : w.heap[g]? = some o) : w1.heap[g]? = some o := blk_below hb h.b
theorem rk_ {α : Type} {d : Kd α} {e base : Nat} {ok : Nat → Prop} {v : Value} {xs : List α} {w w1 : World} [h : Up w w1] (hr : d.R e w base ok v xs) : d.R e w1 base ok v xs := Kd.R_below hr h.b
theorem hs_ {p : Prop} (h : p := by repeat (first | (with_reducible first | exact HB.out | apply below_alloc | apply pw_below_drewN | apply below_drew1 | refine below_set ?_ (Aside0.out (by assumption))) | exact HB.out)) : p := h
theorem bc2o {w : World} {g : Nat} {t : TypeId} {x0 x1 : Value} (h : w.heap[g]? = some (.cells #[x0, x1] t (0, 0))) : w.cell? ⟨g, 0, none⟩ = some x0 ∧ w.cell? ⟨g, 1, none⟩ = some x1 := ⟨(blk_cell h 0).trans rfl, (blk_cell h 1).trans rfl⟩
theorem bc2 {w : World} {g : Nat} {t : TypeId} {x0 x1 : Value} (h : w.heap[g]? = some (.cells #[x0, x1] t (0, 0))) : w.cell? ⟨g, 0, none⟩ = some x0 ∧ w.cell? ⟨g, 1, none⟩ = some x1 ∧ ∀ i, w.frozen? ⟨g, i, none⟩ = false := ⟨(blk_cell h 0).trans rfl, (blk_cell h 1).trans rfl, fun i => blk_frozen h i⟩
theorem bc3 {w : World} {g : Nat} {t : TypeId} {x0 x1 x2 : Value} (h : w.heap[g]? = some (.cells #[x0, x1, x2] t (0, 0))) : w.cell? ⟨g, 0, none⟩ = some x0 ∧ w.cell? ⟨g, 1, none⟩ = some x1 ∧ w.cell? ⟨g, 2, none⟩ = some x2 ∧ ∀ i, w.frozen? ⟨g, i, none⟩ = false := ⟨(blk_cell h 0).trans rfl, (blk_cell h 1).trans rfl, (blk_cell h 2).trans rfl, fun i => blk_frozen h i⟩
theorem bc4o {w : World} {g : Nat} {t : TypeId} {x0 x1 x2 x3 : Value} (h : w.heap[g]? = some (.cells #[x0, x1, x2, x3] t (0, 0))) : w.cell? ⟨g, 0, none⟩ = some x0 ∧ w.cell? ⟨g, 1, none⟩ = some x1 ∧ w.cell? ⟨g, 2, none⟩ = some x2 ∧ w.cell? ⟨g, 3, none⟩ = some x3 := ⟨(blk_cell h 0).trans rfl, (blk_cell h 1).trans rfl, (blk_cell h 2).trans rfl, (blk_cell h 3).trans rfl⟩
theorem bc4 {w : World} {g : Nat} {t : TypeId} {x0 x1 x2 x3 : Value} (h : w.heap[g]? = some (.cells #[x0, x1, x2, x3] t (0, 0))) : w.cell? ⟨g, 0, none⟩ = some x0 ∧ w.cell? ⟨g, 1, none⟩ = some x1 ∧ w.cell? ⟨g, 2, none⟩ = some x2 ∧ w.cell? ⟨g, 3, none⟩ = some x3 ∧ ∀ i, w.frozen? ⟨g, i, none⟩ = false := ⟨(blk_cell h 0).trans rfl, (blk_cell h 1).trans rfl, (blk_cell h 2).trans rfl, (blk_cell h 3).trans rfl, fun i => blk_frozen h i⟩
theorem bc8o {w : World} {g : Nat} {t : TypeId} {x0 x1 x2 x3 x4 x5 x6 x7 : Value} (h : w.heap[g]? = some (.cells #[x0, x1, x2, x3, x4, x5, x6, x7] t (0, 0))) : w.cell? ⟨g, 0, none⟩ = some x0 ∧ w.cell? ⟨g, 1, none⟩ = some x1 ∧ w.cell? ⟨g, 2, none⟩ = some x2 ∧ w.cell? ⟨g, 3, none⟩ = some x3 ∧ w.cell? ⟨g, 4, none⟩ = some x4 ∧ w.cell? ⟨g, 5, none⟩ = some x5 ∧ w.cell? ⟨g, 6, none⟩ = some x6 ∧ w.cell? ⟨g, 7, none⟩ = some x7 := ⟨(blk_cell h 0).trans rfl, (blk_cell h 1).trans rfl, (blk_cell h 2).trans rfl, (blk_cell h 3).trans rfl, (blk_cell h 4).trans rfl, (blk_cell h 5).trans rfl, (blk_cell h 6).trans rfl, (blk_cell h 7).trans rfl⟩
theorem bc8 {w : World} {g : Nat} {t : TypeId} {x0 x1 x2 x3 x4 x5 x6 x7 : Value} (h : w.heap[g]? = some (.cells #[x0, x1, x2, x3, x4, x5, x6, x7] t (0, 0))) : w.cell? ⟨g, 0, none⟩ = some x0 ∧ w.cell? ⟨g, 1, none⟩ = some x1 ∧ w.cell? ⟨g, 2, none⟩ = some x2 ∧ w.cell? ⟨g, 3, none⟩ = some x3 ∧ w.cell? ⟨g, 4, none⟩ = some x4 ∧ w.cell? ⟨g, 5, none⟩ = some x5 ∧ w.cell? ⟨g, 6, none⟩ = some x6 ∧ w.cell? ⟨g, 7, none⟩ = some x7 ∧ ∀ i, w.frozen? ⟨g, i, none⟩ = false := ⟨(blk_cell h 0).trans rfl, (blk_cell h 1).trans rfl, (blk_cell h 2).trans rfl, (blk_cell h 3).trans rfl, (blk_cell h 4).trans rfl, (blk_cell h 5).trans rfl, (blk_cell h 6).trans rfl, (blk_cell h 7).trans rfl, fun i => blk_frozen h i⟩
theorem bc11o {w : World} {g : Nat} {t : TypeId} {x0 x1 x2 x3 x4 x5 x6 x7 x8 x9 x10 : Value} (h : w.heap[g]? = some (.cells #[x0, x1, x2, x3, x4, x5, x6, x7, x8, x9, x10] t (0, 0))) : w.cell? ⟨g, 0, none⟩ = some x0 ∧ w.cell? ⟨g, 1, none⟩ = some x1 ∧ w.cell? ⟨g, 2, none⟩ = some x2 ∧ w.cell? ⟨g, 3, none⟩ = some x3 ∧ w.cell? ⟨g, 4, none⟩ = some x4 ∧ w.cell? ⟨g, 5, none⟩ = some x5 ∧ w.cell? ⟨g, 6, none⟩ = some x6 ∧ w.cell? ⟨g, 7, none⟩ = some x7 ∧ w.cell? ⟨g, 8, none⟩ = some x8 ∧ w.cell? ⟨g, 9, none⟩ = some x9 ∧ w.cell? ⟨g, 10, none⟩ = some x10 := ⟨(blk_cell h 0).trans rfl, (blk_cell h 1).trans rfl, (blk_cell h 2).trans rfl, (blk_cell h 3).trans rfl, (blk_cell h 4).trans rfl, (blk_cell h 5).trans rfl, (blk_cell h 6).trans rfl, (blk_cell h 7).trans rfl, (blk_cell h 8).trans rfl, (blk_cell h 9).trans rfl, (blk_cell h 10).trans rfl⟩
theorem bc11 {w : World} {g : Nat} {t : TypeId} {x0 x1 x2 x3 x4 x5 x6 x7 x8 x9 x10 : Value} (h : w.heap[g]? = some (.cells #[x0, x1, x2, x3, x4, x5, x6, x7, x8, x9, x10] t (0, 0))) : w.cell? ⟨g, 0, none⟩ = some x0 ∧ w.cell? ⟨g, 1, none⟩ = some x1 ∧ w.cell? ⟨g, 2, none⟩ = some x2 ∧ w.cell? ⟨g, 3, none⟩ = some x3 ∧ w.cell? ⟨g, 4, none⟩ = some x4 ∧ w.cell? ⟨g, 5, none⟩ = some x5 ∧ w.cell? ⟨g, 6, none⟩ = some x6 ∧ w.cell? ⟨g, 7, none⟩ = some x7 ∧ w.cell? ⟨g, 8, none⟩ = some x8 ∧ w.cell? ⟨g, 9, none⟩ = some x9 ∧ w.cell? ⟨g, 10, none⟩ = some x10 ∧ ∀ i, w.frozen? ⟨g, i, none⟩ = false := ⟨(blk_cell h 0).trans rfl, (blk_cell h 1).trans rfl, (blk_cell h 2).trans rfl, (blk_cell h 3).trans rfl, (blk_cell h 4).trans rfl, (blk_cell h 5).trans rfl, (blk_cell h 6).trans rfl, (blk_cell h 7).trans rfl, (blk_cell h 8).trans rfl, (blk_cell h 9).trans rfl, (blk_cell h 10).trans rfl, fun i => blk_frozen h i⟩
theorem nl_ {a b : Nat} (h : a ≤ b) : (b < a) = False := eq_false (Nat.not_lt.2 h)
theorem ns_ {p : Prop} (h : p := by (simp only [ByteArray.size_append] at h_; exact eq_false (Nat.not_lt.2 h_))) : p := h
theorem mz_ {p : Prop} (h : p := by repeat' first | (with_reducible exact LeO.refl _) | (with_reducible exact LeO.none _) | (with_reducible refine LeO.ite ?_ ?_) | (with_reducible refine LeO.bind ?_ (fun _ => ?_)) | (with_reducible apply m0_) | (with_reducible apply m1_) | (with_reducible apply m2_) | (with_reducible apply m3_) | (with_reducible apply m4_) | (with_reducible apply m5_) | (with_reducible apply m6_) | (with_reducible apply m7_) | (with_reducible apply m8_) | (with_reducible apply m9_) | (with_reducible apply m10_) | (with_reducible apply m11_) | apply m0_ | apply m1_ | apply m2_ | apply m3_ | apply m4_ | apply m5_ | apply m6_ | apply m7_ | apply m8_ | apply m9_ | apply m10_ | apply m11_ | exact LeO.none _ | refine LeO.ite ?_ ?_ | refine LeO.bind ?_ (fun _ => ?_)) : p := h
theorem bx_ {α β : Type} {x : Option α} {f : α → Option β} {b : β} (h : x.bind f = some b) : ∃ a, Aside0 (x = some a) ∧ f a = some b := by obtain ⟨a, h1, h2⟩ := Option.bind_eq_some_iff.mp h; exact ⟨a, ⟨h1⟩, h2⟩
theorem ad_ {w : World} {g : Nat} {o : Obj} (h : Aside0 (w.heap[g]? = some o)) : Aside0 (w.drew.heap[g]? = some o) := ⟨blk_drew h.out⟩
theorem hd_ {w w1 : World} (h : Aside0 (Below w.heap.size w w1)) : Aside0 (Below w.heap.size w w1.drew) := ⟨below_drew1 h.out⟩
theorem dt_ {p : Prop} [Decidable p] (h : p) : decide p = true := decide_eq_true h
theorem df_ {p : Prop} [Decidable p] (h : ¬ p) : decide p = false := decide_eq_false h
theorem nf_ {α : Type} [BEq α] [LawfulBEq α] {a b : α} (h : a = b) : (a != b) = false := bne_eq_false_iff_eq.mpr h
theorem nt_ {α : Type} [BEq α] [LawfulBEq α] {a b : α} (h : a ≠ b) : (a != b) = true := bne_iff_ne.mpr h
theorem ef_ {α : Type} [BEq α] [LawfulBEq α] {a b : α} (h : a ≠ b) : (a == b) = false := beq_eq_false_iff_ne.mpr h
theorem et_ {α : Type} [BEq α] [LawfulBEq α] {a b : α} (h : a = b) : (a == b) = true := beq_iff_eq.mpr h
theorem cm_ {P : Program} {f : FuncId} {args : Array Value} {w : World} {v : Value} {R : World → Prop} {K : Value → World → Prop} (h : Calls P f args w fun e w' => e = .returned v ∧ R w') (k : ∀ w', R w' → K v w') : Calls P f args w fun e w' => ∃ v, e = .returned v ∧ K v w' := h.mono fun e w' q => ⟨v, q.1, k w' q.2⟩
theorem nft_ : ¬ (false = true) := by decide
def bl : Nat → Nat → List Bool
  | 0, _ => []
  | n + 1, m => (m % 2 == 1) :: bl n (m / 2)
def bs (n m : Nat) : Array Bool := ⟨bl n m⟩
theorem y0_ {p : Prop} [Decidable p] (h : decide p = true := by first | (with_reducible assumption) | assumption) : p := of_decide_eq_true h
theorem pj2_ {t0 t1 : Type} {a0 b0 : t0} {a1 b1 : t1} (h : some (a0, a1) = some (b0, b1)) : a0 = b0 ∧ a1 = b1 := by simpa only [Option.some.injEq, Prod.mk.injEq] using h
theorem pj3_ {t0 t1 t2 : Type} {a0 b0 : t0} {a1 b1 : t1} {a2 b2 : t2} (h : some (a0, a1, a2) = some (b0, b1, b2)) : a0 = b0 ∧ a1 = b1 ∧ a2 = b2 := by simpa only [Option.some.injEq, Prod.mk.injEq] using h
theorem pj4_ {t0 t1 t2 t3 : Type} {a0 b0 : t0} {a1 b1 : t1} {a2 b2 : t2} {a3 b3 : t3} (h : some (a0, a1, a2, a3) = some (b0, b1, b2, b3)) : a0 = b0 ∧ a1 = b1 ∧ a2 = b2 ∧ a3 = b3 := by simpa only [Option.some.injEq, Prod.mk.injEq] using h
theorem pj5_ {t0 t1 t2 t3 t4 : Type} {a0 b0 : t0} {a1 b1 : t1} {a2 b2 : t2} {a3 b3 : t3} {a4 b4 : t4} (h : some (a0, a1, a2, a3, a4) = some (b0, b1, b2, b3, b4)) : a0 = b0 ∧ a1 = b1 ∧ a2 = b2 ∧ a3 = b3 ∧ a4 = b4 := by simpa only [Option.some.injEq, Prod.mk.injEq] using h
theorem pj6_ {t0 t1 t2 t3 t4 t5 : Type} {a0 b0 : t0} {a1 b1 : t1} {a2 b2 : t2} {a3 b3 : t3} {a4 b4 : t4} {a5 b5 : t5} (h : some (a0, a1, a2, a3, a4, a5) = some (b0, b1, b2, b3, b4, b5)) : a0 = b0 ∧ a1 = b1 ∧ a2 = b2 ∧ a3 = b3 ∧ a4 = b4 ∧ a5 = b5 := by simpa only [Option.some.injEq, Prod.mk.injEq] using h
theorem pj9_ {t0 t1 t2 t3 t4 t5 t6 t7 t8 : Type} {a0 b0 : t0} {a1 b1 : t1} {a2 b2 : t2} {a3 b3 : t3} {a4 b4 : t4} {a5 b5 : t5} {a6 b6 : t6} {a7 b7 : t7} {a8 b8 : t8} (h : some (a0, a1, a2, a3, a4, a5, a6, a7, a8) = some (b0, b1, b2, b3, b4, b5, b6, b7, b8)) : a0 = b0 ∧ a1 = b1 ∧ a2 = b2 ∧ a3 = b3 ∧ a4 = b4 ∧ a5 = b5 ∧ a6 = b6 ∧ a7 = b7 ∧ a8 = b8 := by simpa only [Option.some.injEq, Prod.mk.injEq] using h
theorem pj12_ {t0 t1 t2 t3 t4 t5 t6 t7 t8 t9 t10 t11 : Type} {a0 b0 : t0} {a1 b1 : t1} {a2 b2 : t2} {a3 b3 : t3} {a4 b4 : t4} {a5 b5 : t5} {a6 b6 : t6} {a7 b7 : t7} {a8 b8 : t8} {a9 b9 : t9} {a10 b10 : t10} {a11 b11 : t11} (h : some (a0, a1, a2, a3, a4, a5, a6, a7, a8, a9, a10, a11) = some (b0, b1, b2, b3, b4, b5, b6, b7, b8, b9, b10, b11)) : a0 = b0 ∧ a1 = b1 ∧ a2 = b2 ∧ a3 = b3 ∧ a4 = b4 ∧ a5 = b5 ∧ a6 = b6 ∧ a7 = b7 ∧ a8 = b8 ∧ a9 = b9 ∧ a10 = b10 ∧ a11 = b11 := by simpa only [Option.some.injEq, Prod.mk.injEq] using h
theorem z0_ {p : Prop} (h : p := by first | (with_reducible assumption) | assumption) : p := h
theorem z1_ {p : Prop} (h : p := by first | rfl | (simp; done) | (simp [*]; done) | (simp [ne_nil_bool]; done) | (simp [*, ne_nil_bool]; done)) : p := h
theorem z2_ {p : Prop} (h : p := by repeat (first | exact Drawn0.refl _ | apply Drawn0.step)) : p := h
theorem z3_ {p : Prop} (h : p := by first | rfl | (simp [errW_none, errW_some] <;> rfl) | (simp [*, errW_none, errW_some] <;> rfl) | (simp [ne_nil_bool]; done) | (simp [*, ne_nil_bool]; done)) : p := h
theorem z4_ {p : Prop} (h : p := by first | omega | exact Nat.le_refl _) : p := h
theorem z5_ {p : Prop} (h : p := by (try simp only [List.map_toArray, List.map_cons, List.map_nil]); first | done | rfl | (simp only [List.length_drop, List.length_take]; rfl)) : p := h
theorem z6_ {p : Prop} (h : p := by first | exact Kd.R_nil _ _ _ _ _ | exact Kd.N_nil _ _ _ _ _ | exact Kd.V_nil _ _ _ _ _ | exact Kd.Q_nil _ _ _ _ _ | exact Kd.S_nil _ _ _ _ _) : p := h
theorem z7_ {p : Prop} (h : p := by repeat (first | (with_reducible first | exact HK.out | apply KeepBut.set_ | apply keep_drewN | apply keep_drew | apply keep_alloc) | exact HK.out)) : p := h
theorem z8_ {p : Prop} (h : p := by (try simp only [List.map_toArray, List.map_cons, List.map_nil]); first | done | rfl) : p := h
theorem z9_ {p : Prop} (h : p := by repeat (first | (with_reducible first | exact HB.out | apply below_alloc | apply pw_below_drewN | apply below_drew1 | refine below_set ?_ (IsS176.ge HI101.out) | refine below_set ?_ GE103.out) | exact HB.out)) : p := h
theorem z10_ {p : Prop} (h : p := by repeat (first | (with_reducible first | exact HI0.out | apply IsS87.alloc | apply IsS87.drewN | apply IsS87.drew | apply IsS87.set_0 | apply IsS87.set_1) | exact HI0.out)) : p := h
theorem z11_ {p : Prop} (h : p := by repeat (first | (with_reducible first | exact HB.out | apply below_alloc | apply pw_below_drewN | apply below_drew1 | refine below_set ?_ (IsS87.ge HI0.out)) | exact HB.out)) : p := h
theorem z12_ {p : Prop} (h : p := by repeat (first | (with_reducible first | exact HI101.out | apply IsS176.alloc | apply IsS176.drewN | apply IsS176.drew | apply IsS176.set_0 | refine IsS176.far ?_ NB101_103.out _) | exact HI101.out)) : p := h
theorem z13_ {p : Prop} (h : p := by repeat (first | (with_reducible first | exact HK.out | apply KeepBut.set_ | apply keep_drewN | apply keep_drew | apply keep_alloc | refine keep_far ?_ GW107.out _) | exact HK.out)) : p := h
theorem z15_ {p : Prop} (h : p := by (with_reducible repeat (first | apply Kd.R_alloc | apply Kd.R_drewN | apply Kd.R_drew)); exact HO_3.out) : p := h
theorem z17_ {p : Prop} (h : p := by repeat (first | (with_reducible first | exact HB.out | apply below_alloc | apply pw_below_drewN | apply below_drew1 | refine below_set ?_ (IsS176.ge HI101.out)) | exact HB.out)) : p := h
theorem z18_ {p : Prop} (h : p := by repeat (first | (with_reducible first | exact HI0.out | apply IsS87.alloc | apply IsS87.drewN | apply IsS87.drew | apply IsS87.set_0 | apply IsS87.set_1 | refine IsS87.far ?_ NB0_107.out _) | exact HI0.out)) : p := h
theorem z19_ {p : Prop} (h : p := by repeat (first | (with_reducible first | exact HI101.out | apply IsS176.alloc | apply IsS176.drewN | apply IsS176.drew | apply IsS176.set_0) | exact HI101.out)) : p := h
theorem z20_ {p : Prop} (h : p := by (with_reducible repeat (first | apply Kd.R_alloc | apply Kd.R_drewN | apply Kd.R_drew)); exact HO_5.out) : p := h
theorem z22_ {p : Prop} (h : p := by repeat (first | (with_reducible first | exact HB.out | apply below_alloc | apply pw_below_drewN | apply below_drew1 | refine below_set ?_ (IsS87.ge HI0.out) | refine below_set ?_ GE107.out) | exact HB.out)) : p := h
theorem z23_ {p : Prop} (h : p := by repeat (first | (with_reducible first | exact HB.out | apply below_alloc | apply pw_below_drewN | apply below_drew1 | refine below_set ?_ (IsS84.ge HI107.out) | refine below_set ?_ GE101.out) | exact HB.out)) : p := h
theorem z25_ {p : Prop} (h : p := by repeat (first | (with_reducible first | exact HI107.out | apply IsS84.alloc | apply IsS84.drewN | apply IsS84.drew | apply IsS84.set_0 | refine IsS84.far ?_ NB107_101.out _) | exact HI107.out)) : p := h
theorem z27_ {p : Prop} (h : p := by first | (go_simp; done) | (go_simp; rfl)) : p := h
theorem z28_ {p : Prop} (h : p := by (with_reducible repeat (first | apply Kd.R_alloc | apply Kd.R_drewN | apply Kd.R_drew)); exact HO_107001.out) : p := h
theorem z33_ {p : Prop} (h : p := by repeat (first | (with_reducible first | exact HK.out | apply KeepBut.set_ | apply keep_drewN | apply keep_drew | apply keep_alloc | refine keep_far ?_ GW107.out _ | refine keep_far ?_ GW116.out _) | exact HK.out)) : p := h
theorem bb_ {w w1 w2 : World} {g : Nat} {o : Obj} [h : Up w w1] (hb : w.heap[g]? = some o) (h2 : Below w1.heap.size w1 w2) : w2.heap[g]? = some o := blk_below (bk_ hb) h2
theorem bl_ {w w1 : World} {g : Nat} {o : Obj} [h : Up w w1] (hb : w.heap[g]? = some o) : g ≠ w1.heap.size := Nat.ne_of_lt (blk_lt (bk_ (w1 := w1) hb))
theorem bg_ {w w1 : World} {g : Nat} {o : Obj} [h : Up w w1] (hb : w.heap[g]? = some o) : w1.heap.size ≠ g := Nat.ne_of_gt (blk_lt (bk_ (w1 := w1) hb))
theorem nl2_ {w w1 : World} {g q : Nat} {o : Obj} (hg : q = w1.heap.size) [h : Up w w1] (hb : w.heap[g]? = some o) : g ≠ q := hg ▸ bl_ hb
theorem ng2_ {w w1 : World} {g q : Nat} {o : Obj} (hg : q = w1.heap.size) [h : Up w w1] (hb : w.heap[g]? = some o) : q ≠ g := hg ▸ bg_ hb
theorem gw_ {w0 w w1 : World} {g : Nat} (hg : g = w1.heap.size) [h : Up w w1] (hb : Below w0.heap.size w0 w) : w0.heap.size ≤ g := hg ▸ below_size (hb_ hb)
theorem be_ {P : Program} {ops : Array Oper} {rest : List Oper} {o : Oper} {a : Act} {Q : Exit → Act → World → Prop} {W : World} {cs : Array Value} {t : TypeId} (h : ∀ g, g = W.heap.size → ∀ w1, w1.heap[g]? = some (.cells cs t (0, 0)) → Below W.heap.size W w1 → wpList P ops Q rest (a.put o.dst (.pointer (some ⟨g, 0, none⟩))) w1) {N : Tmp} (hd : o.dst = some N := by rfl) (hg : o.guard = none := by rfl) (hr : (execOp a.eval o).run P W = .ok (.value (.pointer (some ⟨W.heap.size, 0, none⟩))) (W.alloc (.cells cs t (0, 0))) := by first | (go_simp; done) | (go_simp; rfl)) : wpList P ops Q (o :: rest) a W := box_event hg hd hr h
theorem bpt_ {w : World} {g : Nat} {t : TypeId} {cs cs' : Array Value} {i : Nat} {u : Value} (h : w.heap[g]? = some (.cells cs t (0, 0))) (e : cs.setIfInBounds i u = cs') : (w.setCell ⟨g, i, none⟩ u).heap[g]? = some (.cells cs' t (0, 0)) := blk_put h i u e
theorem ab_ {w w1 w2 : World} {g : Nat} {o : Obj} [h : Up w w1] (hb : Aside0 (w.heap[g]? = some o)) (h2 : Below w1.heap.size w1 w2) : Aside0 (w2.heap[g]? = some o) := ⟨bb_ hb.out h2⟩
theorem ah_ {w0 w w1 w2 : World} [h : Up w w1] (h1 : Aside0 (Below w0.heap.size w0 w)) (h2 : Below w1.heap.size w1 w2) : Aside0 (Below w0.heap.size w0 w2) := ⟨below_step (hb_ h1.out) h2⟩
theorem ag_ {w0 w w1 : World} {g : Nat} (hg : g = w1.heap.size) [h : Up w w1] (hb : Aside0 (Below w0.heap.size w0 w)) : Aside0 (w0.heap.size ≤ g) := ⟨gw_ hg hb.out⟩
theorem gl_ {P : Program} {ops : Array Oper} {Q : Exit → Act → World → Prop} {rest : List Oper} {oi : Oper} {a : Act} {w : World} (N : Option Tmp) {f : FuncId} {fn : Func} {as' : Array Operand} {ts : Array TypeId} (hf : P.funcs[f]? = some fn) (args : Array Value) (h : Calls P f args w fun e w' => ∃ v, e = .returned v ∧ wpList P ops Q rest (a.put N v) w') (hd : oi.dst = N := by rfl) (hg : oi.guard = none := by rfl) (hname : (fn.name == "runtime.NumGoroutine") = false := by kernel_rfl) (hb : fn.body.isSome = true := by rfl) (hop : oi.op = .call { callee := .value (.func f), args := as', argTypes := ts } := by rfl) (hargs : as'.map a.eval = args := by (try simp only [List.map_toArray, List.map_cons, List.map_nil]); first | done | rfl | (simp only [List.length_drop, List.length_take]; rfl)) : wpList P ops Q (oi :: rest) a w := goesL_ N hd hg hf hname hb args hop hargs h
theorem bf_ {w : World} {g b i : Nat} {t : TypeId} {cs : Array Value} (h : w.heap[g]? = some (.cells cs t (0, 0))) (hb : g ≠ b) (u : Value) : (w.setCell ⟨b, i, none⟩ u).heap[g]? = some (.cells cs t (0, 0)) := blk_far h hb u
theorem zb_ {p : Prop} (h : p := by (with_reducible repeat (first | apply blk_drewN | apply blk_drew | apply blk_alloc | apply bpt_ | apply (bf_ (hb := f_.out)))); exact b_.out; (all_goals first | (simp only [List.setIfInBounds_toArray, List.set_cons_zero, List.set_cons_succ]; done) | (simp only [List.setIfInBounds_toArray, List.set_cons_zero, List.set_cons_succ]; rfl))) : p := h
theorem pun_ {P : Program} {ops : Array Oper} {Q : Exit → Act → World → Prop} {S : World → Prop} {ds : List Nat} {md : Region.Mode} {oi : Oper} {v : Value} {fuel : Nat} {l : Array Bool} {a a' : Act} {w : World} (i : Nat) (n : Tmp) (p q : Nat) (h : wpAnyLast P md ops Q S ds fuel (bs p q) a' w) (hi : ops[i]? = some oi := by rfl) (hN : oi.dst = some n := by rfl) (hc : anyB md ops l (bs p q) i = true := by exact any_of HT_.out (by kernel_rfl)) (hQ : ∀ c a w, Q (.panic c) (a.put oi.dst v) w → Q (.panic c) a w := by exact fun _ _ _ h => h) (hy : Yields P ops oi v a := by (refine Or.inl ⟨by rfl, ?_⟩; intro w'; go_simp; with_reducible rfl)) (ha : a.put (some n) v = a' := by (simp only [Act.put, List.setIfInBounds_toArray, List.set_cons_zero, List.set_cons_succ, i64_w, i32_w]; rfl)) : wpAnyLast P md ops Q S ds (fuel + 1) l a w := pure_ (bs p q) hi hN hc hQ hy ha h
theorem pkn_ {P : Program} {ops : Array Oper} {Q : Exit → Act → World → Prop} {S : World → Prop} {ds : List Nat} {md : Region.Mode} {oi : Oper} {v : Value} {fuel : Nat} {l : Array Bool} {a a' : Act} {w : World} (i : Nat) (n : Tmp) (p q : Nat) (h : wpAnyLast P md ops Q S ds fuel (bs p q) a' w) (hi : ops[i]? = some oi := by rfl) (hN : oi.dst = some n := by rfl) (hc : anyB md ops l (bs p q) i = true := by kernel_rfl) (hQ : ∀ c a w, Q (.panic c) (a.put oi.dst v) w → Q (.panic c) a w := by exact fun _ _ _ h => h) (hy : Yields P ops oi v a := by (refine Or.inl ⟨by rfl, ?_⟩; intro w'; go_simp; with_reducible rfl)) (ha : a.put (some n) v = a' := by (simp only [Act.put, List.setIfInBounds_toArray, List.set_cons_zero, List.set_cons_succ, i64_w, i32_w]; rfl)) : wpAnyLast P md ops Q S ds (fuel + 1) l a w := pure_ (bs p q) hi hN hc hQ hy ha h
theorem pnn_ {P : Program} {ops : Array Oper} {Q : Exit → Act → World → Prop} {S : World → Prop} {ds : List Nat} {md : Region.Mode} {oi : Oper} {fuel : Nat} {l : Array Bool} {a a' : Act} {w : World} (i : Nat) (n : Tmp) (p q : Nat) (h : wpAnyLast P md ops Q S ds fuel (bs p q) a' w) (hi : ops[i]? = some oi := by rfl) (hN : oi.dst = some n := by rfl) (hc : anyB md ops l (bs p q) i = true := by exact any_of HT_.out (by kernel_rfl)) (hQ : ∀ c a w, Q (.panic c) (a.put oi.dst undef) w → Q (.panic c) a w := by exact fun _ _ _ h => h) (hy : Yields P ops oi undef a := by exact Or.inr ⟨by rfl, rfl⟩) (ha : a.put (some n) undef = a' := by (simp only [Act.put, List.setIfInBounds_toArray, List.set_cons_zero, List.set_cons_succ, i64_w, i32_w]; rfl)) : wpAnyLast P md ops Q S ds (fuel + 1) l a w := pure_ (bs p q) hi hN hc hQ hy ha h
theorem tkK2n_ {P : Program} {ops : Array Oper} {Q : Exit → Act → World → Prop} {S : World → Prop} {ds : List Nat} {md : Region.Mode} {oi : Oper} {v : Value} {fuel : Nat} {l : Array Bool} {a a' : Act} {w : World} (i : Nat) (n : Tmp) (p q : Nat) (hS : S w) (h : wpAnyLast P md ops Q S ds fuel (bs p q) a' w) (hi : ops[i]? = some oi := by rfl) (hN : oi.dst = some n := by rfl) (hc : takeB md ops ds l (bs p q) i = true := by kernel_rfl) (hQ : ∀ c a w, Q (.panic c) (a.put oi.dst v) w → Q (.panic c) a w := by exact fun _ _ _ h => h) (hy : YieldsIf P ops S oi v a := by (refine Or.inl ⟨by rfl, ?_⟩; rintro w' ⟨s0, s1⟩; go_simp; with_reducible rfl)) (ha : a.put (some n) v = a' := by (simp only [Act.put, List.setIfInBounds_toArray, List.set_cons_zero, List.set_cons_succ, i64_w, i32_w]; rfl)) : wpAnyLast P md ops Q S ds (fuel + 1) l a w := take_ (bs p q) hi hN hc hQ hy hS ha h
theorem tkK4n_ {P : Program} {ops : Array Oper} {Q : Exit → Act → World → Prop} {S : World → Prop} {ds : List Nat} {md : Region.Mode} {oi : Oper} {v : Value} {fuel : Nat} {l : Array Bool} {a a' : Act} {w : World} (i : Nat) (n : Tmp) (p q : Nat) (hS : S w) (h : wpAnyLast P md ops Q S ds fuel (bs p q) a' w) (hi : ops[i]? = some oi := by rfl) (hN : oi.dst = some n := by rfl) (hc : takeB md ops ds l (bs p q) i = true := by kernel_rfl) (hQ : ∀ c a w, Q (.panic c) (a.put oi.dst v) w → Q (.panic c) a w := by exact fun _ _ _ h => h) (hy : YieldsIf P ops S oi v a := by (refine Or.inl ⟨by rfl, ?_⟩; rintro w' ⟨s0, s1, s2, s3⟩; go_simp; with_reducible rfl)) (ha : a.put (some n) v = a' := by (simp only [Act.put, List.setIfInBounds_toArray, List.set_cons_zero, List.set_cons_succ, i64_w, i32_w]; rfl)) : wpAnyLast P md ops Q S ds (fuel + 1) l a w := take_ (bs p q) hi hN hc hQ hy hS ha h
theorem tkK6n_ {P : Program} {ops : Array Oper} {Q : Exit → Act → World → Prop} {S : World → Prop} {ds : List Nat} {md : Region.Mode} {oi : Oper} {v : Value} {fuel : Nat} {l : Array Bool} {a a' : Act} {w : World} (i : Nat) (n : Tmp) (p q : Nat) (hS : S w) (h : wpAnyLast P md ops Q S ds fuel (bs p q) a' w) (hi : ops[i]? = some oi := by rfl) (hN : oi.dst = some n := by rfl) (hc : takeB md ops ds l (bs p q) i = true := by kernel_rfl) (hQ : ∀ c a w, Q (.panic c) (a.put oi.dst v) w → Q (.panic c) a w := by exact fun _ _ _ h => h) (hy : YieldsIf P ops S oi v a := by (refine Or.inl ⟨by rfl, ?_⟩; rintro w' ⟨s0, s1, s2, s3, s4, s5⟩; go_simp; with_reducible rfl)) (ha : a.put (some n) v = a' := by (simp only [Act.put, List.setIfInBounds_toArray, List.set_cons_zero, List.set_cons_succ, i64_w, i32_w]; rfl)) : wpAnyLast P md ops Q S ds (fuel + 1) l a w := take_ (bs p q) hi hN hc hQ hy hS ha h
theorem tkW0n_ {P : Program} {ops : Array Oper} {Q : Exit → Act → World → Prop} {S : World → Prop} {ds : List Nat} {md : Region.Mode} {oi : Oper} {v : Value} {fuel : Nat} {l : Array Bool} {a a' : Act} {w : World} (i : Nat) (n : Tmp) (p q : Nat) (hS : S w) (h : wpAnyLast P md ops Q S ds fuel (bs p q) a' w) (hi : ops[i]? = some oi := by rfl) (hN : oi.dst = some n := by rfl) (hc : takeB md ops ds l (bs p q) i = true := by exact take_ofW HT_.out HW_.out (by kernel_rfl)) (hQ : ∀ c a w, Q (.panic c) (a.put oi.dst v) w → Q (.panic c) a w := by exact fun _ _ _ h => h) (hy : YieldsIf P ops S oi v a := by (refine Or.inl ⟨by rfl, ?_⟩; intro w' _; go_simp; with_reducible rfl)) (ha : a.put (some n) v = a' := by (simp only [Act.put, List.setIfInBounds_toArray, List.set_cons_zero, List.set_cons_succ, i64_w, i32_w]; rfl)) : wpAnyLast P md ops Q S ds (fuel + 1) l a w := take_ (bs p q) hi hN hc hQ hy hS ha h
theorem tkW2n_ {P : Program} {ops : Array Oper} {Q : Exit → Act → World → Prop} {S : World → Prop} {ds : List Nat} {md : Region.Mode} {oi : Oper} {v : Value} {fuel : Nat} {l : Array Bool} {a a' : Act} {w : World} (i : Nat) (n : Tmp) (p q : Nat) (hS : S w) (h : wpAnyLast P md ops Q S ds fuel (bs p q) a' w) (hi : ops[i]? = some oi := by rfl) (hN : oi.dst = some n := by rfl) (hc : takeB md ops ds l (bs p q) i = true := by exact take_ofW HT_.out HW_.out (by kernel_rfl)) (hQ : ∀ c a w, Q (.panic c) (a.put oi.dst v) w → Q (.panic c) a w := by exact fun _ _ _ h => h) (hy : YieldsIf P ops S oi v a := by (refine Or.inl ⟨by rfl, ?_⟩; rintro w' ⟨s0, s1⟩; go_simp; with_reducible rfl)) (ha : a.put (some n) v = a' := by (simp only [Act.put, List.setIfInBounds_toArray, List.set_cons_zero, List.set_cons_succ, i64_w, i32_w]; rfl)) : wpAnyLast P md ops Q S ds (fuel + 1) l a w := take_ (bs p q) hi hN hc hQ hy hS ha h
theorem tkW4n_ {P : Program} {ops : Array Oper} {Q : Exit → Act → World → Prop} {S : World → Prop} {ds : List Nat} {md : Region.Mode} {oi : Oper} {v : Value} {fuel : Nat} {l : Array Bool} {a a' : Act} {w : World} (i : Nat) (n : Tmp) (p q : Nat) (hS : S w) (h : wpAnyLast P md ops Q S ds fuel (bs p q) a' w) (hi : ops[i]? = some oi := by rfl) (hN : oi.dst = some n := by rfl) (hc : takeB md ops ds l (bs p q) i = true := by exact take_ofW HT_.out HW_.out (by kernel_rfl)) (hQ : ∀ c a w, Q (.panic c) (a.put oi.dst v) w → Q (.panic c) a w := by exact fun _ _ _ h => h) (hy : YieldsIf P ops S oi v a := by (refine Or.inl ⟨by rfl, ?_⟩; rintro w' ⟨s0, s1, s2, s3⟩; go_simp; with_reducible rfl)) (ha : a.put (some n) v = a' := by (simp only [Act.put, List.setIfInBounds_toArray, List.set_cons_zero, List.set_cons_succ, i64_w, i32_w]; rfl)) : wpAnyLast P md ops Q S ds (fuel + 1) l a w := take_ (bs p q) hi hN hc hQ hy hS ha h
theorem tkW6n_ {P : Program} {ops : Array Oper} {Q : Exit → Act → World → Prop} {S : World → Prop} {ds : List Nat} {md : Region.Mode} {oi : Oper} {v : Value} {fuel : Nat} {l : Array Bool} {a a' : Act} {w : World} (i : Nat) (n : Tmp) (p q : Nat) (hS : S w) (h : wpAnyLast P md ops Q S ds fuel (bs p q) a' w) (hi : ops[i]? = some oi := by rfl) (hN : oi.dst = some n := by rfl) (hc : takeB md ops ds l (bs p q) i = true := by exact take_ofW HT_.out HW_.out (by kernel_rfl)) (hQ : ∀ c a w, Q (.panic c) (a.put oi.dst v) w → Q (.panic c) a w := by exact fun _ _ _ h => h) (hy : YieldsIf P ops S oi v a := by (refine Or.inl ⟨by rfl, ?_⟩; rintro w' ⟨s0, s1, s2, s3, s4, s5⟩; go_simp; with_reducible rfl)) (ha : a.put (some n) v = a' := by (simp only [Act.put, List.setIfInBounds_toArray, List.set_cons_zero, List.set_cons_succ, i64_w, i32_w]; rfl)) : wpAnyLast P md ops Q S ds (fuel + 1) l a w := take_ (bs p q) hi hN hc hQ hy hS ha h
theorem tkW8n_ {P : Program} {ops : Array Oper} {Q : Exit → Act → World → Prop} {S : World → Prop} {ds : List Nat} {md : Region.Mode} {oi : Oper} {v : Value} {fuel : Nat} {l : Array Bool} {a a' : Act} {w : World} (i : Nat) (n : Tmp) (p q : Nat) (hS : S w) (h : wpAnyLast P md ops Q S ds fuel (bs p q) a' w) (hi : ops[i]? = some oi := by rfl) (hN : oi.dst = some n := by rfl) (hc : takeB md ops ds l (bs p q) i = true := by exact take_ofW HT_.out HW_.out (by kernel_rfl)) (hQ : ∀ c a w, Q (.panic c) (a.put oi.dst v) w → Q (.panic c) a w := by exact fun _ _ _ h => h) (hy : YieldsIf P ops S oi v a := by (refine Or.inl ⟨by rfl, ?_⟩; rintro w' ⟨s0, s1, s2, s3, s4, s5, s6, s7⟩; go_simp; with_reducible rfl)) (ha : a.put (some n) v = a' := by (simp only [Act.put, List.setIfInBounds_toArray, List.set_cons_zero, List.set_cons_succ, i64_w, i32_w]; rfl)) : wpAnyLast P md ops Q S ds (fuel + 1) l a w := take_ (bs p q) hi hN hc hQ hy hS ha h
theorem tkW9n_ {P : Program} {ops : Array Oper} {Q : Exit → Act → World → Prop} {S : World → Prop} {ds : List Nat} {md : Region.Mode} {oi : Oper} {v : Value} {fuel : Nat} {l : Array Bool} {a a' : Act} {w : World} (i : Nat) (n : Tmp) (p q : Nat) (hS : S w) (h : wpAnyLast P md ops Q S ds fuel (bs p q) a' w) (hi : ops[i]? = some oi := by rfl) (hN : oi.dst = some n := by rfl) (hc : takeB md ops ds l (bs p q) i = true := by exact take_ofW HT_.out HW_.out (by kernel_rfl)) (hQ : ∀ c a w, Q (.panic c) (a.put oi.dst v) w → Q (.panic c) a w := by exact fun _ _ _ h => h) (hy : YieldsIf P ops S oi v a := by (refine Or.inl ⟨by rfl, ?_⟩; rintro w' ⟨s0, s1, s2, s3, s4, s5, s6, s7, s8⟩; go_simp; with_reducible rfl)) (ha : a.put (some n) v = a' := by (simp only [Act.put, List.setIfInBounds_toArray, List.set_cons_zero, List.set_cons_succ, i64_w, i32_w]; rfl)) : wpAnyLast P md ops Q S ds (fuel + 1) l a w := take_ (bs p q) hi hN hc hQ hy hS ha h
theorem tkW11n_ {P : Program} {ops : Array Oper} {Q : Exit → Act → World → Prop} {S : World → Prop} {ds : List Nat} {md : Region.Mode} {oi : Oper} {v : Value} {fuel : Nat} {l : Array Bool} {a a' : Act} {w : World} (i : Nat) (n : Tmp) (p q : Nat) (hS : S w) (h : wpAnyLast P md ops Q S ds fuel (bs p q) a' w) (hi : ops[i]? = some oi := by rfl) (hN : oi.dst = some n := by rfl) (hc : takeB md ops ds l (bs p q) i = true := by exact take_ofW HT_.out HW_.out (by kernel_rfl)) (hQ : ∀ c a w, Q (.panic c) (a.put oi.dst v) w → Q (.panic c) a w := by exact fun _ _ _ h => h) (hy : YieldsIf P ops S oi v a := by (refine Or.inl ⟨by rfl, ?_⟩; rintro w' ⟨s0, s1, s2, s3, s4, s5, s6, s7, s8, s9, s10⟩; go_simp; with_reducible rfl)) (ha : a.put (some n) v = a' := by (simp only [Act.put, List.setIfInBounds_toArray, List.set_cons_zero, List.set_cons_succ, i64_w, i32_w]; rfl)) : wpAnyLast P md ops Q S ds (fuel + 1) l a w := take_ (bs p q) hi hN hc hQ hy hS ha h
theorem tkW12n_ {P : Program} {ops : Array Oper} {Q : Exit → Act → World → Prop} {S : World → Prop} {ds : List Nat} {md : Region.Mode} {oi : Oper} {v : Value} {fuel : Nat} {l : Array Bool} {a a' : Act} {w : World} (i : Nat) (n : Tmp) (p q : Nat) (hS : S w) (h : wpAnyLast P md ops Q S ds fuel (bs p q) a' w) (hi : ops[i]? = some oi := by rfl) (hN : oi.dst = some n := by rfl) (hc : takeB md ops ds l (bs p q) i = true := by exact take_ofW HT_.out HW_.out (by kernel_rfl)) (hQ : ∀ c a w, Q (.panic c) (a.put oi.dst v) w → Q (.panic c) a w := by exact fun _ _ _ h => h) (hy : YieldsIf P ops S oi v a := by (refine Or.inl ⟨by rfl, ?_⟩; rintro w' ⟨s0, s1, s2, s3, s4, s5, s6, s7, s8, s9, s10, s11⟩; go_simp; with_reducible rfl)) (ha : a.put (some n) v = a' := by (simp only [Act.put, List.setIfInBounds_toArray, List.set_cons_zero, List.set_cons_succ, i64_w, i32_w]; rfl)) : wpAnyLast P md ops Q S ds (fuel + 1) l a w := take_ (bs p q) hi hN hc hQ hy hS ha h
theorem on_ {P : Program} {ops : Array Oper} {Q : Exit → Act → World → Prop} {S : World → Prop} {ds : List Nat} {md : Region.Mode} {oi : Oper} {fuel : Nat} {l : Array Bool} {a : Act} {w : World} (i : Nat) (n : Tmp) (p q : Nat) (h : ∀ K : Act → World → Prop, Shut (∀ a' w', S w' → (S w' → wpAnyLast P md ops Q S ds fuel (bs p q) a' w') → K a' w') → if Region.wanted oi (yielded ops a.tmps) = true then Oper.wp P oi a w K Q else K (a.put (some n) undef) w) (hi : ops[i]? = some oi := by rfl) (hN : oi.dst = some n := by rfl) (hc : readyB md ops l (bs p q) i = true := by exact one_of HT_.out (by kernel_rfl)) (hd : i ∉ ds := by decide) : wpAnyLast P md ops Q S ds (fuel + 1) l a w := one_ (bs p q) hi hN hc hd h
theorem dn_ {P : Program} {ops : Array Oper} {Q : Exit → Act → World → Prop} {S : World → Prop} {ds : List Nat} {md : Region.Mode} {l : Array Bool} {a : Act} {w : World} {n : Nat} (h : Q .normal a w) (hr : (Region.ready md ops l == []) = true := by exact done_of HT_.out (by kernel_rfl)) : wpAnyLast P md ops Q S ds n l a w := done_ hr h
theorem no_ {α : Type} {r : α} {p : Prop} (h : (none : Option α) = some r) : p := by cases h
theorem oi_ {α : Type} {a b : α} (h : some a = some b) : a = b := Option.some.inj h
end Go.Proofs.YtbhfbbfjdklfgaaGreatDoor.Q
namespace Go.Proofs
open Go.Shelf
def Tryz.lays119_ren : Go.Shelf.Ren := ⟨fun | 119 => 226 | n => n, fun | 21 => 21 | 4 => 4 | n => n, fun | n => n⟩
theorem Tryz.lays119 : Go.Proofs.Lays.n119 Tryz.prog Tryz.lays119_ren := {
  mixed := by kernel_rfl
  f119 := Tryz.func226.trans tf_
  t4 := Tryz.underlying4
  a4 := Tryz.isAgg4
  z4 := Tryz.sizeOf4
  v4 := Tryz.zeroValue4
  t21 := Tryz.underlying21
  a21 := Tryz.isAgg21
  z21 := Tryz.sizeOf21
  v21 := Tryz.zeroValue21 }
theorem Tryz.utf8_ValidRune (r : Int) (w : World) :
    Calls Tryz.prog 226 #[.int .i32 r] w fun e w' => e = .returned (.bool (Lib.validRune r)) ∧ w' = w := Any.utf8_ValidRune Tryz.lays119 r w
def Tryz.lays137_ren : Go.Shelf.Ren := ⟨fun | 137 => 167 | 217 => 204 | 266 => 235 | n => n, fun | 9 => 9 | 5 => 5 | 3 => 3 | n => n, fun | n => n⟩
theorem Tryz.lays137 : Go.Proofs.Lays.n137 Tryz.prog Tryz.lays137_ren := {
  mixed := by kernel_rfl
  f137 := Tryz.func167.trans tf_
  f217 := Tryz.func204.trans tf_
  f266 := Tryz.func235.trans tf_
  t3 := Tryz.underlying3
  a3 := Tryz.isAgg3
  z3 := Tryz.sizeOf3
  v3 := Tryz.zeroValue3
  t5 := Tryz.underlying5
  a5 := Tryz.isAgg5
  z5 := Tryz.sizeOf5
  v5 := Tryz.zeroValue5
  t9 := Tryz.underlying9
  a9 := Tryz.isAgg9
  z9 := Tryz.sizeOf9
  v9 := Tryz.zeroValue9 }
open Go.RowKit in
theorem Tryz.strings_IndexByte (s : ByteArray) (c : Int) (w : World) :
    Calls Tryz.prog 167 #[.string s, .int .u8 c] w fun e w' => e = .returned (.int .i64 (Lib.indexByte s.data.toList c.toNat.toUInt8)) ∧ w' = w := Any.strings_IndexByte Tryz.lays137 s c w
def Tryz.lays210_ren : Go.Shelf.Ren := ⟨fun | 210 => 183 | 206 => 141 | n => n, fun | 9 => 9 | 4 => 4 | 3 => 3 | n => n, fun | n => n⟩
theorem Tryz.lays210 : Go.Proofs.Lays.n210 Tryz.prog Tryz.lays210_ren := {
  mixed := by kernel_rfl
  f206 := Tryz.func141.trans tf_
  f210 := Tryz.func183.trans tf_
  t3 := Tryz.underlying3
  a3 := Tryz.isAgg3
  z3 := Tryz.sizeOf3
  v3 := Tryz.zeroValue3
  t4 := Tryz.underlying4
  a4 := Tryz.isAgg4
  z4 := Tryz.sizeOf4
  v4 := Tryz.zeroValue4
  t9 := Tryz.underlying9
  a9 := Tryz.isAgg9
  z9 := Tryz.sizeOf9
  v9 := Tryz.zeroValue9 }
open Go.RowKit in
theorem Tryz.stringslite_CutPrefix (s p : ByteArray) (w : World) :
    Calls Tryz.prog 183 #[.string s, .string p] w fun e w' => e = .returned (.tuple #[.string ⟨(Lib.trimPrefix s.data.toList p.data.toList).toArray⟩, .bool (Lib.hasPrefix s.data.toList p.data.toList)]) ∧ w' = w := Any.stringslite_CutPrefix Tryz.lays210 s p w
def Tryz.lays103_ren : Go.Shelf.Ren := ⟨fun | 103 => 142 | 210 => 183 | 206 => 141 | n => n, fun | 9 => 9 | 4 => 4 | 24 => 144 | 3 => 3 | n => n, fun | n => n⟩
theorem Tryz.lays103 : Go.Proofs.Lays.n103 Tryz.prog Tryz.lays103_ren := {
  mixed := by kernel_rfl
  f103 := Tryz.func142.trans tf_
  f206 := Tryz.func141.trans tf_
  f210 := Tryz.func183.trans tf_
  t3 := Tryz.underlying3
  a3 := Tryz.isAgg3
  z3 := Tryz.sizeOf3
  v3 := Tryz.zeroValue3
  t4 := Tryz.underlying4
  a4 := Tryz.isAgg4
  z4 := Tryz.sizeOf4
  v4 := Tryz.zeroValue4
  t9 := Tryz.underlying9
  a9 := Tryz.isAgg9
  z9 := Tryz.sizeOf9
  v9 := Tryz.zeroValue9
  t24 := Tryz.underlying144
  a24 := Tryz.isAgg144
  z24 := Tryz.sizeOf144
  v24 := Tryz.zeroValue144 }
open Go.RowKit in
theorem Tryz.strings_CutPrefix (s p : ByteArray) (w : World) :
    Calls Tryz.prog 142 #[.string s, .string p] w fun e w' => e = .returned (.tuple #[.string ⟨(Lib.trimPrefix s.data.toList p.data.toList).toArray⟩, .bool (Lib.hasPrefix s.data.toList p.data.toList)]) ∧ w' = w := Any.strings_CutPrefix Tryz.lays103 s p w
def Tryz.lays172_ren : Go.Shelf.Ren := ⟨fun | 172 => 145 | 244 => 184 | 245 => 185 | 247 => 221 | 279 => 222 | 280 => 223 | 281 => 224 | 282 => 225 | 287 => 243 | 316 => 244 | 171 => 91 | 205 => 245 | 321 => 253 | 322 => 254 | 243 => 147 | 246 => 190 | 283 => 227 | 284 => 228 | 285 => 229 | 286 => 230 | 129 => 217 | 317 => 246 | 318 => 247 | 319 => 248 | 320 => 249 | 337 => 255 | 338 => 256 | n => n, fun | 9 => 9 | 3 => 3 | 75 => 117 | 76 => 118 | 4 => 4 | 5 => 5 | 167 => 195 | 37 => 103 | 0 => 0 | 85 => 196 | 2 => 2 | 168 => 198 | 53 => 193 | 175 => 218 | 46 => 166 | 210 => 221 | 127 => 158 | 145 => 233 | 143 => 231 | 21 => 21 | 171 => 203 | 173 => 205 | 212 => 224 | 51 => 191 | 20 => 20 | 213 => 225 | 232 => 236 | 233 => 237 | 80 => 120 | n => n, fun | 15 => 1 | 16 => 2 | 17 => 3 | 18 => 4 | 19 => 5 | n => n⟩
theorem Tryz.lays172 : Go.Proofs.Lays.n172 Tryz.prog Tryz.lays172_ren := {
  mixed := by kernel_rfl
  f129 := Tryz.func217.trans tf_
  f171 := Tryz.func91.trans tf_
  f172 := Tryz.func145.trans tf_
  f205 := Tryz.func245.trans tf_
  f243 := Tryz.func147.trans tf_
  f244 := Tryz.func184.trans tf_
  f245 := Tryz.func185.trans tf_
  f246 := Tryz.func190.trans tf_
  f247 := Tryz.func221.trans tf_
  f279 := Tryz.func222.trans tf_
  f280 := Tryz.func223.trans tf_
  f281 := Tryz.func224.trans tf_
  f282 := Tryz.func225.trans tf_
  f283 := Tryz.func227.trans tf_
  f284 := Tryz.func228.trans tf_
  f285 := Tryz.func229.trans tf_
  f286 := Tryz.func230.trans tf_
  f287 := Tryz.func243.trans tf_
  f316 := Tryz.func244.trans tf_
  f317 := Tryz.func246.trans tf_
  f318 := Tryz.func247.trans tf_
  f319 := Tryz.func248.trans tf_
  f320 := Tryz.func249.trans tf_
  f321 := Tryz.func253.trans tf_
  f322 := Tryz.func254.trans tf_
  f337 := Tryz.func255.trans tf_
  f338 := Tryz.func256.trans tf_
  t0 := Tryz.underlying0
  a0 := Tryz.isAgg0
  z0 := Tryz.sizeOf0
  v0 := Tryz.zeroValue0
  t2 := Tryz.underlying2
  a2 := Tryz.isAgg2
  z2 := Tryz.sizeOf2
  v2 := Tryz.zeroValue2
  t3 := Tryz.underlying3
  a3 := Tryz.isAgg3
  z3 := Tryz.sizeOf3
  v3 := Tryz.zeroValue3
  t4 := Tryz.underlying4
  a4 := Tryz.isAgg4
  z4 := Tryz.sizeOf4
  v4 := Tryz.zeroValue4
  t5 := Tryz.underlying5
  a5 := Tryz.isAgg5
  z5 := Tryz.sizeOf5
  v5 := Tryz.zeroValue5
  t9 := Tryz.underlying9
  a9 := Tryz.isAgg9
  z9 := Tryz.sizeOf9
  v9 := Tryz.zeroValue9
  t20 := Tryz.underlying20
  a20 := Tryz.isAgg20
  z20 := Tryz.sizeOf20
  v20 := Tryz.zeroValue20
  t21 := Tryz.underlying21
  a21 := Tryz.isAgg21
  z21 := Tryz.sizeOf21
  v21 := Tryz.zeroValue21
  t37 := Tryz.underlying103
  a37 := Tryz.isAgg103
  z37 := Tryz.sizeOf103
  v37 := Tryz.zeroValue103
  t46 := Tryz.underlying166
  a46 := Tryz.isAgg166
  z46 := Tryz.sizeOf166
  v46 := Tryz.zeroValue166
  t51 := Tryz.underlying191
  a51 := Tryz.isAgg191
  z51 := Tryz.sizeOf191
  v51 := Tryz.zeroValue191
  t53 := Tryz.underlying193
  a53 := Tryz.isAgg193
  z53 := Tryz.sizeOf193
  v53 := Tryz.zeroValue193
  t75 := Tryz.underlying117
  a75 := Tryz.isAgg117
  z75 := Tryz.sizeOf117
  v75 := Tryz.zeroValue117
  t76 := Tryz.underlying118
  a76 := Tryz.isAgg118
  z76 := Tryz.sizeOf118
  v76 := Tryz.zeroValue118
  t85 := Tryz.underlying196
  a85 := Tryz.isAgg196
  z85 := Tryz.sizeOf196
  v85 := Tryz.zeroValue196
  t127 := Tryz.underlying158
  a127 := Tryz.isAgg158
  z127 := Tryz.sizeOf158
  v127 := Tryz.zeroValue158
  t143 := Tryz.underlying231
  a143 := Tryz.isAgg231
  z143 := Tryz.sizeOf231
  v143 := Tryz.zeroValue231
  t145 := Tryz.underlying233
  a145 := Tryz.isAgg233
  z145 := Tryz.sizeOf233
  v145 := Tryz.zeroValue233
  t167 := Tryz.underlying195
  a167 := Tryz.isAgg195
  z167 := Tryz.sizeOf195
  v167 := Tryz.zeroValue195
  t168 := Tryz.underlying198
  a168 := Tryz.isAgg198
  z168 := Tryz.sizeOf198
  v168 := Tryz.zeroValue198
  t171 := Tryz.underlying203
  a171 := Tryz.isAgg203
  z171 := Tryz.sizeOf203
  v171 := Tryz.zeroValue203
  t173 := Tryz.underlying205
  a173 := Tryz.isAgg205
  z173 := Tryz.sizeOf205
  v173 := Tryz.zeroValue205
  t175 := Tryz.underlying218
  a175 := Tryz.isAgg218
  z175 := Tryz.sizeOf218
  v175 := Tryz.zeroValue218
  t210 := Tryz.underlying221
  a210 := Tryz.isAgg221
  z210 := Tryz.sizeOf221
  v210 := Tryz.zeroValue221
  t212 := Tryz.underlying224
  a212 := Tryz.isAgg224
  z212 := Tryz.sizeOf224
  v212 := Tryz.zeroValue224
  t213 := Tryz.underlying225
  a213 := Tryz.isAgg225
  z213 := Tryz.sizeOf225
  t232 := Tryz.underlying236
  a232 := Tryz.isAgg236
  z232 := Tryz.sizeOf236
  v232 := Tryz.zeroValue236
  t233 := Tryz.underlying237
  a233 := Tryz.isAgg237
  z233 := Tryz.sizeOf237
  v233 := Tryz.zeroValue237
  g15 := by kernel_rfl
  g16 := by kernel_rfl
  g17 := by kernel_rfl
  g18 := by kernel_rfl
  g19 := by kernel_rfl }
open Go.RowKit in
theorem Tryz.strconv_Atoi (s : ByteArray) (n : Int) (hl : s.size ≤ 18) (h : Lib.atoi s.data.toList = some n) (w : World) :
    Calls Tryz.prog 145 #[.string s] w fun e w' => e = .returned (.tuple #[.int .i64 n, .nilIface]) ∧ ∃ t, w' = Lib.bytesWorld w 5 t := Any.strconv_Atoi Tryz.lays172 s n hl h w
def Tryz.laysM171_ren : Go.Shelf.Ren := ⟨fun | 171 => 91 | 243 => 147 | 246 => 190 | 283 => 227 | 284 => 228 | 285 => 229 | 286 => 230 | 129 => 217 | 317 => 246 | 318 => 247 | 319 => 248 | 320 => 249 | 337 => 255 | 338 => 256 | n => n, fun | 3 => 3 | 9 => 9 | 2 => 2 | 4 => 4 | 171 => 203 | 0 => 0 | 53 => 193 | 37 => 103 | 5 => 5 | 173 => 205 | 212 => 224 | 51 => 191 | 20 => 20 | 213 => 225 | 46 => 166 | 232 => 236 | 233 => 237 | n => n, fun | 17 => 3 | 18 => 4 | 19 => 5 | n => n⟩
theorem Tryz.laysM171 : Go.Proofs.LaysM.n171 Tryz.prog Tryz.laysM171_ren := {
  mixed := by kernel_rfl
  f129 := Tryz.func217.trans tf_
  f171 := Tryz.func91.trans tf_
  f243 := Tryz.func147.trans tf_
  f246 := Tryz.func190.trans tf_
  f283 := Tryz.func227.trans tf_
  f284 := Tryz.func228.trans tf_
  f285 := Tryz.func229.trans tf_
  f286 := Tryz.func230.trans tf_
  f317 := Tryz.func246.trans tf_
  f318 := Tryz.func247.trans tf_
  f319 := Tryz.func248.trans tf_
  f320 := Tryz.func249.trans tf_
  f337 := Tryz.func255.trans tf_
  f338 := Tryz.func256.trans tf_
  t0 := Tryz.underlying0
  a0 := Tryz.isAgg0
  z0 := Tryz.sizeOf0
  v0 := Tryz.zeroValue0
  t2 := Tryz.underlying2
  a2 := Tryz.isAgg2
  z2 := Tryz.sizeOf2
  v2 := Tryz.zeroValue2
  t3 := Tryz.underlying3
  a3 := Tryz.isAgg3
  z3 := Tryz.sizeOf3
  v3 := Tryz.zeroValue3
  t4 := Tryz.underlying4
  a4 := Tryz.isAgg4
  z4 := Tryz.sizeOf4
  v4 := Tryz.zeroValue4
  t5 := Tryz.underlying5
  a5 := Tryz.isAgg5
  z5 := Tryz.sizeOf5
  v5 := Tryz.zeroValue5
  t9 := Tryz.underlying9
  a9 := Tryz.isAgg9
  z9 := Tryz.sizeOf9
  v9 := Tryz.zeroValue9
  t20 := Tryz.underlying20
  a20 := Tryz.isAgg20
  z20 := Tryz.sizeOf20
  v20 := Tryz.zeroValue20
  t37 := Tryz.underlying103
  a37 := Tryz.isAgg103
  z37 := Tryz.sizeOf103
  v37 := Tryz.zeroValue103
  t46 := Tryz.underlying166
  a46 := Tryz.isAgg166
  z46 := Tryz.sizeOf166
  v46 := Tryz.zeroValue166
  t51 := Tryz.underlying191
  a51 := Tryz.isAgg191
  z51 := Tryz.sizeOf191
  v51 := Tryz.zeroValue191
  t53 := Tryz.underlying193
  a53 := Tryz.isAgg193
  z53 := Tryz.sizeOf193
  v53 := Tryz.zeroValue193
  t171 := Tryz.underlying203
  a171 := Tryz.isAgg203
  z171 := Tryz.sizeOf203
  v171 := Tryz.zeroValue203
  t173 := Tryz.underlying205
  a173 := Tryz.isAgg205
  z173 := Tryz.sizeOf205
  v173 := Tryz.zeroValue205
  t212 := Tryz.underlying224
  a212 := Tryz.isAgg224
  z212 := Tryz.sizeOf224
  v212 := Tryz.zeroValue224
  t213 := Tryz.underlying225
  a213 := Tryz.isAgg225
  z213 := Tryz.sizeOf225
  t232 := Tryz.underlying236
  a232 := Tryz.isAgg236
  z232 := Tryz.sizeOf236
  v232 := Tryz.zeroValue236
  t233 := Tryz.underlying237
  a233 := Tryz.isAgg237
  z233 := Tryz.sizeOf237
  v233 := Tryz.zeroValue237
  g17 := by kernel_rfl
  g18 := by kernel_rfl
  g19 := by kernel_rfl
  i0 := by kernel_rfl
  i2 := by kernel_rfl
  i3 := by kernel_rfl
  i4 := by kernel_rfl
  i5 := by kernel_rfl
  i9 := by kernel_rfl
  i20 := by kernel_rfl
  i37 := by kernel_rfl
  i46 := by kernel_rfl
  i51 := by kernel_rfl
  i53 := by kernel_rfl
  i171 := by kernel_rfl
  i173 := by kernel_rfl
  i212 := by kernel_rfl
  i232 := by kernel_rfl
  i233 := by kernel_rfl
  m17 := by kernel_rfl
  m18 := by kernel_rfl
  m19 := by kernel_rfl }
open Go.RowKit Go.Sort Go.Lib in
theorem Tryz.strconv_Itoa (n : Int) (h0 : -9223372036854775808 ≤ n) (h1 : n ≤ 9223372036854775807) (w : World) (htab : Lib.TabIs Tryz.prog w "internal/strconv.uint64pow10" .u64 Lib.pow10Tab) :
    Calls Tryz.prog 91 #[.int .i64 n] w fun e w' => e = .returned (.string ⟨(Lib.itoa n).toArray⟩) ∧ ∃ k os, w' = grow (w.drewN k) os := Any.strconv_Itoa Tryz.laysM171 n h0 h1 w htab
def Tryz.lays143_ren : Go.Shelf.Ren := ⟨fun | 143 => 140 | 219 => 182 | 217 => 204 | 225 => 218 | 224 => 219 | 267 => 220 | 266 => 235 | 314 => 242 | n => n, fun | 9 => 9 | 3 => 3 | 4 => 4 | 5 => 5 | 46 => 166 | 146 => 216 | 51 => 191 | n => n, fun | 1 => 0 | n => n⟩
theorem Tryz.lays143 : Go.Proofs.Lays.n143 Tryz.prog Tryz.lays143_ren := {
  mixed := by kernel_rfl
  f143 := Tryz.func140.trans tf_
  f217 := Tryz.func204.trans tf_
  f219 := Tryz.func182.trans tf_
  f224 := Tryz.func219.trans tf_
  f225 := Tryz.func218.trans tf_
  f266 := Tryz.func235.trans tf_
  f267 := Tryz.func220.trans tf_
  f314 := Tryz.func242.trans tf_
  t3 := Tryz.underlying3
  a3 := Tryz.isAgg3
  z3 := Tryz.sizeOf3
  v3 := Tryz.zeroValue3
  t4 := Tryz.underlying4
  a4 := Tryz.isAgg4
  z4 := Tryz.sizeOf4
  v4 := Tryz.zeroValue4
  t5 := Tryz.underlying5
  a5 := Tryz.isAgg5
  z5 := Tryz.sizeOf5
  v5 := Tryz.zeroValue5
  t9 := Tryz.underlying9
  a9 := Tryz.isAgg9
  z9 := Tryz.sizeOf9
  v9 := Tryz.zeroValue9
  t46 := Tryz.underlying166
  a46 := Tryz.isAgg166
  z46 := Tryz.sizeOf166
  v46 := Tryz.zeroValue166
  t51 := Tryz.underlying191
  a51 := Tryz.isAgg191
  z51 := Tryz.sizeOf191
  v51 := Tryz.zeroValue191
  t146 := Tryz.underlying216
  a146 := Tryz.isAgg216
  z146 := Tryz.sizeOf216
  v146 := Tryz.zeroValue216
  g1 := by kernel_rfl }
open Go.RowKit Go.Lib in
theorem Tryz.strings_Index_one (s : ByteArray) (c : UInt8) (w : World) :
    Calls Tryz.prog 140 #[.string s, .string ⟨#[c]⟩] w fun e w' => e = .returned (.int .i64 (Lib.indexByte s.data.toList c)) ∧ w' = w := Any.strings_Index_one Tryz.lays143 s c w
def Tryz.lays144_ren : Go.Shelf.Ren := ⟨fun | 144 => 68 | 143 => 140 | 219 => 182 | 217 => 204 | 225 => 218 | 224 => 219 | 267 => 220 | 266 => 235 | 314 => 242 | n => n, fun | 9 => 9 | 4 => 4 | 3 => 3 | 5 => 5 | 46 => 166 | 146 => 216 | 51 => 191 | n => n, fun | 1 => 0 | n => n⟩
theorem Tryz.lays144 : Go.Proofs.Lays.n144 Tryz.prog Tryz.lays144_ren := {
  mixed := by kernel_rfl
  f143 := Tryz.func140.trans tf_
  f144 := Tryz.func68.trans tf_
  f217 := Tryz.func204.trans tf_
  f219 := Tryz.func182.trans tf_
  f224 := Tryz.func219.trans tf_
  f225 := Tryz.func218.trans tf_
  f266 := Tryz.func235.trans tf_
  f267 := Tryz.func220.trans tf_
  f314 := Tryz.func242.trans tf_
  t3 := Tryz.underlying3
  a3 := Tryz.isAgg3
  z3 := Tryz.sizeOf3
  v3 := Tryz.zeroValue3
  t4 := Tryz.underlying4
  a4 := Tryz.isAgg4
  z4 := Tryz.sizeOf4
  v4 := Tryz.zeroValue4
  t5 := Tryz.underlying5
  a5 := Tryz.isAgg5
  z5 := Tryz.sizeOf5
  v5 := Tryz.zeroValue5
  t9 := Tryz.underlying9
  a9 := Tryz.isAgg9
  z9 := Tryz.sizeOf9
  v9 := Tryz.zeroValue9
  t46 := Tryz.underlying166
  a46 := Tryz.isAgg166
  z46 := Tryz.sizeOf166
  v46 := Tryz.zeroValue166
  t51 := Tryz.underlying191
  a51 := Tryz.isAgg191
  z51 := Tryz.sizeOf191
  v51 := Tryz.zeroValue191
  t146 := Tryz.underlying216
  a146 := Tryz.isAgg216
  z146 := Tryz.sizeOf216
  v146 := Tryz.zeroValue216
  g1 := by kernel_rfl }
open Go.RowKit Go.Lib in
theorem Tryz.strings_Contains (s sub : ByteArray) (m : Int) (w : World) (hs : s.size < 4294967281) (hm : w.cell? ⟨0, 0, none⟩ = some (.int .i64 m)) :
    Calls Tryz.prog 68 #[.string s, .string sub] w fun e w' => e = .returned (.bool (Lib.contains s.data.toList sub.data.toList)) ∧ w' = w := Any.strings_Contains Tryz.lays144 s sub m w hs hm
def Tryz.lays145_ren : Go.Shelf.Ren := ⟨fun | 145 => 82 | 220 => 144 | 219 => 182 | 217 => 204 | 225 => 218 | 224 => 219 | 267 => 220 | 266 => 235 | 314 => 242 | n => n, fun | 9 => 9 | 4 => 4 | 59 => 97 | 3 => 3 | 5 => 5 | 46 => 166 | 146 => 216 | 51 => 191 | n => n, fun | 1 => 0 | n => n⟩
theorem Tryz.lays145 : Go.Proofs.Lays.n145 Tryz.prog Tryz.lays145_ren := {
  mixed := by kernel_rfl
  f145 := Tryz.func82.trans tf_
  f217 := Tryz.func204.trans tf_
  f219 := Tryz.func182.trans tf_
  f220 := Tryz.func144.trans tf_
  f224 := Tryz.func219.trans tf_
  f225 := Tryz.func218.trans tf_
  f266 := Tryz.func235.trans tf_
  f267 := Tryz.func220.trans tf_
  f314 := Tryz.func242.trans tf_
  t3 := Tryz.underlying3
  a3 := Tryz.isAgg3
  z3 := Tryz.sizeOf3
  v3 := Tryz.zeroValue3
  t4 := Tryz.underlying4
  a4 := Tryz.isAgg4
  z4 := Tryz.sizeOf4
  v4 := Tryz.zeroValue4
  t5 := Tryz.underlying5
  a5 := Tryz.isAgg5
  z5 := Tryz.sizeOf5
  v5 := Tryz.zeroValue5
  t9 := Tryz.underlying9
  a9 := Tryz.isAgg9
  z9 := Tryz.sizeOf9
  v9 := Tryz.zeroValue9
  t46 := Tryz.underlying166
  a46 := Tryz.isAgg166
  z46 := Tryz.sizeOf166
  v46 := Tryz.zeroValue166
  t51 := Tryz.underlying191
  a51 := Tryz.isAgg191
  z51 := Tryz.sizeOf191
  v51 := Tryz.zeroValue191
  t59 := Tryz.underlying97
  a59 := Tryz.isAgg97
  z59 := Tryz.sizeOf97
  v59 := Tryz.zeroValue97
  t146 := Tryz.underlying216
  a146 := Tryz.isAgg216
  z146 := Tryz.sizeOf216
  v146 := Tryz.zeroValue216
  g1 := by kernel_rfl }
open Go.RowKit Go.Lib in
theorem Tryz.strings_Cut (s sep : ByteArray) (m : Int) (w : World) (hs : s.size < 4294967281) (hm : w.cell? ⟨0, 0, none⟩ = some (.int .i64 m)) :
    Calls Tryz.prog 82 #[.string s, .string sep] w fun e w' => e = .returned (.tuple #[.string ⟨(Lib.cut s.data.toList sep.data.toList).1.toArray⟩, .string ⟨(Lib.cut s.data.toList sep.data.toList).2.1.toArray⟩, .bool (Lib.cut s.data.toList sep.data.toList).2.2]) ∧ ∃ n, w' = w.drewN n := Any.strings_Cut Tryz.lays145 s sep m w hs hm
def Tryz.lays138_ren : Go.Shelf.Ren := ⟨fun | 138 => 251 | 195 => 257 | 218 => 259 | 143 => 140 | 219 => 182 | 217 => 204 | 225 => 218 | 224 => 219 | 267 => 220 | 266 => 235 | 314 => 242 | n => n, fun | 9 => 9 | 3 => 3 | 4 => 4 | 5 => 5 | 0 => 0 | 46 => 166 | 146 => 216 | 51 => 191 | n => n, fun | 1 => 0 | n => n⟩
theorem Tryz.lays138 : Go.Proofs.Lays.n138 Tryz.prog Tryz.lays138_ren := {
  mixed := by kernel_rfl
  f138 := Tryz.func251.trans tf_
  f143 := Tryz.func140.trans tf_
  f195 := Tryz.func257.trans tf_
  f217 := Tryz.func204.trans tf_
  f218 := Tryz.func259.trans tf_
  f219 := Tryz.func182.trans tf_
  f224 := Tryz.func219.trans tf_
  f225 := Tryz.func218.trans tf_
  f266 := Tryz.func235.trans tf_
  f267 := Tryz.func220.trans tf_
  f314 := Tryz.func242.trans tf_
  t0 := Tryz.underlying0
  a0 := Tryz.isAgg0
  z0 := Tryz.sizeOf0
  v0 := Tryz.zeroValue0
  t3 := Tryz.underlying3
  a3 := Tryz.isAgg3
  z3 := Tryz.sizeOf3
  v3 := Tryz.zeroValue3
  t4 := Tryz.underlying4
  a4 := Tryz.isAgg4
  z4 := Tryz.sizeOf4
  v4 := Tryz.zeroValue4
  t5 := Tryz.underlying5
  a5 := Tryz.isAgg5
  z5 := Tryz.sizeOf5
  v5 := Tryz.zeroValue5
  t9 := Tryz.underlying9
  a9 := Tryz.isAgg9
  z9 := Tryz.sizeOf9
  v9 := Tryz.zeroValue9
  t46 := Tryz.underlying166
  a46 := Tryz.isAgg166
  z46 := Tryz.sizeOf166
  v46 := Tryz.zeroValue166
  t51 := Tryz.underlying191
  a51 := Tryz.isAgg191
  z51 := Tryz.sizeOf191
  v51 := Tryz.zeroValue191
  t146 := Tryz.underlying216
  a146 := Tryz.isAgg216
  z146 := Tryz.sizeOf216
  v146 := Tryz.zeroValue216
  g1 := by kernel_rfl }
open Go.RowKit Go.Lib in
theorem Tryz.strings_Count_one (s : ByteArray) (c : UInt8) (w : World) :
    Calls Tryz.prog 251 #[.string s, .string ⟨#[c]⟩] w fun e w' => e = .returned (.int .i64 (Lib.countByte s.data.toList c)) ∧ w' = w := Any.strings_Count_one Tryz.lays138 s c w
def Tryz.laysM144_ren : Go.Shelf.Ren := ⟨fun | 144 => 68 | 143 => 140 | 219 => 182 | 217 => 204 | 225 => 218 | 224 => 219 | 267 => 220 | 266 => 235 | 314 => 242 | n => n, fun | 9 => 9 | 4 => 4 | 3 => 3 | 5 => 5 | 46 => 166 | 146 => 216 | 51 => 191 | n => n, fun | 1 => 0 | n => n⟩
theorem Tryz.laysM144 : Go.Proofs.LaysM.n144 Tryz.prog Tryz.laysM144_ren := {
  mixed := by kernel_rfl
  f143 := Tryz.func140.trans tf_
  f144 := Tryz.func68.trans tf_
  f217 := Tryz.func204.trans tf_
  f219 := Tryz.func182.trans tf_
  f224 := Tryz.func219.trans tf_
  f225 := Tryz.func218.trans tf_
  f266 := Tryz.func235.trans tf_
  f267 := Tryz.func220.trans tf_
  f314 := Tryz.func242.trans tf_
  t3 := Tryz.underlying3
  a3 := Tryz.isAgg3
  z3 := Tryz.sizeOf3
  v3 := Tryz.zeroValue3
  t4 := Tryz.underlying4
  a4 := Tryz.isAgg4
  z4 := Tryz.sizeOf4
  v4 := Tryz.zeroValue4
  t5 := Tryz.underlying5
  a5 := Tryz.isAgg5
  z5 := Tryz.sizeOf5
  v5 := Tryz.zeroValue5
  t9 := Tryz.underlying9
  a9 := Tryz.isAgg9
  z9 := Tryz.sizeOf9
  v9 := Tryz.zeroValue9
  t46 := Tryz.underlying166
  a46 := Tryz.isAgg166
  z46 := Tryz.sizeOf166
  v46 := Tryz.zeroValue166
  t51 := Tryz.underlying191
  a51 := Tryz.isAgg191
  z51 := Tryz.sizeOf191
  v51 := Tryz.zeroValue191
  t146 := Tryz.underlying216
  a146 := Tryz.isAgg216
  z146 := Tryz.sizeOf216
  v146 := Tryz.zeroValue216
  g1 := by kernel_rfl
  i3 := by kernel_rfl
  i4 := by kernel_rfl
  i5 := by kernel_rfl
  i9 := by kernel_rfl
  i46 := by kernel_rfl
  i51 := by kernel_rfl
  i146 := by kernel_rfl
  m1 := by kernel_rfl
  s1_3 := fun w h => Go.Proofs.cell_of_shapedOpen_int (zero := #[.int .i64 0]) (t := 3) h (of_decide_eq_true (by kernel_rfl)) (by kernel_rfl) rfl (by kernel_rfl) (by kernel_rfl) Tryz.underlying3 }
def Tryz.lays206_ren : Go.Shelf.Ren := ⟨fun | 206 => 141 | n => n, fun | 9 => 9 | 4 => 4 | 3 => 3 | n => n, fun | n => n⟩
theorem Tryz.lays206 : Go.Proofs.Lays.n206 Tryz.prog Tryz.lays206_ren := {
  mixed := by kernel_rfl
  f206 := Tryz.func141.trans tf_
  t3 := Tryz.underlying3
  a3 := Tryz.isAgg3
  z3 := Tryz.sizeOf3
  v3 := Tryz.zeroValue3
  t4 := Tryz.underlying4
  a4 := Tryz.isAgg4
  z4 := Tryz.sizeOf4
  v4 := Tryz.zeroValue4
  t9 := Tryz.underlying9
  a9 := Tryz.isAgg9
  z9 := Tryz.sizeOf9
  v9 := Tryz.zeroValue9 }
open Go.RowKit Go.Lib in
theorem Tryz.stringslite_HasPrefix (s p : ByteArray) (w : World) :
    Calls Tryz.prog 141 #[.string s, .string p] w fun e w' => e = .returned (.bool (Lib.hasPrefix s.data.toList p.data.toList)) ∧ w' = w := Any.stringslite_HasPrefix Tryz.lays206 s p w
def Tryz.lays99_ren : Go.Shelf.Ren := ⟨fun | 99 => 71 | 206 => 141 | n => n, fun | 9 => 9 | 4 => 4 | 3 => 3 | n => n, fun | n => n⟩
theorem Tryz.lays99 : Go.Proofs.Lays.n99 Tryz.prog Tryz.lays99_ren := {
  mixed := by kernel_rfl
  f99 := Tryz.func71.trans tf_
  f206 := Tryz.func141.trans tf_
  t3 := Tryz.underlying3
  a3 := Tryz.isAgg3
  z3 := Tryz.sizeOf3
  v3 := Tryz.zeroValue3
  t4 := Tryz.underlying4
  a4 := Tryz.isAgg4
  z4 := Tryz.sizeOf4
  v4 := Tryz.zeroValue4
  t9 := Tryz.underlying9
  a9 := Tryz.isAgg9
  z9 := Tryz.sizeOf9
  v9 := Tryz.zeroValue9 }
open Go.RowKit Go.Lib in
theorem Tryz.strings_HasPrefix (s p : ByteArray) (w : World) :
    Calls Tryz.prog 71 #[.string s, .string p] w fun e w' => e = .returned (.bool (Lib.hasPrefix s.data.toList p.data.toList)) ∧ w' = w := Any.strings_HasPrefix Tryz.lays99 s p w
def Tryz.lays221_ren : Go.Shelf.Ren := ⟨fun | 221 => 234 | 268 => 250 | 138 => 251 | 143 => 140 | 195 => 257 | 197 => 258 | 218 => 259 | 219 => 182 | 260 => 260 | 217 => 204 | 225 => 218 | 224 => 219 | 267 => 220 | 266 => 235 | 314 => 242 | n => n, fun | 9 => 9 | 3 => 3 | 31 => 22 | 4 => 4 | 0 => 0 | 105 => 234 | 21 => 21 | 5 => 5 | 46 => 166 | 119 => 238 | 139 => 241 | 138 => 240 | 146 => 216 | 51 => 191 | n => n, fun | 1 => 0 | 3 => 6 | 4 => 7 | n => n⟩
theorem Tryz.lays221 : Go.Proofs.Lays.n221 Tryz.prog Tryz.lays221_ren := {
  mixed := by kernel_rfl
  f138 := Tryz.func251.trans tf_
  f143 := Tryz.func140.trans tf_
  f195 := Tryz.func257.trans tf_
  f197 := Tryz.func258.trans tf_
  f217 := Tryz.func204.trans tf_
  f218 := Tryz.func259.trans tf_
  f219 := Tryz.func182.trans tf_
  f221 := Tryz.func234.trans tf_
  f224 := Tryz.func219.trans tf_
  f225 := Tryz.func218.trans tf_
  f260 := Tryz.func260.trans tf_
  f266 := Tryz.func235.trans tf_
  f267 := Tryz.func220.trans tf_
  f268 := Tryz.func250.trans tf_
  f314 := Tryz.func242.trans tf_
  t0 := Tryz.underlying0
  a0 := Tryz.isAgg0
  z0 := Tryz.sizeOf0
  v0 := Tryz.zeroValue0
  t3 := Tryz.underlying3
  a3 := Tryz.isAgg3
  z3 := Tryz.sizeOf3
  v3 := Tryz.zeroValue3
  t4 := Tryz.underlying4
  a4 := Tryz.isAgg4
  z4 := Tryz.sizeOf4
  v4 := Tryz.zeroValue4
  t5 := Tryz.underlying5
  a5 := Tryz.isAgg5
  z5 := Tryz.sizeOf5
  v5 := Tryz.zeroValue5
  t9 := Tryz.underlying9
  a9 := Tryz.isAgg9
  z9 := Tryz.sizeOf9
  v9 := Tryz.zeroValue9
  t21 := Tryz.underlying21
  a21 := Tryz.isAgg21
  z21 := Tryz.sizeOf21
  v21 := Tryz.zeroValue21
  t31 := Tryz.underlying22
  a31 := Tryz.isAgg22
  z31 := Tryz.sizeOf22
  v31 := Tryz.zeroValue22
  t46 := Tryz.underlying166
  a46 := Tryz.isAgg166
  z46 := Tryz.sizeOf166
  v46 := Tryz.zeroValue166
  t51 := Tryz.underlying191
  a51 := Tryz.isAgg191
  z51 := Tryz.sizeOf191
  v51 := Tryz.zeroValue191
  t105 := Tryz.underlying234
  a105 := Tryz.isAgg234
  z105 := Tryz.sizeOf234
  v105 := Tryz.zeroValue234
  t119 := Tryz.underlying238
  a119 := Tryz.isAgg238
  z119 := Tryz.sizeOf238
  t138 := Tryz.underlying240
  a138 := Tryz.isAgg240
  z138 := Tryz.sizeOf240
  v138 := Tryz.zeroValue240
  t139 := Tryz.underlying241
  a139 := Tryz.isAgg241
  z139 := Tryz.sizeOf241
  v139 := Tryz.zeroValue241
  t146 := Tryz.underlying216
  a146 := Tryz.isAgg216
  z146 := Tryz.sizeOf216
  v146 := Tryz.zeroValue216
  g1 := by kernel_rfl
  g3 := by kernel_rfl
  g4 := by kernel_rfl }
def Tryz.lays146_ren : Go.Shelf.Ren := ⟨fun | 146 => 200 | 221 => 234 | 268 => 250 | 138 => 251 | 143 => 140 | 195 => 257 | 197 => 258 | 218 => 259 | 219 => 182 | 260 => 260 | 217 => 204 | 225 => 218 | 224 => 219 | 267 => 220 | 266 => 235 | 314 => 242 | n => n, fun | 9 => 9 | 31 => 22 | 3 => 3 | 4 => 4 | 0 => 0 | 105 => 234 | 21 => 21 | 5 => 5 | 46 => 166 | 119 => 238 | 139 => 241 | 138 => 240 | 146 => 216 | 51 => 191 | n => n, fun | 1 => 0 | 3 => 6 | 4 => 7 | n => n⟩
theorem Tryz.lays146 : Go.Proofs.Lays.n146 Tryz.prog Tryz.lays146_ren := {
  mixed := by kernel_rfl
  f138 := Tryz.func251.trans tf_
  f143 := Tryz.func140.trans tf_
  f146 := Tryz.func200.trans tf_
  f195 := Tryz.func257.trans tf_
  f197 := Tryz.func258.trans tf_
  f217 := Tryz.func204.trans tf_
  f218 := Tryz.func259.trans tf_
  f219 := Tryz.func182.trans tf_
  f221 := Tryz.func234.trans tf_
  f224 := Tryz.func219.trans tf_
  f225 := Tryz.func218.trans tf_
  f260 := Tryz.func260.trans tf_
  f266 := Tryz.func235.trans tf_
  f267 := Tryz.func220.trans tf_
  f268 := Tryz.func250.trans tf_
  f314 := Tryz.func242.trans tf_
  t0 := Tryz.underlying0
  a0 := Tryz.isAgg0
  z0 := Tryz.sizeOf0
  v0 := Tryz.zeroValue0
  t3 := Tryz.underlying3
  a3 := Tryz.isAgg3
  z3 := Tryz.sizeOf3
  v3 := Tryz.zeroValue3
  t4 := Tryz.underlying4
  a4 := Tryz.isAgg4
  z4 := Tryz.sizeOf4
  v4 := Tryz.zeroValue4
  t5 := Tryz.underlying5
  a5 := Tryz.isAgg5
  z5 := Tryz.sizeOf5
  v5 := Tryz.zeroValue5
  t9 := Tryz.underlying9
  a9 := Tryz.isAgg9
  z9 := Tryz.sizeOf9
  v9 := Tryz.zeroValue9
  t21 := Tryz.underlying21
  a21 := Tryz.isAgg21
  z21 := Tryz.sizeOf21
  v21 := Tryz.zeroValue21
  t31 := Tryz.underlying22
  a31 := Tryz.isAgg22
  z31 := Tryz.sizeOf22
  v31 := Tryz.zeroValue22
  t46 := Tryz.underlying166
  a46 := Tryz.isAgg166
  z46 := Tryz.sizeOf166
  v46 := Tryz.zeroValue166
  t51 := Tryz.underlying191
  a51 := Tryz.isAgg191
  z51 := Tryz.sizeOf191
  v51 := Tryz.zeroValue191
  t105 := Tryz.underlying234
  a105 := Tryz.isAgg234
  z105 := Tryz.sizeOf234
  v105 := Tryz.zeroValue234
  t119 := Tryz.underlying238
  a119 := Tryz.isAgg238
  z119 := Tryz.sizeOf238
  t138 := Tryz.underlying240
  a138 := Tryz.isAgg240
  z138 := Tryz.sizeOf240
  v138 := Tryz.zeroValue240
  t139 := Tryz.underlying241
  a139 := Tryz.isAgg241
  z139 := Tryz.sizeOf241
  v139 := Tryz.zeroValue241
  t146 := Tryz.underlying216
  a146 := Tryz.isAgg216
  z146 := Tryz.sizeOf216
  v146 := Tryz.zeroValue216
  g1 := by kernel_rfl
  g3 := by kernel_rfl
  g4 := by kernel_rfl }
open Go.RowKit Go.Lib in
theorem Tryz.strings_Split (s sep : ByteArray) (m : Int) (w : World) (hs : s.size < 4294967281) (hm : w.cell? ⟨0, 0, none⟩ = some (.int .i64 m)) (h1 : 1 ≤ sep.size) :
    Calls Tryz.prog 200 #[.string s, .string sep] w fun e w' =>
      e = .returned (.slice (some ⟨w.heap.size, 0, none⟩) (Lib.countB s sep + 1) (Lib.countB s sep + 1)) ∧ w' = w.alloc (.cells ((Lib.splitB sep 0 (Lib.countB s sep) s).map Value.string).toArray 9) := Any.strings_Split Tryz.lays146 (by kernel_rfl) s sep m w hs hm h1
def Tryz.lays152_ren : Go.Shelf.Ren := ⟨fun | 152 => 186 | 137 => 167 | 119 => 226 | 224 => 219 | 225 => 218 | 217 => 204 | 266 => 235 | n => n, fun | 9 => 9 | 21 => 21 | 3 => 3 | 4 => 4 | 5 => 5 | 0 => 0 | 46 => 166 | n => n, fun | n => n⟩
theorem Tryz.lays152 : Go.Proofs.Lays.n152 Tryz.prog Tryz.lays152_ren := {
  mixed := by kernel_rfl
  f119 := Tryz.func226.trans tf_
  f137 := Tryz.func167.trans tf_
  f152 := Tryz.func186.trans tf_
  f217 := Tryz.func204.trans tf_
  f224 := Tryz.func219.trans tf_
  f225 := Tryz.func218.trans tf_
  f266 := Tryz.func235.trans tf_
  t0 := Tryz.underlying0
  a0 := Tryz.isAgg0
  z0 := Tryz.sizeOf0
  v0 := Tryz.zeroValue0
  t3 := Tryz.underlying3
  a3 := Tryz.isAgg3
  z3 := Tryz.sizeOf3
  v3 := Tryz.zeroValue3
  t4 := Tryz.underlying4
  a4 := Tryz.isAgg4
  z4 := Tryz.sizeOf4
  v4 := Tryz.zeroValue4
  t5 := Tryz.underlying5
  a5 := Tryz.isAgg5
  z5 := Tryz.sizeOf5
  v5 := Tryz.zeroValue5
  t9 := Tryz.underlying9
  a9 := Tryz.isAgg9
  z9 := Tryz.sizeOf9
  v9 := Tryz.zeroValue9
  t21 := Tryz.underlying21
  a21 := Tryz.isAgg21
  z21 := Tryz.sizeOf21
  v21 := Tryz.zeroValue21
  t46 := Tryz.underlying166
  a46 := Tryz.isAgg166
  z46 := Tryz.sizeOf166
  v46 := Tryz.zeroValue166 }
open Go.RowKit Go.Lib in
theorem Tryz.strings_IndexRune_ascii (s : ByteArray) (r : Int) (w : World) (h0 : 0 ≤ r) (h1 : r < 128) :
    Calls Tryz.prog 186 #[.string s, .int .i32 r] w fun e w' => e = .returned (.int .i64 (Lib.indexByte s.data.toList r.toNat.toUInt8)) ∧ w' = w := Any.strings_IndexRune_ascii Tryz.lays152 s r w h0 h1
def Tryz.lays226_ren : Go.Shelf.Ren := ⟨fun | 226 => 187 | n => n, fun | 3 => 3 | 4 => 4 | n => n, fun | n => n⟩
theorem Tryz.lays226 : Go.Proofs.Lays.n226 Tryz.prog Tryz.lays226_ren := {
  mixed := by kernel_rfl
  f226 := Tryz.func187.trans tf_
  t3 := Tryz.underlying3
  a3 := Tryz.isAgg3
  z3 := Tryz.sizeOf3
  v3 := Tryz.zeroValue3
  t4 := Tryz.underlying4
  a4 := Tryz.isAgg4
  z4 := Tryz.sizeOf4
  v4 := Tryz.zeroValue4 }
open Go.RowKit Go.Lib in
theorem Tryz.strings_shouldUseASCIISet (n : Int) (w : World) :
    Calls Tryz.prog 187 #[.int .i64 n] w fun e w' => e = .returned (.bool (decide (8 < n))) ∧ w' = w := Any.strings_shouldUseASCIISet Tryz.lays226 n w
def Tryz.lays153_ren : Go.Shelf.Ren := ⟨fun | 153 => 146 | 152 => 186 | 226 => 187 | 227 => 188 | 228 => 189 | 137 => 167 | 119 => 226 | 224 => 219 | 225 => 218 | 217 => 204 | 266 => 235 | n => n, fun | 9 => 9 | 3 => 3 | 4 => 4 | 5 => 5 | 21 => 21 | 117 => 173 | 116 => 172 | 0 => 0 | 46 => 166 | 124 => 202 | n => n, fun | n => n⟩
theorem Tryz.lays153 : Go.Proofs.Lays.n153 Tryz.prog Tryz.lays153_ren := {
  mixed := by kernel_rfl
  f119 := Tryz.func226.trans tf_
  f137 := Tryz.func167.trans tf_
  f152 := Tryz.func186.trans tf_
  f153 := Tryz.func146.trans tf_
  f217 := Tryz.func204.trans tf_
  f224 := Tryz.func219.trans tf_
  f225 := Tryz.func218.trans tf_
  f226 := Tryz.func187.trans tf_
  f227 := Tryz.func188.trans tf_
  f228 := Tryz.func189.trans tf_
  f266 := Tryz.func235.trans tf_
  t0 := Tryz.underlying0
  a0 := Tryz.isAgg0
  z0 := Tryz.sizeOf0
  v0 := Tryz.zeroValue0
  t3 := Tryz.underlying3
  a3 := Tryz.isAgg3
  z3 := Tryz.sizeOf3
  v3 := Tryz.zeroValue3
  t4 := Tryz.underlying4
  a4 := Tryz.isAgg4
  z4 := Tryz.sizeOf4
  v4 := Tryz.zeroValue4
  t5 := Tryz.underlying5
  a5 := Tryz.isAgg5
  z5 := Tryz.sizeOf5
  v5 := Tryz.zeroValue5
  t9 := Tryz.underlying9
  a9 := Tryz.isAgg9
  z9 := Tryz.sizeOf9
  v9 := Tryz.zeroValue9
  t21 := Tryz.underlying21
  a21 := Tryz.isAgg21
  z21 := Tryz.sizeOf21
  v21 := Tryz.zeroValue21
  t46 := Tryz.underlying166
  a46 := Tryz.isAgg166
  z46 := Tryz.sizeOf166
  v46 := Tryz.zeroValue166
  t116 := Tryz.underlying172
  a116 := Tryz.isAgg172
  z116 := Tryz.sizeOf172
  t117 := Tryz.underlying173
  a117 := Tryz.isAgg173
  z117 := Tryz.sizeOf173
  v117 := Tryz.zeroValue173
  t124 := Tryz.underlying202
  a124 := Tryz.isAgg202
  z124 := Tryz.sizeOf202
  v124 := Tryz.zeroValue202 }
open Go.RowKit Go.Lib in
theorem Tryz.strings_IndexAny_none (s chars : ByteArray) (w : World) (h0 : chars.size = 0) :
    Calls Tryz.prog 146 #[.string s, .string chars] w fun e w' => e = .returned (.int .i64 (Lib.indexAny s.data.toList chars.data.toList)) ∧ w' = w := Any.strings_IndexAny_none Tryz.lays153 s chars w h0
open Go.RowKit Go.Lib in
theorem Tryz.strings_IndexAny_one (s chars : ByteArray) (w : World) (h1 : chars.size = 1) (hascii : ∀ (j : Nat) b, chars.data.toList[j]? = some b → b.toNat < 128) :
    Calls Tryz.prog 146 #[.string s, .string chars] w fun e w' => e = .returned (.int .i64 (Lib.indexAny s.data.toList chars.data.toList)) ∧ w' = w := Any.strings_IndexAny_one Tryz.lays153 s chars w h1 hascii
open Go.RowKit Go.Lib in
theorem Tryz.strings_IndexAny_long (hv116 : ∀ w, (zeroValue 172).run Tryz.prog w = .ok (.agg (Array.replicate 256 (.bool false))) w) (s chars : ByteArray) (w : World) (h2 : 2 ≤ chars.size) (h8 : 8 < s.size) (hs : s.size < 4294967281) (hcs : chars.size < 4294967281) (hascii : ∀ (j : Nat) b, chars.data.toList[j]? = some b → b.toNat < 128) :
    Calls Tryz.prog 146 #[.string s, .string chars] w fun e w' => e = .returned (.int .i64 (Lib.indexAny s.data.toList chars.data.toList)) ∧ w' = ((w.alloc (.cells (Lib.setCells chars.data.toList) 172)).alloc (.cells (Lib.setCells chars.data.toList) 172)) := Any.strings_IndexAny_long Tryz.lays153 hv116 (by kernel_rfl) s chars w h2 h8 hs hcs hascii
def Tryz.lays150_ren : Go.Shelf.Ren := ⟨fun | 150 => 85 | 153 => 146 | 152 => 186 | 226 => 187 | 227 => 188 | 228 => 189 | 137 => 167 | 119 => 226 | 224 => 219 | 225 => 218 | 217 => 204 | 266 => 235 | n => n, fun | 9 => 9 | 4 => 4 | 3 => 3 | 5 => 5 | 21 => 21 | 117 => 173 | 116 => 172 | 0 => 0 | 46 => 166 | 124 => 202 | n => n, fun | n => n⟩
theorem Tryz.lays150 : Go.Proofs.Lays.n150 Tryz.prog Tryz.lays150_ren := {
  mixed := by kernel_rfl
  f119 := Tryz.func226.trans tf_
  f137 := Tryz.func167.trans tf_
  f150 := Tryz.func85.trans tf_
  f152 := Tryz.func186.trans tf_
  f153 := Tryz.func146.trans tf_
  f217 := Tryz.func204.trans tf_
  f224 := Tryz.func219.trans tf_
  f225 := Tryz.func218.trans tf_
  f226 := Tryz.func187.trans tf_
  f227 := Tryz.func188.trans tf_
  f228 := Tryz.func189.trans tf_
  f266 := Tryz.func235.trans tf_
  t0 := Tryz.underlying0
  a0 := Tryz.isAgg0
  z0 := Tryz.sizeOf0
  v0 := Tryz.zeroValue0
  t3 := Tryz.underlying3
  a3 := Tryz.isAgg3
  z3 := Tryz.sizeOf3
  v3 := Tryz.zeroValue3
  t4 := Tryz.underlying4
  a4 := Tryz.isAgg4
  z4 := Tryz.sizeOf4
  v4 := Tryz.zeroValue4
  t5 := Tryz.underlying5
  a5 := Tryz.isAgg5
  z5 := Tryz.sizeOf5
  v5 := Tryz.zeroValue5
  t9 := Tryz.underlying9
  a9 := Tryz.isAgg9
  z9 := Tryz.sizeOf9
  v9 := Tryz.zeroValue9
  t21 := Tryz.underlying21
  a21 := Tryz.isAgg21
  z21 := Tryz.sizeOf21
  v21 := Tryz.zeroValue21
  t46 := Tryz.underlying166
  a46 := Tryz.isAgg166
  z46 := Tryz.sizeOf166
  v46 := Tryz.zeroValue166
  t116 := Tryz.underlying172
  a116 := Tryz.isAgg172
  z116 := Tryz.sizeOf172
  t117 := Tryz.underlying173
  a117 := Tryz.isAgg173
  z117 := Tryz.sizeOf173
  v117 := Tryz.zeroValue173
  t124 := Tryz.underlying202
  a124 := Tryz.isAgg202
  z124 := Tryz.sizeOf202
  v124 := Tryz.zeroValue202 }
open Go.RowKit Go.Lib in
theorem Tryz.strings_ContainsAny (hv116 : ∀ w, (zeroValue 172).run Tryz.prog w = .ok (.agg (Array.replicate 256 (.bool false))) w) (s chars : ByteArray) (w : World) (hs : s.size < 4294967281) (hcs : chars.size < 4294967281) (has : ∀ (j : Nat) b, s.data.toList[j]? = some b → b.toNat < 128) (hac : ∀ (j : Nat) b, chars.data.toList[j]? = some b → b.toNat < 128) :
    Calls Tryz.prog 85 #[.string s, .string chars] w fun e w' => e = .returned (.bool (Lib.containsAny s.data.toList chars.data.toList)) ∧ Below w.heap.size w w' := Any.strings_ContainsAny Tryz.lays150 hv116 (by kernel_rfl) s chars w hs hcs has hac
end Go.Proofs
namespace Go.Proofs.YtbhfbbfjdklfgaaGreatDoor.Q
open Go.Proofs.Tryz Go.Shelf Go.RowKit Go.Lib Go.Proofs.YtbhfbbfjdklfgaaGreatDoorW.PrintWords Go.Proofs.YtbhfbbfjdklfgaaGreatDoorW.PrintLast
section
variable {P : Program} {ρ : Ren}
theorem ib_none : ∀ (l : List UInt8) (c : UInt8), c ∉ l → Lib.indexByte l c = -1
  | [], _, _ => rfl
  | b :: r, c, h => by
    simp only [List.mem_cons, not_or] at h
    rw [Lib.indexByte, if_neg (by simpa using fun e => h.1 e.symm), ib_none r c h.2]; rfl
theorem IndexRune_high (L : Lays.n152 P ρ) (s : ByteArray) (r : Int) (w : World) (h128 : 128 ≤ r) (hs : ∀ b ∈ s.data.toList, b.toNat < 128) (hz : s.size < 4294967281) :
    Calls P (ρ.f 152) #[.string s, .int .i32 r] w fun e w' => e = .returned (.int .i64 (-1)) ∧ Below w.heap.size w w' := by
  have mixed := L.mixed
  have t3 := L.t3; have a3 := L.a3; have z3 := L.z3; have v3 := L.v3
  have t4 := L.t4; have a4 := L.a4; have z4 := L.z4; have v4 := L.v4
  have t5 := L.t5; have a5 := L.a5; have z5 := L.z5; have v5 := L.v5
  have t9 := L.t9; have a9 := L.a9; have z9 := L.z9; have v9 := L.v9
  have t21 := L.t21; have a21 := L.a21; have z21 := L.z21; have v21 := L.v21
  have e137 : ∀ args w, (callFunc (ρ.f 137) args).run P w = .ok (.enter (ρ.f 137) args) w := enters_of L.f137 (by kernel_rfl) rfl
  have e119 : ∀ args w, (callFunc (ρ.f 119) args).run P w = .ok (.enter (ρ.f 119) args) w := enters_of L.f119 (by kernel_rfl) rfl
  have hn1 : ¬ r < 128 := by omega
  have h0 : (0 : Int) ≤ r := by omega
  by_cases hbad : r = 65533
  · subst hbad
    have HS : Aside (∀ b ∈ s.data.toList, b.toNat < 128) := hs
    clear hs
    go_enter L.f152, Body.n152_ntmps ρ
    go_wp2
    go_loopg [5, 6] s.size (fun g _ _ wx => ∃ i : Nat, i + g = s.size ∧ wx = w.iter s i)
    case atStart => exact ⟨0, by omega, rfl⟩
    case round =>
      obtain ⟨i, hig, rfl⟩ := hrel
      cases gk with
      | zero =>
        obtain rfl : i = s.size := by omega
        have hnx := run_next_end (P := P) w s s.size
        go_wp2
        go_ret
        exact ⟨rfl, (Below.refl _ _).alloc (Nat.le_refl _) _⟩
      | succ g =>
        have hi : i < s.size := by omega
        obtain ⟨x, hx⟩ : ∃ x : UInt8, s[i]'hi = x := ⟨_, rfl⟩
        have hx128 : x.toNat < 128 := HS.out x (by rw [← hx]; exact List.mem_of_getElem? (Lib.data_getElem? s i hi))
        have hnx := fun ty => run_next_ascii (P := P) w s i ty hi (by rw [hx]; exact hx128)
        rw [hx] at hnx
        clear hx
        have hne : ¬ ((x.toNat : Int) = 65533) := by omega
        go_wp2
        go_roundg g
        case measure => omega
        case rel => exact ⟨i + 1, by omega, rfl⟩
  by_cases hv : Lib.validRune r = true
  · obtain ⟨e2, e4, elast⟩ := encode_facts r (by rw [show Utf8.valid r = Lib.validRune r from validRune_eq r]; exact hv) h128
    obtain ⟨rs, hrs⟩ : ∃ rs, rs = Utf8.encode r := ⟨_, rfl⟩
    rw [← hrs] at e2 e4 elast
    have hconv : ∀ w : World, (convert (ρ.t 21) (ρ.t 9) (.int .i32 r)).run P w = .ok (.string rs) w := fun w => by rw [hrs]; exact run_convert_int_string w _ _ _ _ (by rw [t21]; rfl) t9
    go_enter L.f152, Body.n152_ntmps ρ
    go_wp2_with (first | (go_at_fn (ρ.f 119); refine (Any.utf8_ValidRune { L with } _ _).mono ?_; rintro e w' ⟨rfl, hw⟩; rw [hw, hv]) | (simp only [hconv]))
    have HS : Aside (∀ b ∈ s.data.toList, b.toNat < 128) := hs
    have hl0 : rs.size - 1 < rs.size := by omega
    obtain ⟨c, hc⟩ : ∃ c : UInt8, rs[rs.size - 1]'hl0 = c := ⟨_, rfl⟩
    have hc128 := elast hl0
    rw [hc] at hc128
    obtain ⟨q, hq⟩ : ∃ q, rs.size = q + 1 := ⟨rs.size - 1, by omega⟩
    have HC : Aside (rs[rs.size - 1]'hl0 = c) := hc
    clear hs elast hc hrs
    have hlb : IntKind.i64.wrap ((rs.size : Int) - 1) = (q : Int) := by rw [IntKind.wrap_i64, hq]; omega
    go_step3
    go_wp2_with (simp only [hconv])
    go_loopg [9, 10] 1 (fun _ v9 v10 wx => v9 = .int .i64 (q : Int) ∧ v10 = .int .i64 0 ∧ wx = w)
    case atStart => exact ⟨rfl, rfl, rfl⟩
    case round =>
      obtain ⟨rfl, rfl, rfl⟩ := hrel
      by_cases hqs : q < s.size
      · obtain ⟨x, hx⟩ : ∃ x : UInt8, s[q]'hqs = x := ⟨_, rfl⟩
        have hx128 : x.toNat < 128 := HS.out x (by rw [← hx]; exact List.mem_of_getElem? (Lib.data_getElem? s q hqs))
        have hc' : rs[q]'(by omega) = c := by have := HC.out; simp only [hq, Nat.add_sub_cancel] at this; exact this
        have hne : ¬ (x.toNat = c.toNat) := by omega
        go_wp2
        go_step3
        go_wp2
        go_region_o
        have hneb : ((x.toNat : Int) != (c.toNat : Int)) = true := by rw [bne_iff_ne]; omega
        have hib : ∀ e, Lib.indexByte (s.extract (q + 1) e).data.toList ((c.toNat : Int)).toNat.toUInt8 = -1 := fun e => by
          rw [show ((c.toNat : Int)).toNat.toUInt8 = c by simp]
          exact ib_none _ _ (fun hm => by have := HS.out c (mem_extract hm); omega)
        go_wp2
        have hw1 : IntKind.i64.wrap ((q : Int) + 1) = (q : Int) + 1 := by rw [IntKind.wrap_i64]; omega
        have hle1 : (q : Int) + 1 ≤ (s.size : Int) := by omega
        have hge1 : (0 : Int) ≤ (q : Int) + 1 := by omega
        have htn1 : ((q : Int) + 1).toNat = q + 1 := by omega
        go_region_with_o (go_at_fn (ρ.f 137); refine (Any.strings_IndexByte { L with } _ _ _).mono ?_; rintro e w' ⟨rfl, hw⟩; rw [hw, hib])
        go_wp2
        simp only [Exit.noGoto_ret, go_sem]
        go_ret
        exact ⟨rfl, ((Below.refl _ _).drew).drew⟩
      · go_wp2
        simp only [Exit.noGoto_ret, go_sem]
        go_ret
        exact ⟨rfl, Below.refl _ _⟩
  · have hv' : Lib.validRune r = false := by simpa using hv
    go_enter L.f152, Body.n152_ntmps ρ
    go_wp2_with (go_at_fn (ρ.f 119); refine (Any.utf8_ValidRune { L with } _ _).mono ?_; rintro e w' ⟨rfl, hw⟩; rw [hw, hv'])
    go_ret
    exact ⟨rfl, Below.refl _ _⟩
theorem ascii_has {chars : ByteArray} (hc : ∀ b ∈ chars.data.toList, b.toNat < 128) {b : UInt8} (hb : 128 ≤ b.toNat) : chars.data.toList.contains b = false := by
  rw [← Bool.not_eq_true, List.contains_iff_mem]
  exact fun h => by have := hc b h; omega
theorem noAny_rune {s chars : ByteArray} (hc : ∀ b ∈ chars.data.toList, b.toNat < 128) {i : Nat} (hi : i < s.size) (hno : Lib.NoAny s.data.toList chars.data.toList i) (h128 : 128 ≤ (s[i]'hi).toNat) :
    Lib.NoAny s.data.toList chars.data.toList (i + (Utf8.decode s i).2) ∧ i + (Utf8.decode s i).2 ≤ s.size := by
  have hd := Lib.decode_N s i
  have hk := Lib.decodeN_conts (s.data.toList.length - i) (s.data.toList.getD i 0).toNat (s.data.toList.getD (i + 1) 0).toNat (s.data.toList.getD (i + 2) 0).toNat (s.data.toList.getD (i + 3) 0).toNat
  rw [← hd] at hk
  obtain ⟨k1, k2, k3, k4⟩ := hk
  have hl : s.data.toList.length = s.size := (Lib.size_eq s).symm
  have h1 := (decode_high s i hi h128).2
  refine ⟨fun j b hj hb => ?_, ?_⟩
  · by_cases hlt : j < i
    · exact hno j b hlt hb
    · refine ascii_has hc ?_
      have hg : ∀ d, j = i + d → (s.data.toList.getD (i + d) 0).toNat = b.toNat := fun d hd => by rw [← hd, List.getD, hb]; rfl
      have hx : s.data.toList[i]? = some (s[i]'hi) := Lib.data_getElem? s i hi
      by_cases e0 : j = i
      · rw [e0, hx] at hb
        rw [← Option.some.inj hb]; exact h128
      by_cases e1 : j = i + 1
      · have := hg 1 e1; have := k1 (by omega); omega
      by_cases e2 : j = i + 2
      · have := hg 2 e2; have := k2 (by omega); omega
      by_cases e3 : j = i + 3
      · have := hg 3 e3; have := k3 (by omega); omega
      omega
  · rw [hl] at k1 k2 k3
    have : (Utf8.decode s i).2 = 1 ∨ (Utf8.decode s i).2 = 2 ∨ (Utf8.decode s i).2 = 3 ∨ (Utf8.decode s i).2 = 4 := by omega
    rcases this with h | h | h | h
    · omega
    · have := k1 (by omega); omega
    · have := k2 (by omega); omega
    · have := k3 (by omega); omega
theorem IndexAny_short_any (L : Lays.n153 P ρ) (s chars : ByteArray) (w : World) (h2 : 2 ≤ chars.size) (h8 : s.size ≤ 8) (hc : ∀ b ∈ chars.data.toList, b.toNat < 128) (hcs : chars.size < 4294967281) :
    Calls P (ρ.f 153) #[.string s, .string chars] w fun e w' => e = .returned (.int .i64 (Lib.indexAny s.data.toList chars.data.toList)) ∧ Below w.heap.size w w' := by
  have HA : Aside (∀ b ∈ chars.data.toList, b.toNat < 128) := hc
  clear hc
  have hemp : chars.toList.isEmpty = false := by
    rw [Lib.toList_data]
    cases h : chars.data.toList with
    | nil => have := Lib.size_eq chars; rw [h, List.length_nil] at this; omega
    | cons _ _ => rfl
  have hn1 : ((chars.size : Int) == 1) = false := beq_eq_false_iff_ne.2 (by omega)
  have h8z : decide ((8 : Int) < (s.size : Int)) = false := decide_eq_false (by omega)
  have t3 := L.t3; have a3 := L.a3; have z3 := L.z3; have v3 := L.v3
  have t4 := L.t4; have a4 := L.a4; have z4 := L.z4; have v4 := L.v4
  have t5 := L.t5; have a5 := L.a5; have z5 := L.z5; have v5 := L.v5
  have t9 := L.t9; have a9 := L.a9; have z9 := L.z9; have v9 := L.v9
  have t21 := L.t21; have a21 := L.a21; have z21 := L.z21; have v21 := L.v21
  have e152 : ∀ args w, (callFunc (ρ.f 152) args).run P w = .ok (.enter (ρ.f 152) args) w := enters_of L.f152 (by kernel_rfl) rfl
  have e226 : ∀ args w, (callFunc (ρ.f 226) args).run P w = .ok (.enter (ρ.f 226) args) w := enters_of L.f226 (by kernel_rfl) rfl
  go_enter L.f153, Body.n153_ntmps ρ
  go_wp2_with (go_at_fn (ρ.f 226); refine (Any.strings_shouldUseASCIISet { L with } _ _).mono ?_; rintro e w' ⟨rfl, hw⟩; rw [hw, h8z])
  go_loopg [9, 10] s.size (fun g _ _ wx => ∃ i : Nat, i ≤ s.size ∧ s.size ≤ i + g ∧ Aside (Below w.heap.size w wx) ∧ Aside (wx.heap[w.heap.size]? = some (.stringIter s i)) ∧ Aside (Lib.NoAny s.data.toList chars.data.toList i))
  case atStart => exact ⟨0, by omega, by omega, (show Below _ _ _ from (Below.refl _ _).alloc (Nat.le_refl _) _), World.iter_heap w s 0, Lib.NoAny.zero _ _⟩
  case round =>
    obtain ⟨i, hil, hig, HB, HI, HN⟩ := hrel
    by_cases hi : i < s.size
    · obtain ⟨x, hx⟩ : ∃ x : UInt8, s[i]'hi = x := ⟨_, rfl⟩
      have hxl : s.data.toList[i]? = some x := by rw [← hx]; exact Lib.data_getElem? s i hi
      have hnx := fun ty => run_next_any_at (P := P) wr w.heap.size s i ty HI.out hi
      obtain ⟨W1, hW1⟩ : ∃ W1, W1 = wr.iterAt w.heap.size s (i + (Utf8.decode s i).2) := ⟨_, rfl⟩
      have HB1 : Aside (Below w.heap.size w W1) := by rw [hW1]; exact below_iterAt HB.out (Nat.le_refl _) _ _
      have HI1 : Aside (W1.heap[w.heap.size]? = some (.stringIter s (i + (Utf8.decode s i).2))) := by rw [hW1]; exact iterAt_heap _ _ _ _ _ HI.out
      rw [← hW1] at hnx
      by_cases h128 : x.toNat < 128
      · have hdec : Utf8.decode s i = (x.toNat, 1) := by rw [decode_ascii s i hi (by rw [hx]; exact h128), hx]
        rw [hdec] at hnx HI1
        have Hx : Aside (s.data.toList[i]? = some x) := hxl
        clear hxl hx hW1 hdec
        have hcon := Lib.contains_iff_indexByte chars.data.toList x
        have hback : ((x.toNat : Int)).toNat.toUInt8 = x := by simp
        cases hin : chars.data.toList.contains x
        · rw [hin] at hcon
          have hlt : ¬ ((0 : Int) ≤ Lib.indexByte chars.data.toList x) := of_decide_eq_false hcon.symm
          clear hcon
          go_wp2_with (go_at_fn (ρ.f 152); refine (Any.strings_IndexRune_ascii { L with } _ _ _ (by omega) (by omega)).mono ?_; rintro e w' ⟨rfl, hw⟩; rw [hw, hback])
          go_roundg (s.size - (i + 1))
          case measure => omega
          case rel => exact ⟨i + 1, by omega, by omega, HB1, HI1, HN.out.succ Hx.out hin⟩
        · rw [hin] at hcon
          have hge : (0 : Int) ≤ Lib.indexByte chars.data.toList x := of_decide_eq_true hcon.symm
          clear hcon
          go_wp2_with (go_at_fn (ρ.f 152); refine (Any.strings_IndexRune_ascii { L with } _ _ _ (by omega) (by omega)).mono ?_; rintro e w' ⟨rfl, hw⟩; rw [hw, hback])
          go_ret
          exact ⟨by rw [Lib.indexAny_hit HN.out Hx.out hin]; rfl, HB1.out⟩
      · have hhigh := decode_high s i hi (by rw [hx]; omega)
        have hnr := noAny_rune HA.out hi HN.out (by rw [hx]; omega)
        obtain ⟨c, hcd⟩ : ∃ c, c = (Utf8.decode s i).1 := ⟨_, rfl⟩
        obtain ⟨n, hnd⟩ : ∃ n, n = (Utf8.decode s i).2 := ⟨_, rfl⟩
        rw [← hcd] at hnx hhigh
        rw [← hnd] at hhigh hnr HI1
        clear hW1 hcd hnd hx hxl
        obtain ⟨hc128, hn1'⟩ := hhigh
        obtain ⟨hnr1, hnr2⟩ := hnr
        have HNR : Aside (Lib.NoAny s.data.toList chars.data.toList (i + n)) := hnr1
        clear hnr1
        go_wp2_with (go_at_fn (ρ.f 152); refine (IndexRune_high { L with } _ _ _ (by omega) HA.out hcs).mono ?_; rintro e w' ⟨rfl, hw⟩)
        go_roundg (s.size - (i + n))
        case measure => omega
        case rel => exact ⟨i + n, by omega, by omega, HB1.out.trans (hw.mono HB1.out.size), (hw.block _ ((Array.getElem?_eq_some_iff.1 HI1.out).1)).trans HI1.out, HNR⟩
    · obtain rfl : i = s.size := by omega
      have hnx := fun ty => run_next_end_at (P := P) wr w.heap.size s s.size ty HI.out (by omega)
      go_wp2
      go_ret
      exact ⟨by rw [Lib.indexAny_none (by rw [← Lib.size_eq]; exact HN.out)]; rfl, HB.out⟩
theorem IndexAny_any (L : Lays.n153 P ρ) (h116 : (P.info? (ρ.t 116)).map (fun i => (i.zero, i.size)) = some (some (.agg (Array.replicate 256 (.bool false))), 256)) (s chars : ByteArray) (w : World) (hs : s.size < 4294967281) (hcs : chars.size < 4294967281) (hc : ∀ b ∈ chars.data.toList, b.toNat < 128) :
    Calls P (ρ.f 153) #[.string s, .string chars] w fun e w' => e = .returned (.int .i64 (Lib.indexAny s.data.toList chars.data.toList)) ∧ Below w.heap.size w w' := by
  have hac : ∀ (j : Nat) b, chars.data.toList[j]? = some b → b.toNat < 128 := fun j b h => hc b (List.mem_of_getElem? h)
  by_cases h0 : chars.size = 0
  · exact (Any.strings_IndexAny_none L s chars w h0).mono fun e w' ⟨h1, h2⟩ => ⟨h1, h2 ▸ Below.refl _ _⟩
  by_cases h1 : chars.size = 1
  · exact (Any.strings_IndexAny_one L s chars w h1 hac).mono fun e w' ⟨h1, h2⟩ => ⟨h1, h2 ▸ Below.refl _ _⟩
  by_cases h8 : s.size ≤ 8
  · exact IndexAny_short_any L s chars w (by omega) h8 hc hcs
  · refine (Any.strings_IndexAny_long L (zero_of_info h116).1 (zero_of_info h116).2 s chars w (by omega) (by omega) hs hcs hac).mono fun e w' ⟨h1, h2⟩ => ⟨h1, ?_⟩
    rw [h2]
    exact ((Below.refl _ _).alloc (Nat.le_refl _) _).alloc (by simp) _
theorem ContainsAny_any (L : Lays.n150 P ρ) (h116 : (P.info? (ρ.t 116)).map (fun i => (i.zero, i.size)) = some (some (.agg (Array.replicate 256 (.bool false))), 256)) (s chars : ByteArray) (w : World) (hs : s.size < 4294967281) (hcs : chars.size < 4294967281) (hc : ∀ b ∈ chars.data.toList, b.toNat < 128) :
    Calls P (ρ.f 150) #[.string s, .string chars] w fun e w' => e = .returned (.bool (Lib.containsAny s.data.toList chars.data.toList)) ∧ Below w.heap.size w w' := by
  have c := IndexAny_any { L with } h116 s chars w hs hcs hc
  have t3 := L.t3; have a3 := L.a3; have z3 := L.z3; have v3 := L.v3
  have t4 := L.t4; have a4 := L.a4; have z4 := L.z4; have v4 := L.v4
  have t9 := L.t9; have a9 := L.a9; have z9 := L.z9; have v9 := L.v9
  have e153 : ∀ args w, (callFunc (ρ.f 153) args).run P w = .ok (.enter (ρ.f 153) args) w := enters_of L.f153 (by kernel_rfl) rfl
  go_enter L.f150, Body.n150_ntmps ρ
  go_wp2_with (go_at_fn (ρ.f 153); refine c.mono ?_; rintro e w' ⟨rfl, hw⟩)
  go_ret
  exact ⟨rfl, hw⟩
end
end Go.Proofs.YtbhfbbfjdklfgaaGreatDoor.Q
namespace Go.Proofs.YtbhfbbfjdklfgaaGreatDoor.Q
open Go.Proofs.Tryz Go.RowKit Go.Proofs.YtbhfbbfjdklfgaaGreatDoorW.PrintWords Go.Proofs.YtbhfbbfjdklfgaaGreatDoorW.PrintLast
def GV (w : World) : Prop := (∃ m : Int, w.cell? ⟨0, 0, none⟩ = some (.int .i64 m)) ∧ Lib.TabIs Tryz.prog w "internal/strconv.uint64pow10" .u64 Lib.pow10Tab
theorem tabG : ∃ g, Tryz.prog.globalNamed "internal/strconv.uint64pow10" = some g := Option.isSome_iff_exists.1 (show (Tryz.prog.globalNamed "internal/strconv.uint64pow10").isSome = true by kernel_rfl)
theorem GV.below {w w1 : World} (h : GV w) (hb : Below w.heap.size w w1) : GV w1 := by
  obtain ⟨⟨m, hm⟩, ht⟩ := h
  obtain ⟨g, hg⟩ := tabG
  exact ⟨⟨m, (hb.cell (World.block_lt_of_cell? _ _ hm)).trans hm⟩, Go.Joins.tab_stays hg ht hb (Nat.le_refl _)⟩
theorem tabIs_of_mem {P : Program} {W : World} {name : String} {k : IntKind} {zs : List Int} {l : List (String × DataW Unit)} {g : Nat} {t e : TypeId} {n : Nat}
    (hg : P.globalNamed name = some g) (hty : (P.globals[g]?).map (·.type) = some t) (ht : P.underlying t = some (.array n e)) (he : P.underlying e = some (.int k)) (hce : P.cellsOf e = 1) (hct : P.cellsOf t = n)
    (h : laidMet P l W) (hm : (name, Lib.tabData k zs) ∈ l) : Lib.TabIs P W name k zs := by
  obtain ⟨g', t', cs, fuel, p, hg', ht', hvar, hd⟩ := Lib.laidMet.reads h hm
  obtain rfl := Option.some.inj (hg.symm.trans hg')
  obtain rfl := Option.some.inj (hty.symm.trans ht')
  unfold Lib.TabIs
  rw [hvar, ← Lib.cells_of_tab ht he hce hct hd]
theorem pow_data : (Rows.laid_internal_strconv_uint64pow10 : DataW Unit) = Lib.tabData .u64 Lib.pow10Tab := rfl
theorem GV.shaped {w : World} (h : w.ShapedOpen Tryz.prog) {l : List (String × DataW Unit)} (hl : laidMet Tryz.prog l w) (hm : ("internal/strconv.uint64pow10", Rows.laid_internal_strconv_uint64pow10) ∈ l) : GV w := by
  refine ⟨Tryz.laysM144.s1_3 w h, ?_⟩
  rw [pow_data] at hm
  exact tabIs_of_mem (t := 224) (e := 193) (n := 20) (Option.some_get (x := Tryz.prog.globalNamed "internal/strconv.uint64pow10") (by kernel_rfl)).symm (by kernel_rfl) underlying224 underlying193 (by kernel_rfl) (by kernel_rfl) hl hm
def strings_Contains2.f (a0 a1 : ByteArray) : Option Bool := if a0.size < 4294967281 then some (Lib.contains a0.data.toList a1.data.toList) else none
theorem strings_Contains2.calls (a0 a1 : ByteArray) (r : Bool) (w : World) (hgv : GV w) (h : strings_Contains2.f a0 a1 = some r) :
    Calls Tryz.prog 68 #[.string a0, .string a1] w fun e w' => e = .returned (.bool r) ∧ Drawn0 w w' := by
  unfold strings_Contains2.f at h
  split at h
  · rename_i hs
    obtain rfl := Option.some.inj h
    obtain ⟨⟨m, hm⟩, _⟩ := hgv
    refine (Tryz.strings_Contains a0 a1 m w hs hm).mono ?_
    rintro e w' ⟨rfl, rfl⟩
    exact ⟨rfl, Drawn0.refl _⟩
  · cases h
def strings_Cut.f (a0 a1 : ByteArray) : Option (ByteArray × ByteArray × Bool) := if a0.size < 4294967281 then some (⟨(Lib.cut a0.data.toList a1.data.toList).1.toArray⟩, ⟨(Lib.cut a0.data.toList a1.data.toList).2.1.toArray⟩, (Lib.cut a0.data.toList a1.data.toList).2.2) else none
theorem strings_Cut.calls (a0 a1 : ByteArray) (r1 r2 : ByteArray) (r3 : Bool) (w : World) (hgv : GV w) (h : strings_Cut.f a0 a1 = some (r1, r2, r3)) :
    Calls Tryz.prog 82 #[.string a0, .string a1] w fun e w' => e = .returned (.tuple #[.string r1, .string r2, .bool r3]) ∧ Drawn0 w w' := by
  unfold strings_Cut.f at h
  split at h
  · rename_i hs
    obtain ⟨rfl, h2⟩ := Prod.mk.inj (Option.some.inj h)
    obtain ⟨rfl, rfl⟩ := Prod.mk.inj h2
    obtain ⟨⟨m, hm⟩, _⟩ := hgv
    refine (Tryz.strings_Cut a0 a1 m w hs hm).mono ?_
    rintro e w' ⟨rfl, n, rfl⟩
    exact ⟨rfl, ⟨n, rfl⟩⟩
  · cases h
def strings_ContainsAny.f (a0 a1 : ByteArray) : Option Bool := if a0.size < 4294967281 then (if a1.size < 4294967281 then (if a1.data.toList.all (fun b => decide (b.toNat < 128)) = true then some (Lib.containsAny a0.data.toList a1.data.toList) else none) else none) else none
theorem strings_ContainsAny.calls (a0 a1 : ByteArray) (r : Bool) (w : World) (h : strings_ContainsAny.f a0 a1 = some r) :
    Calls Tryz.prog 85 #[.string a0, .string a1] w fun e w' => e = .returned (.bool r) ∧ Below w.heap.size w w' := by
  unfold strings_ContainsAny.f at h
  split at h
  · split at h
    · split at h
      · rename_i h1 h2 h3
        obtain rfl := Option.some.inj h
        exact ContainsAny_any Tryz.lays150 (by kernel_rfl) a0 a1 w h1 h2 (fun b hb => by have := List.all_eq_true.1 h3 b hb; simpa using this)
      · cases h
    · cases h
  · cases h
theorem below_more {w : World} (k : Nat) (os : Array Obj) : Below w.heap.size w (Go.Sort.grow (w.drewN k) os) :=
  ⟨rfl, rfl, rfl, by simp [Go.Sort.grow, World.drewN], fun b hb => by simp [Go.Sort.grow, World.drewN, Array.getElem?_append, hb]⟩
def strconv_Itoa.f (a0 : Int) : Option ByteArray := if -9223372036854775808 ≤ a0 then (if a0 ≤ 9223372036854775807 then some ⟨(Lib.itoa a0).toArray⟩ else none) else none
theorem strconv_Itoa.calls (a0 : Int) (r : ByteArray) (w : World) (hgv : GV w) (h : strconv_Itoa.f a0 = some r) :
    Calls Tryz.prog 91 #[.int .i64 a0] w fun e w' => e = .returned (.string r) ∧ Below w.heap.size w w' := by
  unfold strconv_Itoa.f at h
  split at h
  · split at h
    · rename_i h1 h2
      obtain rfl := Option.some.inj h
      refine (Tryz.strconv_Itoa a0 h1 h2 w hgv.2).mono ?_
      rintro e w' ⟨rfl, k, os, rfl⟩
      exact ⟨rfl, below_more k os⟩
    · cases h
  · cases h
end Go.Proofs.YtbhfbbfjdklfgaaGreatDoor.Q
section
namespace Go.Proofs.YtbhfbbfjdklfgaaGreatDoor.Q
variable {H : Type} {enc : TypeId × Value → H}
theorem returnsInHanded_and_shaped {a : Assume} {C : Checked} {os : Os} {f : FuncId} {fn : Func} {s : ChangeSpec} {conds : List PathCond} {apart fresh handsOn again : Bool} {X : World → Array Value → Prop}
    (hX : ∀ (w w' : World) (args : Array Value), w.heap = w'.heap → X w args → X w' args)
    (own : ownKnob C.prog.godebug = none) (started : os.Started) (noInit : C.prog.inits.idxOf? f = none) (hfn : C.prog.funcs[f]? = some fn)
    (witness : ∃ (w : World) (tape : Tape) (i : Input), w.os = os ∧ (w.forCall tape i).Shaped C.prog ∧ i.vars = [] ∧ Input.okWide C.prog (w.forCall tape i) .any w.heap.size f i ∧
      ((s.pre enc C.prog fn conds apart (w.forCall tape i).memory i.args ∧ X (w.forCall tape i).memory i.args) ∧ sizedMet enc C.prog fn (OpenSpec.ofChange s) apart (w.forCall tape i).memory i.args) ∧ a.holds C.prog (lone (Frame.enter C.prog f i.args .normal) [] (w.forCall tape i)))
    (contract : ∀ (W : World) (base : Nat) (args : Array Value) (ds gs : List (DataW H)) (before : List MemPlace),
      (∀ (j : Nat) t v, fn.params[j]? = some t → args[j]? = some v → Value.okWide C.prog W .any base t v) →
      DataW.Whole enc C.prog fn.params.toList s.vars apart W args.toList ds gs before →
      conds.all (PathCond.test C.prog ⟨fn.params.toList, ds, s.plain.varTypes C.prog, gs⟩) = true →
      (DataW.weightsEach C.prog (fn.params.toList ++ s.plain.varTypes C.prog) (ds ++ gs)).all (· ≤ reachBytes) = true → X W args → W.ShapedOpen C.prog →
      Calls C.prog f args W fun e W' => ∃ v, e = .returned v ∧ s.post enc C.prog fn apart fresh handsOn again W args v W') :
    ReturnsInHanded a C os f .any (fun w args => (s.pre enc C.prog fn conds apart w args ∧ X w args) ∧ sizedMet enc C.prog fn (OpenSpec.ofChange s) apart w args) (s.post enc C.prog fn apart fresh handsOn again) := by
  refine returnsInHanded_of_calls own started noInit witness ?_
  intro w tape i _ hsh _ hok hpre hholds
  obtain ⟨_, _, _, fn', hfn', _, _, _, _, hval⟩ := hok
  have e : fn' = fn := Option.some.inj (hfn'.symm.trans hfn)
  subst e
  obtain ⟨⟨⟨ds, gs, before, hw, hc⟩, hx⟩, hz⟩ := hpre
  have hw' := DataW.Whole.of_heap (w' := w.forCall tape i) (by rfl) hw
  refine (contract (w.forCall tape i) w.heap.size i.args ds gs before hval hw' hc (hz.weights hw) (hX _ _ _ (by rfl) hx) hsh).mono fun e W' ⟨v, he, hp⟩ => ?_
  subst he
  exact ChangeSpec.post_blind hp
end Go.Proofs.YtbhfbbfjdklfgaaGreatDoor.Q
end
namespace Go.Proofs.YtbhfbbfjdklfgaaGreatDoor.Q
open Go.Proofs.Tryz Go.RowKit Go.Proofs.YtbhfbbfjdklfgaaGreatDoorW.PrintWords Go.Proofs.YtbhfbbfjdklfgaaGreatDoorW.PrintLast Go.Proofs.YtbhfbbfjdklfgaaGreatDoorW.PrintMore
attribute [local go_sem] max2_int min2_int max_two min_two max_three min_three max_four min_four
def graftageref06_Same.l0 : Nat → List ByteArray → List ByteArray → Int → Option (Bool)
 | 0, _, _, _ => none
 | k + 1, x0, x1, x5 => if x5 < (x0.length : Int) then (if 0 ≤ x5 then (if x5 < (x1.length : Int) then (if (rdOf ByteArray.empty x0 x5).toList = (rdOf ByteArray.empty x1 x5).toList then (graftageref06_Same.l0 k x0 x1 (wrap64 (x5 + 1))) else (some false)) else (none)) else (none)) else (some true)
def graftageref06_Same.f (k : Nat) (l0 : List ByteArray) (l1 : List ByteArray) : Option (Bool) := if (l0.length : Int) = (l1.length : Int) then (graftageref06_Same.l0 k l0 l1 0) else (some false)
theorem graftageref06_Same.calls (k : Nat) (A0 : Option Addr) (c0 : Nat) (l0 : List ByteArray) (A1 : Option Addr) (c1 : Nat) (l1 : List ByteArray) (r : Bool) (w : World) (hr0 : Kd.C Kd.string w A0 l0.length l0) (hc0 : l0.length ≤ c0) (hr1 : Kd.C Kd.string w A1 l1.length l1) (hc1 : l1.length ≤ c1) (h : graftageref06_Same.f k l0 l1 = some r) :
  Calls Tryz.prog 38 #[.slice A0 l0.length c0, .slice A1 l1.length c1] w fun e w' => e = .returned (.bool r) ∧ Drawn0 w w' := by
 have HR0 := Aside0.mk hr0; have HC0 := Aside0.mk hc0; clear hr0 hc0; have HR1 := Aside0.mk hr1; have HC1 := Aside0.mk hc1; clear hr1 hc1; unfold graftageref06_Same.f at h; have H := h; clear h; by_cases c3 : (l0.length : Int) = (l1.length : Int); rotate_left
 ·rw [if_neg c3] at H; have c3b0 := ef_ c3; have c3b1 := nt_ c3; have c3b2 : (l0.length == l1.length) = false := by first | simpa using c3 | (simp at c3 ⊢; omega)
  obtain rfl := oi_ H; go_enter func38, ntmps38; go_wp2
  repeat (go_quiet (fail); try go_wp2)
  go_ret
  exact ⟨z1_, z2_⟩
 rw [if_pos c3] at H; have c3b0 := et_ c3; have c3b1 := nf_ c3; have c3b2 : (l0.length == l1.length) = true := by first | simpa using c3 | (simp at c3 ⊢; omega)
 clear c3; have H' := Aside0.mk H; clear H; go_enter func38, ntmps38; go_wp2
 repeat (go_quiet (fail); try go_wp2)
 go_loopg [5] k (fun kq v5 w' => ∃ (x5_1 : Int), v5 = .int .i64 x5_1 ∧ Aside0 (graftageref06_Same.l0 kq l0 l1 x5_1 = some r) ∧ Aside0 (kq ≤ k) ∧ Drawn0 w w')
 case atStart => exact ⟨(0), z1_, H', ⟨Nat.le_refl _⟩, z2_⟩
 case round =>
  clear H'; try clear c1
  try clear p2
  try clear c3
  try clear c3b0
  try clear c3b1
  try clear c3b2
  obtain ⟨x5_1, rfl, HA, HK1, ⟨m1, rfl⟩⟩ := hrel
  cases gk with
  | zero => exact absurd HA.out (by simp [graftageref06_Same.l0])
  | succ k1 =>
   have H := HA.out; clear HA; simp only [graftageref06_Same.l0] at H; by_cases c4 : x5_1 < (l0.length : Int); rotate_left
   ·rw [if_neg c4] at H; have c4b0 := df_ c4; clear c4; obtain rfl := oi_ H; go_wp2
    repeat (go_quiet (fail); try go_wp2)
    go_ret
    exact ⟨z1_, z2_⟩
   rw [if_pos c4] at H; have c4b0 := dt_ c4; clear c4; by_cases c5 : 0 ≤ x5_1; rotate_left
   ·rw [if_neg c5] at H; exact no_ H
   rw [if_pos c5] at H; have c5b0 := dt_ c5; clear c5; by_cases c6 : x5_1 < (l1.length : Int); rotate_left
   ·rw [if_neg c6] at H; exact no_ H
   rw [if_pos c6] at H; have c6b0 := dt_ c6; clear c6; by_cases c7 : (rdOf ByteArray.empty l0 x5_1).toList = (rdOf ByteArray.empty l1 x5_1).toList; rotate_left
   ·rw [if_neg c7] at H; have c7b0 := ef_ c7; have c7b1 := nt_ c7; obtain rfl := oi_ H; have p101 : 0 ≤ (x5_1 : Int) := y0_; have q101 : x5_1 < (l0.length : Int) := y0_; obtain ⟨ad101, e101, hx101_0⟩ := Kd.at_string HR0.out x5_1 p101 q101
    cases e101
    replace p101 := eq_true p101; replace q101 := eq_true q101; have p102 : 0 ≤ (x5_1 : Int) := y0_; have q102 : x5_1 < (l1.length : Int) := y0_; obtain ⟨ad102, e102, hx102_0⟩ := Kd.at_string HR1.out x5_1 p102 q102
    cases e102
    replace p102 := eq_true p102; replace q102 := eq_true q102; go_wp2
    repeat (go_quiet (fail); try go_wp2)
    go_ret
    exact ⟨z1_, z2_⟩
   rw [if_pos c7] at H; have c7b0 := et_ c7; have c7b1 := nf_ c7; clear c7; have H' := Aside0.mk H; clear H; have p101 : 0 ≤ (x5_1 : Int) := y0_; have q101 : x5_1 < (l0.length : Int) := y0_; obtain ⟨ad101, e101, hx101_0⟩ := Kd.at_string HR0.out x5_1 p101 q101
   cases e101
   replace p101 := eq_true p101; replace q101 := eq_true q101; have p102 : 0 ≤ (x5_1 : Int) := y0_; have q102 : x5_1 < (l1.length : Int) := y0_; obtain ⟨ad102, e102, hx102_0⟩ := Kd.at_string HR1.out x5_1 p102 q102
   cases e102
   replace p102 := eq_true p102; replace q102 := eq_true q102; go_wp2
   repeat (go_quiet (fail); try go_wp2)
   go_roundg k1
   case measure => have := HK1.out; omega
   case rel => exact ⟨(wrap64 (x5_1 + 1)), z1_, H', ⟨by have := HK1.out; omega⟩, z2_⟩
end Go.Proofs.YtbhfbbfjdklfgaaGreatDoor.Q
namespace Go.Proofs.YtbhfbbfjdklfgaaGreatDoor.Q
open Go.Proofs.Tryz Go.RowKit Go.Proofs.YtbhfbbfjdklfgaaGreatDoorW.PrintWords Go.Proofs.YtbhfbbfjdklfgaaGreatDoorW.PrintLast Go.Proofs.YtbhfbbfjdklfgaaGreatDoorW.PrintMore
attribute [local go_sem] max2_int min2_int max_two min_two max_three min_three max_four min_four
attribute [local go_sem high] eqA24
def graftageref16_Same.f (k : Nat) (a0_0 : ByteArray) (l0_1 : List ByteArray) (a0_2 : ByteArray) (a0_3 : ByteArray) (a0_4 : Int) (a0_5 : Int) (a0_6 : ByteArray) (a0_7 : ByteArray) (a0_8 : Int) (a0_9 : Int) (a0_10 : ByteArray) (a1_0 : ByteArray) (l1_1 : List ByteArray) (a1_2 : ByteArray) (a1_3 : ByteArray) (a1_4 : Int) (a1_5 : Int) (a1_6 : ByteArray) (a1_7 : ByteArray) (a1_8 : Int) (a1_9 : Int) (a1_10 : ByteArray) : Option (Bool) := if a0_0.toList = a1_0.toList then (if (a0_2.toList == a1_2.toList && (a0_3.toList == a1_3.toList && (a0_4 == a1_4 && (a0_5 == a1_5)))) = true then (if (a0_6.toList == a1_6.toList && (a0_7.toList == a1_7.toList && (a0_8 == a1_8 && (a0_9 == a1_9)))) = true then (if a0_10.toList = a1_10.toList then ((graftageref06_Same.f k l0_1 l1_1).bind fun t103 => (some t103)) else (some false)) else (some false)) else (some false)) else (some false)
theorem graftageref16_Same.calls (k : Nat) (a0_0 : ByteArray) (A0_1 : Option Addr) (c0_1 : Nat) (l0_1 : List ByteArray) (a0_2 : ByteArray) (a0_3 : ByteArray) (a0_4 : Int) (a0_5 : Int) (a0_6 : ByteArray) (a0_7 : ByteArray) (a0_8 : Int) (a0_9 : Int) (a0_10 : ByteArray) (a1_0 : ByteArray) (A1_1 : Option Addr) (c1_1 : Nat) (l1_1 : List ByteArray) (a1_2 : ByteArray) (a1_3 : ByteArray) (a1_4 : Int) (a1_5 : Int) (a1_6 : ByteArray) (a1_7 : ByteArray) (a1_8 : Int) (a1_9 : Int) (a1_10 : ByteArray) (r : Bool) (w : World) (hr0_1 : Kd.C Kd.string w A0_1 l0_1.length l0_1) (hc0_1 : l0_1.length ≤ c0_1) (hr1_1 : Kd.C Kd.string w A1_1 l1_1.length l1_1) (hc1_1 : l1_1.length ≤ c1_1) (h : graftageref16_Same.f k a0_0 l0_1 a0_2 a0_3 a0_4 a0_5 a0_6 a0_7 a0_8 a0_9 a0_10 a1_0 l1_1 a1_2 a1_3 a1_4 a1_5 a1_6 a1_7 a1_8 a1_9 a1_10 = some r) :
  Calls Tryz.prog 21 #[.agg #[.string a0_0, .slice A0_1 l0_1.length c0_1, .string a0_2, .string a0_3, .int .i64 a0_4, .int .i64 a0_5, .string a0_6, .string a0_7, .int .i64 a0_8, .int .i64 a0_9, .string a0_10], .agg #[.string a1_0, .slice A1_1 l1_1.length c1_1, .string a1_2, .string a1_3, .int .i64 a1_4, .int .i64 a1_5, .string a1_6, .string a1_7, .int .i64 a1_8, .int .i64 a1_9, .string a1_10]] w fun e w' => e = .returned (.bool r) ∧ Below w.heap.size w w' := by
 have hu26 := underlying26; have hu24 := underlying24; have HR0_1 := Aside0.mk hr0_1; have HC0_1 := Aside0.mk hc0_1; clear hr0_1 hc0_1; have HR1_1 := Aside0.mk hr1_1; have HC1_1 := Aside0.mk hc1_1; clear hr1_1 hc1_1; have HB := Aside0.mk (Below.refl w.heap.size w); unfold graftageref16_Same.f at h; have H := h; clear h; by_cases c3 : a0_0.toList = a1_0.toList; rotate_left
 ·rw [if_neg c3] at H; have c3b0 := ef_ c3; have c3b1 := nt_ c3; obtain rfl := oi_ H; go_enter func21, ntmps21; go_wp2_with (first | ((with_reducible refine gate_dst (N := 2) rfl ?_); refine be_ (cs := #[.string a0_0, .slice A0_1 l0_1.length c0_1, .string a0_2, .string a0_3, .int .i64 a0_4, .int .i64 a0_5, .string a0_6, .string a0_7, .int .i64 a0_8, .int .i64 a0_9, .string a0_10]) (t := 26) ?_; intro gb101 hg w28 hbox hb; have BK101 := Aside0.mk (hbox); have GW101 := ag_ hg HB; have GE101 := ag_ hg HB; replace HB := ah_ HB hb; clear hb hbox hg) | ((with_reducible refine gate_dst (N := 3) rfl ?_); refine be_ (cs := #[.string a1_0, .slice A1_1 l1_1.length c1_1, .string a1_2, .string a1_3, .int .i64 a1_4, .int .i64 a1_5, .string a1_6, .string a1_7, .int .i64 a1_8, .int .i64 a1_9, .string a1_10]) (t := 26) ?_; intro gb102 hg w29 hbox hb; have BK102 := Aside0.mk (hbox); have GW102 := Aside0.mk ((by rw [hg]; exact (below_size (hs_)) : w.heap.size ≤ gb102)); have GE102 := Aside0.mk ((by rw [hg]; exact (below_size (hs_)) : w.heap.size ≤ gb102)); replace HB := Aside0.mk (below_step (hs_) hb); have NB101_102 := Aside0.mk (nl2_ hg BK101.out); have NB102_101 := Aside0.mk (ng2_ hg BK101.out); replace BK101 := ab_ BK101 hb; clear hb hbox hg; have hnb30 := NB101_102.out; have hnc30 := NB102_101.out; obtain ⟨Z31_0, Z31_1, Z31_2, Z31_3, Z31_4, Z31_5, Z31_6, Z31_7, Z31_8, Z31_9, Z31_10, F31⟩ := bc11 BK101.out; obtain ⟨Z32_0, Z32_1, Z32_2, Z32_3, Z32_4, Z32_5, Z32_6, Z32_7, Z32_8, Z32_9, Z32_10, F32⟩ := bc11 BK102.out)); go_ret
  exact ⟨z3_, hs_⟩
 rw [if_pos c3] at H; have c3b0 := et_ c3; have c3b1 := nf_ c3; clear c3; by_cases c4 : (a0_2.toList == a1_2.toList && (a0_3.toList == a1_3.toList && (a0_4 == a1_4 && (a0_5 == a1_5)))) = true; rotate_left
 ·rw [if_neg c4] at H; have c4b0 : (a0_2.toList == a1_2.toList && (a0_3.toList == a1_3.toList && (a0_4 == a1_4 && (a0_5 == a1_5)))) = false := by simpa using c4
  (try (have c4b1 : decide (a0_2.toList = a1_2.toList && (a0_3.toList == a1_3.toList && (a0_4 == a1_4 && (a0_5 == a1_5)))) = false := by simpa using c4))
  (try (have c4b2 : (a0_2.toList == a1_2.toList && (a0_3.toList == a1_3.toList && (a0_4 == a1_4 && (a0_5 == a1_5)))) = false := by simpa using c4))
  (try (have c4b3 : ¬ (a0_2.toList = a1_2.toList && (a0_3.toList == a1_3.toList && (a0_4 == a1_4 && (a0_5 == a1_5)))) := by simpa using c4))
  clear c4; obtain rfl := oi_ H; go_enter func21, ntmps21; go_wp2_with (first | ((with_reducible refine gate_dst (N := 2) rfl ?_); refine be_ (cs := #[.string a0_0, .slice A0_1 l0_1.length c0_1, .string a0_2, .string a0_3, .int .i64 a0_4, .int .i64 a0_5, .string a0_6, .string a0_7, .int .i64 a0_8, .int .i64 a0_9, .string a0_10]) (t := 26) ?_; intro gb101 hg w23 hbox hb; have BK101 := Aside0.mk (hbox); have GW101 := ag_ hg HB; have GE101 := ag_ hg HB; replace HB := ah_ HB hb; clear hb hbox hg) | ((with_reducible refine gate_dst (N := 3) rfl ?_); refine be_ (cs := #[.string a1_0, .slice A1_1 l1_1.length c1_1, .string a1_2, .string a1_3, .int .i64 a1_4, .int .i64 a1_5, .string a1_6, .string a1_7, .int .i64 a1_8, .int .i64 a1_9, .string a1_10]) (t := 26) ?_; intro gb102 hg w24 hbox hb; have BK102 := Aside0.mk (hbox); have GW102 := Aside0.mk ((by rw [hg]; exact (below_size (hs_)) : w.heap.size ≤ gb102)); have GE102 := Aside0.mk ((by rw [hg]; exact (below_size (hs_)) : w.heap.size ≤ gb102)); replace HB := Aside0.mk (below_step (hs_) hb); have NB101_102 := Aside0.mk (nl2_ hg BK101.out); have NB102_101 := Aside0.mk (ng2_ hg BK101.out); replace BK101 := ab_ BK101 hb; clear hb hbox hg; have hnb25 := NB101_102.out; have hnc25 := NB102_101.out; obtain ⟨Z26_0, Z26_1, Z26_2, Z26_3, Z26_4, Z26_5, Z26_6, Z26_7, Z26_8, Z26_9, Z26_10, F26⟩ := bc11 BK101.out; obtain ⟨Z27_0, Z27_1, Z27_2, Z27_3, Z27_4, Z27_5, Z27_6, Z27_7, Z27_8, Z27_9, Z27_10, F27⟩ := bc11 BK102.out)); go_ret
  exact ⟨z3_, hs_⟩
 rw [if_pos c4] at H; have c4b0 : (a0_2.toList == a1_2.toList && (a0_3.toList == a1_3.toList && (a0_4 == a1_4 && (a0_5 == a1_5)))) = true := c4; (try (have c4b1 : decide (a0_2.toList = a1_2.toList && (a0_3.toList == a1_3.toList && (a0_4 == a1_4 && (a0_5 == a1_5)))) = true := by simpa using c4))
 (try (have c4b2 : (a0_2.toList == a1_2.toList && (a0_3.toList == a1_3.toList && (a0_4 == a1_4 && (a0_5 == a1_5)))) = true := by simpa using c4))
 clear c4; by_cases c5 : (a0_6.toList == a1_6.toList && (a0_7.toList == a1_7.toList && (a0_8 == a1_8 && (a0_9 == a1_9)))) = true; rotate_left
 ·rw [if_neg c5] at H; have c5b0 : (a0_6.toList == a1_6.toList && (a0_7.toList == a1_7.toList && (a0_8 == a1_8 && (a0_9 == a1_9)))) = false := by simpa using c5
  (try (have c5b1 : decide (a0_6.toList = a1_6.toList && (a0_7.toList == a1_7.toList && (a0_8 == a1_8 && (a0_9 == a1_9)))) = false := by simpa using c5))
  (try (have c5b2 : (a0_6.toList == a1_6.toList && (a0_7.toList == a1_7.toList && (a0_8 == a1_8 && (a0_9 == a1_9)))) = false := by simpa using c5))
  (try (have c5b3 : ¬ (a0_6.toList = a1_6.toList && (a0_7.toList == a1_7.toList && (a0_8 == a1_8 && (a0_9 == a1_9)))) := by simpa using c5))
  clear c5; obtain rfl := oi_ H; go_enter func21, ntmps21; go_wp2_with (first | ((with_reducible refine gate_dst (N := 2) rfl ?_); refine be_ (cs := #[.string a0_0, .slice A0_1 l0_1.length c0_1, .string a0_2, .string a0_3, .int .i64 a0_4, .int .i64 a0_5, .string a0_6, .string a0_7, .int .i64 a0_8, .int .i64 a0_9, .string a0_10]) (t := 26) ?_; intro gb101 hg w18 hbox hb; have BK101 := Aside0.mk (hbox); have GW101 := ag_ hg HB; have GE101 := ag_ hg HB; replace HB := ah_ HB hb; clear hb hbox hg) | ((with_reducible refine gate_dst (N := 3) rfl ?_); refine be_ (cs := #[.string a1_0, .slice A1_1 l1_1.length c1_1, .string a1_2, .string a1_3, .int .i64 a1_4, .int .i64 a1_5, .string a1_6, .string a1_7, .int .i64 a1_8, .int .i64 a1_9, .string a1_10]) (t := 26) ?_; intro gb102 hg w19 hbox hb; have BK102 := Aside0.mk (hbox); have GW102 := Aside0.mk ((by rw [hg]; exact (below_size (hs_)) : w.heap.size ≤ gb102)); have GE102 := Aside0.mk ((by rw [hg]; exact (below_size (hs_)) : w.heap.size ≤ gb102)); replace HB := Aside0.mk (below_step (hs_) hb); have NB101_102 := Aside0.mk (nl2_ hg BK101.out); have NB102_101 := Aside0.mk (ng2_ hg BK101.out); replace BK101 := ab_ BK101 hb; clear hb hbox hg; have hnb20 := NB101_102.out; have hnc20 := NB102_101.out; obtain ⟨Z21_0, Z21_1, Z21_2, Z21_3, Z21_4, Z21_5, Z21_6, Z21_7, Z21_8, Z21_9, Z21_10, F21⟩ := bc11 BK101.out; obtain ⟨Z22_0, Z22_1, Z22_2, Z22_3, Z22_4, Z22_5, Z22_6, Z22_7, Z22_8, Z22_9, Z22_10, F22⟩ := bc11 BK102.out)); go_ret
  exact ⟨z3_, hs_⟩
 rw [if_pos c5] at H; have c5b0 : (a0_6.toList == a1_6.toList && (a0_7.toList == a1_7.toList && (a0_8 == a1_8 && (a0_9 == a1_9)))) = true := c5; (try (have c5b1 : decide (a0_6.toList = a1_6.toList && (a0_7.toList == a1_7.toList && (a0_8 == a1_8 && (a0_9 == a1_9)))) = true := by simpa using c5))
 (try (have c5b2 : (a0_6.toList == a1_6.toList && (a0_7.toList == a1_7.toList && (a0_8 == a1_8 && (a0_9 == a1_9)))) = true := by simpa using c5))
 clear c5; by_cases c6 : a0_10.toList = a1_10.toList; rotate_left
 ·rw [if_neg c6] at H; have c6b0 := ef_ c6; have c6b1 := nt_ c6; obtain rfl := oi_ H; go_enter func21, ntmps21; go_wp2_with (first | ((with_reducible refine gate_dst (N := 2) rfl ?_); refine be_ (cs := #[.string a0_0, .slice A0_1 l0_1.length c0_1, .string a0_2, .string a0_3, .int .i64 a0_4, .int .i64 a0_5, .string a0_6, .string a0_7, .int .i64 a0_8, .int .i64 a0_9, .string a0_10]) (t := 26) ?_; intro gb101 hg w13 hbox hb; have BK101 := Aside0.mk (hbox); have GW101 := ag_ hg HB; have GE101 := ag_ hg HB; replace HB := ah_ HB hb; clear hb hbox hg) | ((with_reducible refine gate_dst (N := 3) rfl ?_); refine be_ (cs := #[.string a1_0, .slice A1_1 l1_1.length c1_1, .string a1_2, .string a1_3, .int .i64 a1_4, .int .i64 a1_5, .string a1_6, .string a1_7, .int .i64 a1_8, .int .i64 a1_9, .string a1_10]) (t := 26) ?_; intro gb102 hg w14 hbox hb; have BK102 := Aside0.mk (hbox); have GW102 := Aside0.mk ((by rw [hg]; exact (below_size (hs_)) : w.heap.size ≤ gb102)); have GE102 := Aside0.mk ((by rw [hg]; exact (below_size (hs_)) : w.heap.size ≤ gb102)); replace HB := Aside0.mk (below_step (hs_) hb); have NB101_102 := Aside0.mk (nl2_ hg BK101.out); have NB102_101 := Aside0.mk (ng2_ hg BK101.out); replace BK101 := ab_ BK101 hb; clear hb hbox hg; have hnb15 := NB101_102.out; have hnc15 := NB102_101.out; obtain ⟨Z16_0, Z16_1, Z16_2, Z16_3, Z16_4, Z16_5, Z16_6, Z16_7, Z16_8, Z16_9, Z16_10, F16⟩ := bc11 BK101.out; obtain ⟨Z17_0, Z17_1, Z17_2, Z17_3, Z17_4, Z17_5, Z17_6, Z17_7, Z17_8, Z17_9, Z17_10, F17⟩ := bc11 BK102.out)); go_ret
  exact ⟨z3_, hs_⟩
 rw [if_pos c6] at H; have c6b0 := et_ c6; have c6b1 := nf_ c6; clear c6; obtain ⟨t103, A7, H⟩ := bx_ H; obtain rfl := oi_ H; go_enter func21, ntmps21; go_wp2_with (first | ((with_reducible refine gate_dst (N := 2) rfl ?_); refine be_ (cs := #[.string a0_0, .slice A0_1 l0_1.length c0_1, .string a0_2, .string a0_3, .int .i64 a0_4, .int .i64 a0_5, .string a0_6, .string a0_7, .int .i64 a0_8, .int .i64 a0_9, .string a0_10]) (t := 26) ?_; intro gb101 hg w8 hbox hb; have BK101 := Aside0.mk (hbox); have GW101 := ag_ hg HB; have GE101 := ag_ hg HB; replace HB := ah_ HB hb; clear hb hbox hg) | ((with_reducible refine gate_dst (N := 3) rfl ?_); refine be_ (cs := #[.string a1_0, .slice A1_1 l1_1.length c1_1, .string a1_2, .string a1_3, .int .i64 a1_4, .int .i64 a1_5, .string a1_6, .string a1_7, .int .i64 a1_8, .int .i64 a1_9, .string a1_10]) (t := 26) ?_; intro gb102 hg w9 hbox hb; have BK102 := Aside0.mk (hbox); have GW102 := Aside0.mk ((by rw [hg]; exact (below_size (hs_)) : w.heap.size ≤ gb102)); have GE102 := Aside0.mk ((by rw [hg]; exact (below_size (hs_)) : w.heap.size ≤ gb102)); replace HB := Aside0.mk (below_step (hs_) hb); have NB101_102 := Aside0.mk (nl2_ hg BK101.out); have NB102_101 := Aside0.mk (ng2_ hg BK101.out); replace BK101 := ab_ BK101 hb; clear hb hbox hg; have hnb10 := NB101_102.out; have hnc10 := NB102_101.out; obtain ⟨Z11_0, Z11_1, Z11_2, Z11_3, Z11_4, Z11_5, Z11_6, Z11_7, Z11_8, Z11_9, Z11_10, F11⟩ := bc11 BK101.out; obtain ⟨Z12_0, Z12_1, Z12_2, Z12_3, Z12_4, Z12_5, Z12_6, Z12_7, Z12_8, Z12_9, Z12_10, F12⟩ := bc11 BK102.out) | (go_at_call 38; (with_reducible refine (graftageref06_Same.calls k _ _ l0_1 _ _ l1_1 t103 _ ?side1 ?side2 ?side3 ?side4 A7.out).mono ?_); (case side1 => repeat (first | exact (Kd.C_below HR0_1.out HB.out) | (with_reducible refine Kd.C_alloc ?_ _) | (with_reducible refine Kd.C_drewN ?_ _) | (with_reducible refine Kd.C_drew ?_))); (case side2 => exact HC0_1.out); (case side3 => repeat (first | exact (Kd.C_below HR1_1.out HB.out) | (with_reducible refine Kd.C_alloc ?_ _) | (with_reducible refine Kd.C_drewN ?_ _) | (with_reducible refine Kd.C_drew ?_))); (case side4 => exact HC1_1.out); rintro e w' ⟨rfl, ⟨nd, rfl⟩⟩)); go_ret
 exact ⟨z3_, hs_⟩
variable {P : Program} {ops : Array Oper} {Q : Exit → Act → World → Prop}
theorem goesF_ {rest : List Oper} {oi : Oper} {a : Act} {w : World} (N : Option Tmp) (hd : oi.dst = N) (hg : oi.guard = none) {t : Tmp} {g : Nat} {lb : Array Value} {os : Array Operand} {ts : Array TypeId}
    (eg : ∀ args w, (callFunc g args).run P w = .ok (.enter g args) w) (args : Array Value)
    (hop : oi.op = .call { callee := .value (.tmp t), args := os, argTypes := ts }) (hf : a.eval (.tmp t) = .func (.func g) #[] lb) (hargs : os.map a.eval = args) (all : Array Value) (hall : args ++ lb = all)
    (h : Calls P g all w fun e w' => ∃ v, e = .returned v ∧ wpList P ops Q rest (a.put N v) w') : wpList P ops Q (oi :: rest) a w := by
  refine wpList_plain hg fun K hK => ?_
  have hrun : (execOp a.eval oi).run P w = .ok (.enter g all) w := by
    unfold execOp
    simp [hop, resolve, Deferred.ofValue, invoke, hf, hargs, eg, hall]
  unfold Oper.wp
  rw [hrun, Oper.upon_enter]
  refine h.mono fun e w'' hh => ?_
  obtain ⟨v, rfl, hk⟩ := hh
  subst hd
  exact hK _ _ hk
theorem goesT_ {oi : Oper} {N : Option Tmp} {a : Act} {w : World} {K : Act → World → Prop} {f : FuncId} {fn : Func} {t : Tmp} {os : Array Operand} {ts : Array TypeId} (hf : P.funcs[f]? = some fn) (hname : (fn.name == "runtime.NumGoroutine") = false) (hb : fn.body.isSome = true) (args : Array Value)
    (hw : Region.wanted oi (yielded ops a.tmps) = true) (hN : oi.dst = N) (hop : oi.op = .call { callee := .value (.tmp t), args := os, argTypes := ts }) (hfv : a.eval (.tmp t) = .func (.func f) #[] #[]) (hargs : os.map a.eval = args)
    (h : Calls P f args w fun e w' => ∃ v, e = .returned v ∧ K (a.put N v) w') : if Region.wanted oi (yielded ops a.tmps) = true then Oper.wp P oi a w K Q else K (a.put N undef) w := by
  refine call_ f args hw hN ?_ h
  have he := enters_ hf hname hb args w
  unfold execOp
  simp [hop, resolve, Deferred.ofValue, invoke, hfv, hargs, he]
def commit_Who_1.f (a0 : Int) : Option (ByteArray) := (strconv_Itoa.f (Int.tmod (wrap64 (Int.tdiv a0 10)) 10)).bind fun t125 => ((strconv_Itoa.f (Int.tmod a0 10)).bind fun t126 => (if t125.size + t126.size ≤ 9223372036854775807 then (some (t125 ++ t126)) else (none)))
theorem commit_Who_1.calls (a0 : Int) (r : ByteArray) (w : World) (hgv : GV w) (h : commit_Who_1.f a0 = some r) :
  Calls Tryz.prog 90 #[.int .i64 a0] w fun e w' => e = .returned (.string r) ∧ Below w.heap.size w w' := by
 have HB := Aside0.mk (Below.refl w.heap.size w); unfold commit_Who_1.f at h; have H := h; clear h; obtain ⟨t125, A2, H⟩ := bx_ H; obtain ⟨t126, A3, H⟩ := bx_ H; by_cases c4 : t125.size + t126.size ≤ 9223372036854775807; rotate_left
 ·rw [if_neg c4] at H; exact no_ H
 rw [if_pos c4] at H; have c4b0 := eq_true c4; have c4b1 := dt_ c4; try have c4b2 := nl_ c4
 obtain rfl := oi_ H; go_enter func90, ntmps90; have tk7_ : True := trivial; have tk8_ : True := trivial; go_wp2_with (first | (have _t := tk7_; (with_reducible refine gate_callee (f := 91) rfl ?_); refine gl_ (some 6) func91 #[.int .i64 (Int.tmod (wrap64 (Int.tdiv a0 10)) 10)] ?_; (with_reducible refine (strconv_Itoa.calls (Int.tmod (wrap64 (Int.tdiv a0 10)) 10) t125 _ ?side1 A2.out).mono ?_); (case side1 => exact GV.below hgv (hb_ HB.out)); rintro e w5 ⟨rfl, hb⟩; refine ⟨_, rfl, ?_⟩; replace HB := ah_ HB hb; (try clear hb); (try clear hb2); (try clear hk); (try clear hi); clear tk7_) | (have _t := tk8_; (with_reducible refine gate_callee (f := 91) rfl ?_); refine gl_ (some 9) func91 #[.int .i64 (Int.tmod a0 10)] ?_; (with_reducible refine (strconv_Itoa.calls (Int.tmod a0 10) t126 _ ?side1 A3.out).mono ?_); (case side1 => exact GV.below hgv (hb_ HB.out)); rintro e w6 ⟨rfl, hb⟩; refine ⟨_, rfl, ?_⟩; replace HB := ah_ HB hb; (try clear hb); (try clear hb2); (try clear hk); (try clear hi); clear tk8_)); go_ret
 exact ⟨z3_, hb_ HB.out⟩
def commit_Who.f (a0_0 : ByteArray) (a0_1 : ByteArray) (a0_2 : Int) (a0_3 : Int) : Option (ByteArray) := if a0_3 < 0 then (if a0_0.size + 2 ≤ 9223372036854775807 then (if (a0_0 ++ (⟨#[32, 60]⟩ : ByteArray)).size + a0_1.size ≤ 9223372036854775807 then (if ((a0_0 ++ (⟨#[32, 60]⟩ : ByteArray)) ++ a0_1).size + 2 ≤ 9223372036854775807 then ((strconv_Itoa.f a0_2).bind fun t102 => (if (((a0_0 ++ (⟨#[32, 60]⟩ : ByteArray)) ++ a0_1) ++ (⟨#[62, 32]⟩ : ByteArray)).size + t102.size ≤ 9223372036854775807 then (if ((((a0_0 ++ (⟨#[32, 60]⟩ : ByteArray)) ++ a0_1) ++ (⟨#[62, 32]⟩ : ByteArray)) ++ t102).size + 1 ≤ 9223372036854775807 then (if (((((a0_0 ++ (⟨#[32, 60]⟩ : ByteArray)) ++ a0_1) ++ (⟨#[62, 32]⟩ : ByteArray)) ++ t102) ++ (⟨#[32]⟩ : ByteArray)).size + 1 ≤ 9223372036854775807 then ((commit_Who_1.f (wrap64 (Int.tdiv (wrap64 (-a0_3)) 60))).bind fun t103 => (if ((((((a0_0 ++ (⟨#[32, 60]⟩ : ByteArray)) ++ a0_1) ++ (⟨#[62, 32]⟩ : ByteArray)) ++ t102) ++ (⟨#[32]⟩ : ByteArray)) ++ (⟨#[45]⟩ : ByteArray)).size + t103.size ≤ 9223372036854775807 then ((commit_Who_1.f (Int.tmod (wrap64 (-a0_3)) 60)).bind fun t104 => (if (((((((a0_0 ++ (⟨#[32, 60]⟩ : ByteArray)) ++ a0_1) ++ (⟨#[62, 32]⟩ : ByteArray)) ++ t102) ++ (⟨#[32]⟩ : ByteArray)) ++ (⟨#[45]⟩ : ByteArray)) ++ t103).size + t104.size ≤ 9223372036854775807 then (some ((((((((a0_0 ++ (⟨#[32, 60]⟩ : ByteArray)) ++ a0_1) ++ (⟨#[62, 32]⟩ : ByteArray)) ++ t102) ++ (⟨#[32]⟩ : ByteArray)) ++ (⟨#[45]⟩ : ByteArray)) ++ t103) ++ t104)) else (none))) else (none))) else (none)) else (none)) else (none))) else (none)) else (none)) else (none)) else (if a0_0.size + 2 ≤ 9223372036854775807 then (if (a0_0 ++ (⟨#[32, 60]⟩ : ByteArray)).size + a0_1.size ≤ 9223372036854775807 then (if ((a0_0 ++ (⟨#[32, 60]⟩ : ByteArray)) ++ a0_1).size + 2 ≤ 9223372036854775807 then ((strconv_Itoa.f a0_2).bind fun t105 => (if (((a0_0 ++ (⟨#[32, 60]⟩ : ByteArray)) ++ a0_1) ++ (⟨#[62, 32]⟩ : ByteArray)).size + t105.size ≤ 9223372036854775807 then (if ((((a0_0 ++ (⟨#[32, 60]⟩ : ByteArray)) ++ a0_1) ++ (⟨#[62, 32]⟩ : ByteArray)) ++ t105).size + 1 ≤ 9223372036854775807 then (if (((((a0_0 ++ (⟨#[32, 60]⟩ : ByteArray)) ++ a0_1) ++ (⟨#[62, 32]⟩ : ByteArray)) ++ t105) ++ (⟨#[32]⟩ : ByteArray)).size + 1 ≤ 9223372036854775807 then ((commit_Who_1.f (wrap64 (Int.tdiv a0_3 60))).bind fun t106 => (if ((((((a0_0 ++ (⟨#[32, 60]⟩ : ByteArray)) ++ a0_1) ++ (⟨#[62, 32]⟩ : ByteArray)) ++ t105) ++ (⟨#[32]⟩ : ByteArray)) ++ (⟨#[43]⟩ : ByteArray)).size + t106.size ≤ 9223372036854775807 then ((commit_Who_1.f (Int.tmod a0_3 60)).bind fun t107 => (if (((((((a0_0 ++ (⟨#[32, 60]⟩ : ByteArray)) ++ a0_1) ++ (⟨#[62, 32]⟩ : ByteArray)) ++ t105) ++ (⟨#[32]⟩ : ByteArray)) ++ (⟨#[43]⟩ : ByteArray)) ++ t106).size + t107.size ≤ 9223372036854775807 then (some ((((((((a0_0 ++ (⟨#[32, 60]⟩ : ByteArray)) ++ a0_1) ++ (⟨#[62, 32]⟩ : ByteArray)) ++ t105) ++ (⟨#[32]⟩ : ByteArray)) ++ (⟨#[43]⟩ : ByteArray)) ++ t106) ++ t107)) else (none))) else (none))) else (none)) else (none)) else (none))) else (none)) else (none)) else (none))
def commit_Who.T5 : Bool × List (List Nat × List Nat) := (true, [([], []), ([0], [0]), ([1], [1]), ([], []), ([3], [3]), ([2, 4], [2, 4]), ([5], [5]), ([], []), ([7], [7]), ([8], [8]), ([6, 9], [6, 9]), ([10], [10]), ([], []), ([11, 12], [11, 12]), ([], []), ([], []), ([15], [15]), ([14, 16, 9], [14, 16]), ([13, 17], [13, 17]), ([], []), ([], []), ([20], [20]), ([19, 21, 17], [19, 21]), ([18, 22], [18, 22]), ([23, 22, 0, 1, 2, 3, 4, 5, 6, 7, 8, 9, 10, 11, 12, 13, 14, 15, 16, 17, 18, 19, 20, 21, 22, 23], [23])])
def commit_Who.B5 : List Nat := [0, 1, 3, 0, 8, 31, 63, 0, 128, 384, 1023, 2047, 0, 8191, 0, 0, 32768, 115584, 262143, 0, 0, 1048576, 3916672, 8388607, 16777215]
theorem commit_Who.tab5 : rtab .any (opsOf Tryz.f31 5) = commit_Who.T5 := by kernel_rfl
theorem commit_Who.bits5 : waitsOk commit_Who.T5.2 commit_Who.B5 = true := by kernel_rfl
theorem commit_Who.calls (a0_0 : ByteArray) (a0_1 : ByteArray) (a0_2 : Int) (a0_3 : Int) (r : ByteArray) (w : World) (hgv : GV w) (h : commit_Who.f a0_0 a0_1 a0_2 a0_3 = some r) :
  Calls Tryz.prog 31 #[.agg #[.string a0_0, .string a0_1, .int .i64 a0_2, .int .i64 a0_3]] w fun e w' => e = .returned (.string r) ∧ Below w.heap.size w w' := by
 have hu24 := underlying24; have HB := Aside0.mk (Below.refl w.heap.size w); unfold commit_Who.f at h; have H := h; clear h; by_cases c2 : a0_3 < 0
 ·rw [if_pos c2] at H; have c2b0 := dt_ c2; clear c2; by_cases c3 : a0_0.size + 2 ≤ 9223372036854775807; rotate_left
  ·rw [if_neg c3] at H; exact no_ H
  rw [if_pos c3] at H; have c3b0 := eq_true c3; have c3b1 := dt_ c3; try have c3b2 := nl_ c3
  by_cases c4 : (a0_0 ++ (⟨#[32, 60]⟩ : ByteArray)).size + a0_1.size ≤ 9223372036854775807; rotate_left
  ·rw [if_neg c4] at H; exact no_ H
  rw [if_pos c4] at H; have c4b0 := eq_true c4; have c4b1 := dt_ c4; try have c4b3 : (9223372036854775807 < a0_0.size + 2 + a0_1.size) = False := have h_ := c4; ns_
  try have c4b2 := nl_ c4
  by_cases c5 : ((a0_0 ++ (⟨#[32, 60]⟩ : ByteArray)) ++ a0_1).size + 2 ≤ 9223372036854775807; rotate_left
  ·rw [if_neg c5] at H; exact no_ H
  rw [if_pos c5] at H; have c5b0 := eq_true c5; have c5b1 := dt_ c5; try have c5b3 : (9223372036854775807 < a0_0.size + 2 + a0_1.size + 2) = False := have h_ := c5; ns_
  try have c5b2 := nl_ c5
  obtain ⟨t102, A6, H⟩ := bx_ H; by_cases c7 : (((a0_0 ++ (⟨#[32, 60]⟩ : ByteArray)) ++ a0_1) ++ (⟨#[62, 32]⟩ : ByteArray)).size + t102.size ≤ 9223372036854775807; rotate_left
  ·rw [if_neg c7] at H; exact no_ H
  rw [if_pos c7] at H; have c7b0 := eq_true c7; have c7b1 := dt_ c7; try have c7b3 : (9223372036854775807 < a0_0.size + 2 + a0_1.size + 2 + t102.size) = False := have h_ := c7; ns_
  try have c7b2 := nl_ c7
  by_cases c8 : ((((a0_0 ++ (⟨#[32, 60]⟩ : ByteArray)) ++ a0_1) ++ (⟨#[62, 32]⟩ : ByteArray)) ++ t102).size + 1 ≤ 9223372036854775807; rotate_left
  ·rw [if_neg c8] at H; exact no_ H
  rw [if_pos c8] at H; have c8b0 := eq_true c8; have c8b1 := dt_ c8; try have c8b3 : (9223372036854775807 < a0_0.size + 2 + a0_1.size + 2 + t102.size + 1) = False := have h_ := c8; ns_
  try have c8b2 := nl_ c8
  by_cases c9 : (((((a0_0 ++ (⟨#[32, 60]⟩ : ByteArray)) ++ a0_1) ++ (⟨#[62, 32]⟩ : ByteArray)) ++ t102) ++ (⟨#[32]⟩ : ByteArray)).size + 1 ≤ 9223372036854775807; rotate_left
  ·rw [if_neg c9] at H; exact no_ H
  rw [if_pos c9] at H; have c9b0 := eq_true c9; have c9b1 := dt_ c9; try have c9b3 : (9223372036854775807 < a0_0.size + 2 + a0_1.size + 2 + t102.size + 1 + 1) = False := have h_ := c9; ns_
  try have c9b2 := nl_ c9
  obtain ⟨t103, A10, H⟩ := bx_ H; by_cases c11 : ((((((a0_0 ++ (⟨#[32, 60]⟩ : ByteArray)) ++ a0_1) ++ (⟨#[62, 32]⟩ : ByteArray)) ++ t102) ++ (⟨#[32]⟩ : ByteArray)) ++ (⟨#[45]⟩ : ByteArray)).size + t103.size ≤ 9223372036854775807; rotate_left
  ·rw [if_neg c11] at H; exact no_ H
  rw [if_pos c11] at H; have c11b0 := eq_true c11; have c11b1 := dt_ c11; try have c11b3 : (9223372036854775807 < a0_0.size + 2 + a0_1.size + 2 + t102.size + 1 + 1 + t103.size) = False := have h_ := c11; ns_
  try have c11b2 := nl_ c11
  obtain ⟨t104, A12, H⟩ := bx_ H; by_cases c13 : (((((((a0_0 ++ (⟨#[32, 60]⟩ : ByteArray)) ++ a0_1) ++ (⟨#[62, 32]⟩ : ByteArray)) ++ t102) ++ (⟨#[32]⟩ : ByteArray)) ++ (⟨#[45]⟩ : ByteArray)) ++ t103).size + t104.size ≤ 9223372036854775807; rotate_left
  ·rw [if_neg c13] at H; exact no_ H
  rw [if_pos c13] at H; have c13b0 := eq_true c13; have c13b1 := dt_ c13; try have c13b3 : (9223372036854775807 < a0_0.size + 2 + a0_1.size + 2 + t102.size + 1 + 1 + t103.size + t104.size) = False := have h_ := c13; ns_
  try have c13b2 := nl_ c13
  obtain rfl := oi_ H; go_enter func31, ntmps31; try go_wp2_with (first | ((with_reducible refine gate_dst (N := 1) rfl ?_); refine be_ (cs := #[.string a0_0, .string a0_1, .int .i64 a0_2, .int .i64 a0_3]) (t := 24) ?_; intro gb101 hg w14 hbox hb; have BK101 := Aside0.mk (hbox); have GW101 := ag_ hg HB; have GE101 := ag_ hg HB; replace HB := ah_ HB hb; clear hb hbox hg)); replace BK101 := ad_ BK101; replace HB := hd_ HB; refine start_ (n := 4) (S := fun w' => w'.cell? ⟨gb101, 0, none⟩ = some (.string a0_0) ∧ w'.cell? ⟨gb101, 1, none⟩ = some (.string a0_1) ∧ w'.cell? ⟨gb101, 2, none⟩ = some (.int .i64 a0_2) ∧ w'.cell? ⟨gb101, 3, none⟩ = some (.int .i64 a0_3)) (ds := []) (bs 4 0) (by kernel_rfl) rfl rfl (bc4o BK101.out) (fun hHeld => ?_); generalize w14.drew = w15 at BK101 HB hHeld ⊢; refine pkn_ 0 6 4 1 ?_; refine pkn_ 2 3 4 5 ?_; refine tkK4n_ 1 7 4 7 hHeld ?_; refine pkn_ 3 4 4 15 ?_; refine done_ (by kernel_rfl) ?_; try go_wp2
  replace BK101 := ad_ BK101; replace HB := hd_ HB; refine start_ (n := 25) (S := fun w' => w'.cell? ⟨gb101, 0, none⟩ = some (.string a0_0) ∧ w'.cell? ⟨gb101, 1, none⟩ = some (.string a0_1) ∧ w'.cell? ⟨gb101, 2, none⟩ = some (.int .i64 a0_2) ∧ w'.cell? ⟨gb101, 3, none⟩ = some (.int .i64 a0_3)) (ds := []) (bs 25 0) (by kernel_rfl) rfl rfl (bc4o BK101.out) (fun hHeld => ?_); refine with_tabW commit_Who.tab5 commit_Who.bits5 (fun HT_ HW_ => ?_); generalize w15.drew = w16 at BK101 HB hHeld ⊢; refine pun_ 0 12 25 1 ?_; refine pun_ 3 15 25 9 ?_; refine pun_ 7 19 25 137 ?_; refine pun_ 12 24 25 4233 ?_; refine pun_ 14 26 25 20617 ?_; refine pun_ 15 27 25 53385 ?_; refine pun_ 16 28 25 118921 ?_; refine pun_ 19 31 25 643209 ?_; refine pun_ 20 32 25 1691785 ?_; refine pun_ 21 33 25 3788937 ?_; refine tkW4n_ 1 13 25 3788939 hHeld ?_; refine pun_ 2 14 25 3788943 ?_; refine tkW4n_ 4 16 25 3788959 hHeld ?_; refine pun_ 5 17 25 3788991 ?_; refine pun_ 6 18 25 3789055 ?_; refine tkW4n_ 8 20 25 3789311 hHeld ?_; refine on_ 9 21 25 3789823 (fun K hK => ?_); refine goes_ func91 (by kernel_rfl) rfl #[.int .i64 a0_2] (by rfl) rfl rfl z5_ ?_
  with_reducible refine (strconv_Itoa.calls a0_2 t102 _ ?side1 A6.out).mono ?_
  (case side1 => exact GV.below hgv (hs_))
  rintro e w17 ⟨rfl, hb⟩; refine ⟨_, rfl, ?_⟩; replace BK101 := ab_ BK101 hb; replace HB := Aside0.mk (below_step (hs_) hb); (try clear hb)
  (try clear hb2)
  (try clear hk)
  (try clear hi)
  refine hK.out _ _ (bc4o BK101.out) (fun hHeld => ?_); clear hK K; refine norm_ (a' := ?_) ?_ ?_; rotate_left
  ·show Act.put _ (some 21) _ = _
   simp only [Act.put, List.setIfInBounds_toArray, List.set_cons_zero, List.set_cons_succ, i64_w, i32_w]; rfl
  refine pun_ 10 22 25 3790847 ?_; refine pun_ 11 23 25 3792895 ?_; refine pun_ 13 25 25 3801087 ?_; refine on_ 17 29 25 3932159 (fun K hK => ?_); refine goesT_ func90 (by kernel_rfl) rfl #[.int .i64 (wrap64 (Int.tdiv (wrap64 (-a0_3)) 60))] (by rfl) rfl rfl rfl z8_ ?_
  with_reducible refine (commit_Who_1.calls (wrap64 (Int.tdiv (wrap64 (-a0_3)) 60))  t103 _ ?side1 A10.out).mono ?_
  (case side1 => exact GV.below hgv (hs_))
  rintro e w18 ⟨rfl, hb⟩; refine ⟨_, rfl, ?_⟩; replace BK101 := ab_ BK101 hb; replace HB := Aside0.mk (below_step (hs_) hb); (try clear hb)
  (try clear hb2)
  (try clear hk)
  (try clear hi)
  refine hK.out _ _ (bc4o BK101.out) (fun hHeld => ?_); clear hK K; refine norm_ (a' := ?_) ?_ ?_; rotate_left
  ·show Act.put _ (some 29) _ = _
   simp only [Act.put, List.setIfInBounds_toArray, List.set_cons_zero, List.set_cons_succ, i64_w, i32_w]; rfl
  refine pun_ 18 30 25 4194303 ?_; refine on_ 22 34 25 8388607 (fun K hK => ?_); refine goesT_ func90 (by kernel_rfl) rfl #[.int .i64 (Int.tmod (wrap64 (-a0_3)) 60)] (by rfl) rfl rfl rfl z8_ ?_
  with_reducible refine (commit_Who_1.calls (Int.tmod (wrap64 (-a0_3)) 60)  t104 _ ?side1 A12.out).mono ?_
  (case side1 => exact GV.below hgv (hs_))
  rintro e w19 ⟨rfl, hb⟩; refine ⟨_, rfl, ?_⟩; replace BK101 := ab_ BK101 hb; replace HB := Aside0.mk (below_step (hs_) hb); (try clear hb)
  (try clear hb2)
  (try clear hk)
  (try clear hi)
  refine hK.out _ _ (bc4o BK101.out) (fun hHeld => ?_); clear hK K; refine norm_ (a' := ?_) ?_ ?_; rotate_left
  ·show Act.put _ (some 34) _ = _
   simp only [Act.put, List.setIfInBounds_toArray, List.set_cons_zero, List.set_cons_succ, i64_w, i32_w]; rfl
  refine pun_ 23 35 25 16777215 ?_; refine pun_ 24 2 25 33554431 ?_; refine dn_ ?_; try go_wp2
  go_ret
  exact ⟨z3_, hs_⟩
 rw [if_neg c2] at H; have c2b0 := df_ c2; clear c2; by_cases c20 : a0_0.size + 2 ≤ 9223372036854775807; rotate_left
 ·rw [if_neg c20] at H; exact no_ H
 rw [if_pos c20] at H; have c20b0 := eq_true c20; have c20b1 := dt_ c20; try have c20b2 := nl_ c20
 by_cases c21 : (a0_0 ++ (⟨#[32, 60]⟩ : ByteArray)).size + a0_1.size ≤ 9223372036854775807; rotate_left
 ·rw [if_neg c21] at H; exact no_ H
 rw [if_pos c21] at H; have c21b0 := eq_true c21; have c21b1 := dt_ c21; try have c21b3 : (9223372036854775807 < a0_0.size + 2 + a0_1.size) = False := have h_ := c21; ns_
 try have c21b2 := nl_ c21
 by_cases c22 : ((a0_0 ++ (⟨#[32, 60]⟩ : ByteArray)) ++ a0_1).size + 2 ≤ 9223372036854775807; rotate_left
 ·rw [if_neg c22] at H; exact no_ H
 rw [if_pos c22] at H; have c22b0 := eq_true c22; have c22b1 := dt_ c22; try have c22b3 : (9223372036854775807 < a0_0.size + 2 + a0_1.size + 2) = False := have h_ := c22; ns_
 try have c22b2 := nl_ c22
 obtain ⟨t105, A23, H⟩ := bx_ H; by_cases c24 : (((a0_0 ++ (⟨#[32, 60]⟩ : ByteArray)) ++ a0_1) ++ (⟨#[62, 32]⟩ : ByteArray)).size + t105.size ≤ 9223372036854775807; rotate_left
 ·rw [if_neg c24] at H; exact no_ H
 rw [if_pos c24] at H; have c24b0 := eq_true c24; have c24b1 := dt_ c24; try have c24b3 : (9223372036854775807 < a0_0.size + 2 + a0_1.size + 2 + t105.size) = False := have h_ := c24; ns_
 try have c24b2 := nl_ c24
 by_cases c25 : ((((a0_0 ++ (⟨#[32, 60]⟩ : ByteArray)) ++ a0_1) ++ (⟨#[62, 32]⟩ : ByteArray)) ++ t105).size + 1 ≤ 9223372036854775807; rotate_left
 ·rw [if_neg c25] at H; exact no_ H
 rw [if_pos c25] at H; have c25b0 := eq_true c25; have c25b1 := dt_ c25; try have c25b3 : (9223372036854775807 < a0_0.size + 2 + a0_1.size + 2 + t105.size + 1) = False := have h_ := c25; ns_
 try have c25b2 := nl_ c25
 by_cases c26 : (((((a0_0 ++ (⟨#[32, 60]⟩ : ByteArray)) ++ a0_1) ++ (⟨#[62, 32]⟩ : ByteArray)) ++ t105) ++ (⟨#[32]⟩ : ByteArray)).size + 1 ≤ 9223372036854775807; rotate_left
 ·rw [if_neg c26] at H; exact no_ H
 rw [if_pos c26] at H; have c26b0 := eq_true c26; have c26b1 := dt_ c26; try have c26b3 : (9223372036854775807 < a0_0.size + 2 + a0_1.size + 2 + t105.size + 1 + 1) = False := have h_ := c26; ns_
 try have c26b2 := nl_ c26
 obtain ⟨t106, A27, H⟩ := bx_ H; by_cases c28 : ((((((a0_0 ++ (⟨#[32, 60]⟩ : ByteArray)) ++ a0_1) ++ (⟨#[62, 32]⟩ : ByteArray)) ++ t105) ++ (⟨#[32]⟩ : ByteArray)) ++ (⟨#[43]⟩ : ByteArray)).size + t106.size ≤ 9223372036854775807; rotate_left
 ·rw [if_neg c28] at H; exact no_ H
 rw [if_pos c28] at H; have c28b0 := eq_true c28; have c28b1 := dt_ c28; try have c28b3 : (9223372036854775807 < a0_0.size + 2 + a0_1.size + 2 + t105.size + 1 + 1 + t106.size) = False := have h_ := c28; ns_
 try have c28b2 := nl_ c28
 obtain ⟨t107, A29, H⟩ := bx_ H; by_cases c30 : (((((((a0_0 ++ (⟨#[32, 60]⟩ : ByteArray)) ++ a0_1) ++ (⟨#[62, 32]⟩ : ByteArray)) ++ t105) ++ (⟨#[32]⟩ : ByteArray)) ++ (⟨#[43]⟩ : ByteArray)) ++ t106).size + t107.size ≤ 9223372036854775807; rotate_left
 ·rw [if_neg c30] at H; exact no_ H
 rw [if_pos c30] at H; have c30b0 := eq_true c30; have c30b1 := dt_ c30; try have c30b3 : (9223372036854775807 < a0_0.size + 2 + a0_1.size + 2 + t105.size + 1 + 1 + t106.size + t107.size) = False := have h_ := c30; ns_
 try have c30b2 := nl_ c30
 obtain rfl := oi_ H; go_enter func31, ntmps31; try go_wp2_with (first | ((with_reducible refine gate_dst (N := 1) rfl ?_); refine be_ (cs := #[.string a0_0, .string a0_1, .int .i64 a0_2, .int .i64 a0_3]) (t := 24) ?_; intro gb101 hg w31 hbox hb; have BK101 := Aside0.mk (hbox); have GW101 := ag_ hg HB; have GE101 := ag_ hg HB; replace HB := ah_ HB hb; clear hb hbox hg)); replace BK101 := ad_ BK101; replace HB := hd_ HB; refine start_ (n := 4) (S := fun w' => w'.cell? ⟨gb101, 0, none⟩ = some (.string a0_0) ∧ w'.cell? ⟨gb101, 1, none⟩ = some (.string a0_1) ∧ w'.cell? ⟨gb101, 2, none⟩ = some (.int .i64 a0_2) ∧ w'.cell? ⟨gb101, 3, none⟩ = some (.int .i64 a0_3)) (ds := []) (bs 4 0) (by kernel_rfl) rfl rfl (bc4o BK101.out) (fun hHeld => ?_); generalize w31.drew = w32 at BK101 HB hHeld ⊢; refine pkn_ 0 6 4 1 ?_; refine pkn_ 2 3 4 5 ?_; refine tkK4n_ 1 7 4 7 hHeld ?_; refine pkn_ 3 4 4 15 ?_; refine done_ (by kernel_rfl) ?_; try go_wp2
 replace BK101 := ad_ BK101; replace HB := hd_ HB; refine start_ (n := 25) (S := fun w' => w'.cell? ⟨gb101, 0, none⟩ = some (.string a0_0) ∧ w'.cell? ⟨gb101, 1, none⟩ = some (.string a0_1) ∧ w'.cell? ⟨gb101, 2, none⟩ = some (.int .i64 a0_2) ∧ w'.cell? ⟨gb101, 3, none⟩ = some (.int .i64 a0_3)) (ds := []) (bs 25 0) (by kernel_rfl) rfl rfl (bc4o BK101.out) (fun hHeld => ?_); refine with_tabW commit_Who.tab5 commit_Who.bits5 (fun HT_ HW_ => ?_); generalize w32.drew = w33 at BK101 HB hHeld ⊢; refine pun_ 0 12 25 1 ?_; refine pun_ 3 15 25 9 ?_; refine pun_ 7 19 25 137 ?_; refine pun_ 12 24 25 4233 ?_; refine pun_ 14 26 25 20617 ?_; refine pun_ 15 27 25 53385 ?_; refine pun_ 16 28 25 118921 ?_; refine pun_ 19 31 25 643209 ?_; refine pun_ 20 32 25 1691785 ?_; refine pun_ 21 33 25 3788937 ?_; refine tkW4n_ 1 13 25 3788939 hHeld ?_; refine pun_ 2 14 25 3788943 ?_; refine tkW4n_ 4 16 25 3788959 hHeld ?_; refine pun_ 5 17 25 3788991 ?_; refine pun_ 6 18 25 3789055 ?_; refine tkW4n_ 8 20 25 3789311 hHeld ?_; refine on_ 9 21 25 3789823 (fun K hK => ?_); refine goes_ func91 (by kernel_rfl) rfl #[.int .i64 a0_2] (by rfl) rfl rfl z5_ ?_
 with_reducible refine (strconv_Itoa.calls a0_2 t105 _ ?side1 A23.out).mono ?_
 (case side1 => exact GV.below hgv (hs_))
 rintro e w34 ⟨rfl, hb⟩; refine ⟨_, rfl, ?_⟩; replace BK101 := ab_ BK101 hb; replace HB := Aside0.mk (below_step (hs_) hb); (try clear hb)
 (try clear hb2)
 (try clear hk)
 (try clear hi)
 refine hK.out _ _ (bc4o BK101.out) (fun hHeld => ?_); clear hK K; refine norm_ (a' := ?_) ?_ ?_; rotate_left
 ·show Act.put _ (some 21) _ = _
  simp only [Act.put, List.setIfInBounds_toArray, List.set_cons_zero, List.set_cons_succ, i64_w, i32_w]; rfl
 refine pun_ 10 22 25 3790847 ?_; refine pun_ 11 23 25 3792895 ?_; refine pun_ 13 25 25 3801087 ?_; refine on_ 17 29 25 3932159 (fun K hK => ?_); refine goesT_ func90 (by kernel_rfl) rfl #[.int .i64 (wrap64 (Int.tdiv a0_3 60))] (by rfl) rfl rfl rfl z8_ ?_
 with_reducible refine (commit_Who_1.calls (wrap64 (Int.tdiv a0_3 60))  t106 _ ?side1 A27.out).mono ?_
 (case side1 => exact GV.below hgv (hs_))
 rintro e w35 ⟨rfl, hb⟩; refine ⟨_, rfl, ?_⟩; replace BK101 := ab_ BK101 hb; replace HB := Aside0.mk (below_step (hs_) hb); (try clear hb)
 (try clear hb2)
 (try clear hk)
 (try clear hi)
 refine hK.out _ _ (bc4o BK101.out) (fun hHeld => ?_); clear hK K; refine norm_ (a' := ?_) ?_ ?_; rotate_left
 ·show Act.put _ (some 29) _ = _
  simp only [Act.put, List.setIfInBounds_toArray, List.set_cons_zero, List.set_cons_succ, i64_w, i32_w]; rfl
 refine pun_ 18 30 25 4194303 ?_; refine on_ 22 34 25 8388607 (fun K hK => ?_); refine goesT_ func90 (by kernel_rfl) rfl #[.int .i64 (Int.tmod a0_3 60)] (by rfl) rfl rfl rfl z8_ ?_
 with_reducible refine (commit_Who_1.calls (Int.tmod a0_3 60)  t107 _ ?side1 A29.out).mono ?_
 (case side1 => exact GV.below hgv (hs_))
 rintro e w36 ⟨rfl, hb⟩; refine ⟨_, rfl, ?_⟩; replace BK101 := ab_ BK101 hb; replace HB := Aside0.mk (below_step (hs_) hb); (try clear hb)
 (try clear hb2)
 (try clear hk)
 (try clear hi)
 refine hK.out _ _ (bc4o BK101.out) (fun hHeld => ?_); clear hK K; refine norm_ (a' := ?_) ?_ ?_; rotate_left
 ·show Act.put _ (some 34) _ = _
  simp only [Act.put, List.setIfInBounds_toArray, List.set_cons_zero, List.set_cons_succ, i64_w, i32_w]; rfl
 refine pun_ 23 35 25 16777215 ?_; refine pun_ 24 2 25 33554431 ?_; refine dn_ ?_; try go_wp2
 go_ret
 exact ⟨z3_, hs_⟩
def slices_IndexFunc_string_string.l0 : Nat → List ByteArray → (ByteArray → Option (Bool)) → Int → Int → Option (Int)
 | 0, _, _, _, _ => none
 | k + 1, x0, x1, x7, x8 => if x8 < x7 then (if 0 ≤ x8 then (if x8 < (x0.length : Int) then ((x1 (rdOf ByteArray.empty x0 x8)).bind fun t188 => (if t188 = true then (some x8) else (slices_IndexFunc_string_string.l0 k x0 x1 x7 (wrap64 (x8 + 1))))) else (none)) else (none)) else (some (-1))
def slices_IndexFunc_string_string.f (k : Nat) (l0 : List ByteArray) (a1 : (ByteArray → Option (Bool))) : Option (Int) := slices_IndexFunc_string_string.l0 k l0 a1 (l0.length : Int) 0
theorem slices_IndexFunc_string_string.mono_l : ∀ k, (∀ y0 y1 y2 y3, LeO (slices_IndexFunc_string_string.l0 k y0 y1 y2 y3) (slices_IndexFunc_string_string.l0 (k + 1) y0 y1 y2 y3))
 | 0 => fun _ _ _ _ r h => by simp [slices_IndexFunc_string_string.l0] at h
 | k + 1 => by
  have ih0 := slices_IndexFunc_string_string.mono_l k
  ·intro y0 y1 y2 y3
   unfold slices_IndexFunc_string_string.l0
   have m0_ := @ih0
   exact mz_
theorem slices_IndexFunc_string_string.mono : ∀ a0 a1 k, LeO (slices_IndexFunc_string_string.f k a0 a1) (slices_IndexFunc_string_string.f (k + 1) a0 a1) := by
 intro a0 a1 k; have ih0 := slices_IndexFunc_string_string.mono_l k; unfold slices_IndexFunc_string_string.f; have m0_ := @ih0; exact mz_
theorem slices_IndexFunc_string_string.calls (k : Nat) (A0 : Option Addr) (c0 : Nat) (l0 : List ByteArray) (G1_ : Nat) (B1_ : Array Value) (a1 : (ByteArray → Option (Bool))) (r : Int) (w : World) (hr0 : Kd.C Kd.string w A0 l0.length l0) (hc0 : l0.length ≤ c0) (eg1_ : ∀ args w, (callFunc G1_ args).run Tryz.prog w = .ok (.enter G1_ args) w) (hq1_ : ∀ (z0 : ByteArray) (zr0 : Bool) (W_ : World), Below w.heap.size w W_ → a1 z0 = some zr0 → Calls Tryz.prog G1_ (#[.string z0] ++ B1_) W_ fun e w' => e = .returned (.bool zr0) ∧ Below W_.heap.size W_ w') (h : slices_IndexFunc_string_string.f k l0 a1 = some r) :
  Calls Tryz.prog 138 #[.slice A0 l0.length c0, .func (.func G1_) #[] B1_] w fun e w' => e = .returned (.int .i64 r) ∧ Below w.heap.size w w' := by
 have HR0 := Aside0.mk hr0; have HC0 := Aside0.mk hc0; clear hr0 hc0; have HB := Aside0.mk (Below.refl w.heap.size w); unfold slices_IndexFunc_string_string.f at h; have H := h; clear h; have H' := Aside0.mk H; clear H; go_enter func138, ntmps138; go_wp2
 go_loopg [8] k (fun kq v8 w' => ∃ (x8_1 : Int), v8 = .int .i64 x8_1 ∧ Aside0 (slices_IndexFunc_string_string.l0 kq l0 a1 (l0.length : Int) x8_1 = some r) ∧ Aside0 (kq ≤ k) ∧ Aside0 (Below w.heap.size w w'))
 case atStart => exact ⟨(0), z1_, H', ⟨Nat.le_refl _⟩, ⟨hb_ HB.out⟩⟩
 case round =>
  clear H'; try clear c1
  try clear p2
  obtain ⟨x8_1, rfl, HA, HK1, HB⟩ := hrel
  cases gk with
  | zero => exact absurd HA.out (by simp [slices_IndexFunc_string_string.l0])
  | succ k1 =>
   have H := HA.out; clear HA; simp only [slices_IndexFunc_string_string.l0] at H; by_cases c3 : x8_1 < (l0.length : Int); rotate_left
   ·rw [if_neg c3] at H; have c3b0 := df_ c3; clear c3; obtain rfl := oi_ H; go_wp2
    go_ret
    exact ⟨z3_, hb_ HB.out⟩
   rw [if_pos c3] at H; have c3b0 := dt_ c3; clear c3; by_cases c4 : 0 ≤ x8_1; rotate_left
   ·rw [if_neg c4] at H; exact no_ H
   rw [if_pos c4] at H; have c4b0 := dt_ c4; clear c4; by_cases c5 : x8_1 < (l0.length : Int); rotate_left
   ·rw [if_neg c5] at H; exact no_ H
   rw [if_pos c5] at H; have c5b0 := dt_ c5; clear c5; obtain ⟨t188, A6, H⟩ := bx_ H; by_cases c7 : t188 = true
   ·subst c7; rw [if_pos rfl] at H; obtain rfl := oi_ H; have p187 : 0 ≤ (x8_1 : Int) := y0_; have q187 : x8_1 < (l0.length : Int) := y0_; obtain ⟨ad187, e187, hx187_0⟩ := Kd.at_string HR0.out x8_1 p187 q187
    cases e187
    replace hx187_0 := (HB.out.cell (World.block_lt_of_cell? w _ hx187_0)).trans hx187_0; replace p187 := eq_true p187; replace q187 := eq_true q187; go_wp2_with (first | (refine goesF_ (some 16) rfl rfl (g := G1_) (lb := B1_) eg1_ #[.string (rdOf ByteArray.empty l0 x8_1)] rfl rfl z8_ (#[.string (rdOf ByteArray.empty l0 x8_1)] ++ B1_) (by first | rfl | simp) ?_; (refine (hq1_ (rdOf ByteArray.empty l0 x8_1) true _  ?side1 A6.out).mono ?_); (case side1 => repeat (first | (with_reducible first | exact HB.out | apply below_alloc | apply pw_below_drewN | apply below_drew1) | exact HB.out)); rintro e w8 ⟨rfl, hb⟩; refine ⟨_, rfl, ?_⟩; replace HB := ah_ HB hb; (try clear hb); (try clear hb2); (try clear hk); (try clear hi)))
    go_ret
    exact ⟨z3_, hb_ HB.out⟩
   replace c7 := Bool.eq_false_iff.mpr c7; subst c7; rw [if_neg nft_] at H; have H' := Aside0.mk H; clear H; have p187 : 0 ≤ (x8_1 : Int) := y0_; have q187 : x8_1 < (l0.length : Int) := y0_; obtain ⟨ad187, e187, hx187_0⟩ := Kd.at_string HR0.out x8_1 p187 q187
   cases e187
   replace hx187_0 := (HB.out.cell (World.block_lt_of_cell? w _ hx187_0)).trans hx187_0; replace p187 := eq_true p187; replace q187 := eq_true q187; go_wp2_with (first | (refine goesF_ (some 16) rfl rfl (g := G1_) (lb := B1_) eg1_ #[.string (rdOf ByteArray.empty l0 x8_1)] rfl rfl z8_ (#[.string (rdOf ByteArray.empty l0 x8_1)] ++ B1_) (by first | rfl | simp) ?_; (refine (hq1_ (rdOf ByteArray.empty l0 x8_1) false _  ?side1 A6.out).mono ?_); (case side1 => repeat (first | (with_reducible first | exact HB.out | apply below_alloc | apply pw_below_drewN | apply below_drew1) | exact HB.out)); rintro e w9 ⟨rfl, hb⟩; refine ⟨_, rfl, ?_⟩; replace HB := ah_ HB hb; (try clear hb); (try clear hb2); (try clear hk); (try clear hi)))
   go_roundg k1
   case measure => have := HK1.out; omega
   case rel => exact ⟨(wrap64 (x8_1 + 1)), z1_, H', ⟨by have := HK1.out; omega⟩, ⟨hb_ HB.out⟩⟩
def slices_ContainsFunc_string_string.f (k : Nat) (l0 : List ByteArray) (a1 : (ByteArray → Option (Bool))) : Option (Bool) := (slices_IndexFunc_string_string.f k l0 a1).bind fun t189 => (some (decide (t189 ≥ 0)))
theorem slices_ContainsFunc_string_string.mono : ∀ a0 a1 k, LeO (slices_ContainsFunc_string_string.f k a0 a1) (slices_ContainsFunc_string_string.f (k + 1) a0 a1) := by
 intro a0 a1 k; unfold slices_ContainsFunc_string_string.f; have m0_ := @slices_IndexFunc_string_string.mono; exact mz_
theorem slices_ContainsFunc_string_string.calls (k : Nat) (A0 : Option Addr) (c0 : Nat) (l0 : List ByteArray) (G1_ : Nat) (B1_ : Array Value) (a1 : (ByteArray → Option (Bool))) (r : Bool) (w : World) (hr0 : Kd.C Kd.string w A0 l0.length l0) (hc0 : l0.length ≤ c0) (eg1_ : ∀ args w, (callFunc G1_ args).run Tryz.prog w = .ok (.enter G1_ args) w) (hq1_ : ∀ (z0 : ByteArray) (zr0 : Bool) (W_ : World), Below w.heap.size w W_ → a1 z0 = some zr0 → Calls Tryz.prog G1_ (#[.string z0] ++ B1_) W_ fun e w' => e = .returned (.bool zr0) ∧ Below W_.heap.size W_ w') (h : slices_ContainsFunc_string_string.f k l0 a1 = some r) :
  Calls Tryz.prog 66 #[.slice A0 l0.length c0, .func (.func G1_) #[] B1_] w fun e w' => e = .returned (.bool r) ∧ Below w.heap.size w w' := by
 have HR0 := Aside0.mk hr0; have HC0 := Aside0.mk hc0; clear hr0 hc0; have HB := Aside0.mk (Below.refl w.heap.size w); unfold slices_ContainsFunc_string_string.f at h; have H := h; clear h; obtain ⟨t189, A3, H⟩ := bx_ H; obtain rfl := oi_ H; go_enter func66, ntmps66; go_wp2_with (first | ((with_reducible refine gate_callee (f := 138) rfl ?_); refine gl_ (some 7) func138 #[.slice A0 l0.length c0, .func (.func G1_) #[] B1_] ?_; (with_reducible refine (slices_IndexFunc_string_string.calls k _ _ l0 G1_ B1_ a1 t189 _ ?side1 ?side2 ?side3 ?side4 A3.out).mono ?_); (case side1 => repeat (first | exact HR0.out | (with_reducible refine Kd.C_alloc ?_ _) | (with_reducible refine Kd.C_drewN ?_ _) | (with_reducible refine Kd.C_drew ?_))); (case side2 => exact HC0.out); (case side3 => exact eg1_); (case side4 => intro z0_ z1_ W_ hB_ h_; exact hq1_ z0_ z1_ _ (Below.trans (hb_ HB.out) (hB_.mono (below_size (hb_ HB.out)))) h_); rintro e w4 ⟨rfl, hb⟩; refine ⟨_, rfl, ?_⟩; replace HB := ah_ HB hb; (try clear hb); (try clear hb2); (try clear hk); (try clear hi)))
 go_ret
 exact ⟨z3_, hb_ HB.out⟩
mutual
def commit_named.j0 : Nat → ByteArray → Bool → Option (Bool)
 | 0, _, _ => none
 | k + 1, x0, x24 => if x24 = true then (some false) else (commit_named.l0 k x0 (x0.size : Int) 0)
def commit_named.l0 : Nat → ByteArray → Int → Int → Option (Bool)
 | 0, _, _, _ => none
 | k + 1, x0, x26, x27 => if x27 < x26 then (if 0 ≤ x27 then (if x27 < (x0.size : Int) then (if (bt x0 x27) < 32 then (some false) else (if (bt x0 x27) = 60 then (some false) else (if (bt x0 x27) = 62 then (some false) else (commit_named.l0 k x0 x26 (wrap64 (x27 + 1)))))) else (none)) else (none)) else (some true)
end
def commit_named.f (k : Nat) (a0 : ByteArray) : Option (Bool) := if (a0.size : Int) < 1 then (commit_named.j0 k a0 true) else (if (a0.size : Int) > 64 then (commit_named.j0 k a0 true) else (if 0 < (a0.size : Int) then (if (bt a0 0) = 32 then (commit_named.j0 k a0 true) else (if 0 ≤ (wrap64 ((a0.size : Int) - 1)) then (if (wrap64 ((a0.size : Int) - 1)) < (a0.size : Int) then (commit_named.j0 k a0 ((bt a0 (wrap64 ((a0.size : Int) - 1))) == 32)) else (none)) else (none))) else (none)))
theorem commit_named.mono_l : ∀ k, (∀ y0 y1, LeO (commit_named.j0 k y0 y1) (commit_named.j0 (k + 1) y0 y1)) ∧ (∀ y0 y1 y2, LeO (commit_named.l0 k y0 y1 y2) (commit_named.l0 (k + 1) y0 y1 y2))
 | 0 => ⟨fun _ _ r h => by simp [commit_named.j0] at h, fun _ _ _ r h => by simp [commit_named.l0] at h⟩
 | k + 1 => by
  obtain ⟨ih0, ih1⟩ := commit_named.mono_l k
  refine ⟨?_, ?_⟩
  ·intro y0 y1
   unfold commit_named.j0
   have m0_ := @ih0
   have m1_ := @ih1
   exact mz_
  ·intro y0 y1 y2
   unfold commit_named.l0
   have m0_ := @ih0
   have m1_ := @ih1
   exact mz_
theorem commit_named.mono : ∀ a0 k, LeO (commit_named.f k a0) (commit_named.f (k + 1) a0) := by
 intro a0 k; obtain ⟨ih0, ih1⟩ := commit_named.mono_l k; unfold commit_named.f; have m0_ := @ih0; have m1_ := @ih1; exact mz_
theorem commit_named.calls (k : Nat) (a0 : ByteArray) (r : Bool) (w : World) (h : commit_named.f k a0 = some r) :
  Calls Tryz.prog 139 #[.string a0] w fun e w' => e = .returned (.bool r) ∧ Drawn0 w w' := by
 unfold commit_named.f at h; have H := h; clear h; have HC2 := Aside0.mk H; clear H; go_enter func139, ntmps139; go_upto_region 1 with (fail)
 go_cut [24] (fun v24 wc => ∃ (kq : Nat) (x24_1 : Bool), v24 = .bool x24_1 ∧ Aside0 (commit_named.j0 kq a0 x24_1 = some r) ∧ Aside0 (kq ≤ k) ∧ Drawn0 w wc)
 case first =>
  have H := HC2.out; clear HC2; by_cases c3 : (a0.size : Int) < 1
  ·rw [if_pos c3] at H; have c3b0 := dt_ c3; have c3b1 : decide (a0.size < 1) = true := decide_eq_true (by omega); clear c3; (first | rw [c3b0] | (simp only [i64_w, i32_w]; rw [c3b0]) | skip); have H' := Aside0.mk H; clear H; go_wp2
   go_meet
   case rel => exact ⟨_, (true), z1_, H', ⟨z4_⟩, z2_⟩
  rw [if_neg c3] at H; have c3b0 := df_ c3; have c3b1 : decide (a0.size < 1) = false := decide_eq_false (by omega); clear c3; (first | rw [c3b0] | (simp only [i64_w, i32_w]; rw [c3b0]) | skip); by_cases c4 : (a0.size : Int) > 64
  ·rw [if_pos c4] at H; have c4b0 := dt_ c4; have c4b1 : decide (64 < a0.size) = true := decide_eq_true (by omega); clear c4; have H' := Aside0.mk H; clear H; go_wp2
   go_meet
   case rel => exact ⟨_, (true), z1_, H', ⟨z4_⟩, z2_⟩
  rw [if_neg c4] at H; have c4b0 := df_ c4; have c4b1 : decide (64 < a0.size) = false := decide_eq_false (by omega); clear c4; by_cases c5 : 0 < (a0.size : Int); rotate_left
  ·rw [if_neg c5] at H; exact no_ H
  rw [if_pos c5] at H; have c5b0 := dt_ c5; have c5b1 : decide (0 < a0.size) = true := decide_eq_true (by omega); clear c5; by_cases c7 : (bt a0 0) = 32
  ·rw [if_pos c7] at H; have c7b0 := et_ c7; have c7b1 := nf_ c7; clear c7; have H' := Aside0.mk H; clear H; have p6 : 0 ≤ (0 : Int) := (by omega); have q6 : 0 < a0.size := (by have : (0 : Int) < (a0.size : Int) := y0_; omega)
   have hx6 : ∀ h : 0 < a0.size, ((a0[0]'h).toNat : Int) = bt a0 0 := bt_at a0 0; clear p6; have qi6 : (0 < (a0.size : Int)) = True := eq_true (y0_); replace q6 := eq_true q6; go_wp2
   go_meet
   case rel => exact ⟨_, (true), z1_, H', ⟨z4_⟩, z2_⟩
  rw [if_neg c7] at H; have c7b0 := ef_ c7; have c7b1 := nt_ c7; obtain ⟨ji8, hji8⟩ : ∃ j_ : Int, (wrap64 ((a0.size : Int) - 1)) = j_ := ⟨_, rfl⟩; replace H : (if 0 ≤ (ji8) then (if (ji8) < (a0.size : Int) then (commit_named.j0 k a0 ((bt a0 (ji8)) == 32)) else (none)) else (none)) = some r := by first | (rw [hji8] at H; exact H) | (simp only [hji8] at H ⊢; exact H)
  have hji8w : (IntKind.i64.wrap ((a0.size : Int) - 1)) = ji8 := (i64_w _).trans hji8; by_cases c9 : 0 ≤ (ji8); rotate_left
  ·rw [if_neg c9] at H; exact no_ H
  rw [if_pos c9] at H; have c9b0 := dt_ c9; clear c9; by_cases c10 : (ji8) < (a0.size : Int); rotate_left
  ·rw [if_neg c10] at H; exact no_ H
  rw [if_pos c10] at H; have c10b0 := dt_ c10; clear c10; have H' := Aside0.mk H; clear H; have p6 : 0 ≤ (0 : Int) := (by omega); have q6 : 0 < a0.size := (by have : (0 : Int) < (a0.size : Int) := y0_; omega)
  have hx6 : ∀ h : 0 < a0.size, ((a0[0]'h).toNat : Int) = bt a0 0 := bt_at a0 0; clear p6; have qi6 : (0 < (a0.size : Int)) = True := eq_true (y0_); replace q6 := eq_true q6; have p11 : 0 ≤ ((ji8) : Int) := y0_; have q11 : (ji8) < (a0.size : Int) := y0_; have hx11 := bt_at a0 (ji8); replace p11 := eq_true p11; replace q11 := eq_true q11; go_wp2
  go_meet
  case rel => exact ⟨_, (((bt a0 (ji8)) == 32)), (by first | rfl | (simp; done) | (simp only [← hji8] <;> (first | rfl | simp)) | (simp [*]; done)), H', ⟨z4_⟩, z2_⟩
 case rest =>
  clear HC2; try clear c1
  try clear p1
  try clear q1
  try clear hx1
  try clear p2
  try clear c3
  try clear c3b0
  try clear c3b1
  try clear c4
  try clear c4b0
  try clear c4b1
  try clear c5
  try clear c5b0
  try clear c5b1
  try clear p6
  try clear q6
  try clear hx6
  try clear qi6
  try clear c7
  try clear c7b0
  try clear c7b1
  try clear c9
  try clear c9b0
  try clear c10
  try clear c10b0
  try clear p11
  try clear q11
  try clear hx11
  try clear p11
  try clear p6
  try clear q11
  try clear q6
  obtain ⟨kq, x24_1, rfl, HA, HJ1, ⟨mc1, rfl⟩⟩ := hcut
  cases kq with
  | zero => exact absurd HA.out (by simp [commit_named.j0])
  | succ kj1 =>
   have H := HA.out; clear HA; simp only [commit_named.j0] at H; by_cases c12 : x24_1 = true
   ·subst c12; rw [if_pos rfl] at H; obtain rfl := oi_ H; go_wp2
    go_ret
    exact ⟨z1_, z2_⟩
   replace c12 := Bool.eq_false_iff.mpr c12; subst c12; rw [if_neg nft_] at H; have H' := Aside0.mk H; clear H; go_wp2
   go_loopg [27] kj1 (fun kq v27 w' => ∃ (x27_2 : Int), v27 = .int .i64 x27_2 ∧ Aside0 (commit_named.l0 kq a0 (a0.size : Int) x27_2 = some r) ∧ Aside0 (kq ≤ kj1) ∧ Drawn0 w w')
   case atStart => exact ⟨(0), z1_, H', ⟨Nat.le_refl _⟩, z2_⟩
   case round =>
    clear H'; try clear c1
    try clear p1
    try clear q1
    try clear hx1
    try clear p2
    try clear c3
    try clear c3b0
    try clear c3b1
    try clear c4
    try clear c4b0
    try clear c4b1
    try clear c5
    try clear c5b0
    try clear c5b1
    try clear p6
    try clear q6
    try clear hx6
    try clear qi6
    try clear c7
    try clear c7b0
    try clear c7b1
    try clear c9
    try clear c9b0
    try clear c10
    try clear c10b0
    try clear p11
    try clear q11
    try clear hx11
    try clear c12
    try clear p1
    try clear p11
    try clear p2
    try clear p6
    try clear q1
    try clear q11
    try clear q6
    obtain ⟨x27_2, rfl, HA, HK2, ⟨m2, rfl⟩⟩ := hrel
    cases gk with
    | zero => exact absurd HA.out (by simp [commit_named.l0])
    | succ k2 =>
     have H := HA.out; clear HA; simp only [commit_named.l0] at H; by_cases c13 : x27_2 < (a0.size : Int); rotate_left
     ·rw [if_neg c13] at H; have c13b0 := df_ c13; clear c13; obtain rfl := oi_ H; go_wp2
      go_ret
      exact ⟨z1_, z2_⟩
     rw [if_pos c13] at H; have c13b0 := dt_ c13; clear c13; by_cases c14 : 0 ≤ x27_2; rotate_left
     ·rw [if_neg c14] at H; exact no_ H
     rw [if_pos c14] at H; have c14b0 := dt_ c14; clear c14; by_cases c15 : x27_2 < (a0.size : Int); rotate_left
     ·rw [if_neg c15] at H; exact no_ H
     rw [if_pos c15] at H; have c15b0 := dt_ c15; clear c15; by_cases c17 : (bt a0 x27_2) < 32
     ·rw [if_pos c17] at H; have c17b0 := dt_ c17; clear c17; obtain rfl := oi_ H; have p16 : 0 ≤ (x27_2 : Int) := y0_; have q16 : x27_2 < (a0.size : Int) := y0_; have hx16 := bt_at a0 x27_2; replace p16 := eq_true p16; replace q16 := eq_true q16; go_wp2
      go_ret
      exact ⟨z1_, z2_⟩
     rw [if_neg c17] at H; have c17b0 := df_ c17; clear c17; by_cases c19 : (bt a0 x27_2) = 60
     ·rw [if_pos c19] at H; have c19b0 := et_ c19; have c19b1 := nf_ c19; clear c19; obtain rfl := oi_ H; have p16 : 0 ≤ (x27_2 : Int) := y0_; have q16 : x27_2 < (a0.size : Int) := y0_; have hx16 := bt_at a0 x27_2; replace p16 := eq_true p16; replace q16 := eq_true q16; have p18 : 0 ≤ (x27_2 : Int) := y0_; have q18 : x27_2 < (a0.size : Int) := y0_; have hx18 := bt_at a0 x27_2; replace p18 := eq_true p18; replace q18 := eq_true q18; go_wp2
      go_ret
      exact ⟨z1_, z2_⟩
     rw [if_neg c19] at H; have c19b0 := ef_ c19; have c19b1 := nt_ c19; by_cases c21 : (bt a0 x27_2) = 62
     ·rw [if_pos c21] at H; have c21b0 := et_ c21; have c21b1 := nf_ c21; clear c21; obtain rfl := oi_ H; have p16 : 0 ≤ (x27_2 : Int) := y0_; have q16 : x27_2 < (a0.size : Int) := y0_; have hx16 := bt_at a0 x27_2; replace p16 := eq_true p16; replace q16 := eq_true q16; have p18 : 0 ≤ (x27_2 : Int) := y0_; have q18 : x27_2 < (a0.size : Int) := y0_; have hx18 := bt_at a0 x27_2; replace p18 := eq_true p18; replace q18 := eq_true q18; have p20 : 0 ≤ (x27_2 : Int) := y0_; have q20 : x27_2 < (a0.size : Int) := y0_; have hx20 := bt_at a0 x27_2; replace p20 := eq_true p20; replace q20 := eq_true q20; go_wp2
      go_ret
      exact ⟨z1_, z2_⟩
     rw [if_neg c21] at H; have c21b0 := ef_ c21; have c21b1 := nt_ c21; have H' := Aside0.mk H; clear H; have p16 : 0 ≤ (x27_2 : Int) := y0_; have q16 : x27_2 < (a0.size : Int) := y0_; have hx16 := bt_at a0 x27_2; replace p16 := eq_true p16; replace q16 := eq_true q16; have p18 : 0 ≤ (x27_2 : Int) := y0_; have q18 : x27_2 < (a0.size : Int) := y0_; have hx18 := bt_at a0 x27_2; replace p18 := eq_true p18; replace q18 := eq_true q18; have p20 : 0 ≤ (x27_2 : Int) := y0_; have q20 : x27_2 < (a0.size : Int) := y0_; have hx20 := bt_at a0 x27_2; replace p20 := eq_true p20; replace q20 := eq_true q20; go_wp2
     go_roundg k2
     case measure => have := HJ1.out; have := HK2.out; omega
     case rel => exact ⟨(wrap64 (x27_2 + 1)), z1_, H', ⟨by have := HJ1.out; have := HK2.out; omega⟩, z2_⟩
def commit_somebody.f (k : Nat) (a0_0 : ByteArray) (a0_1 : ByteArray) (a0_2 : Int) (a0_3 : Int) : Option (Bool) := (commit_named.f k a0_0).bind fun t105 => (if t105 = true then ((commit_named.f k a0_1).bind fun t106 => (if t106 = true then (if a0_2 ≥ 0 then (if a0_2 ≤ 1099511627776 then (if a0_3 ≥ (-840) then (some (decide (a0_3 ≤ 840))) else (some false)) else (some false)) else (some false)) else (some false))) else (some false))
theorem commit_somebody.mono : ∀ a0 a1 a2 a3 k, LeO (commit_somebody.f k a0 a1 a2 a3) (commit_somebody.f (k + 1) a0 a1 a2 a3) := by
 intro a0 a1 a2 a3 k; unfold commit_somebody.f; have m0_ := @commit_named.mono; exact mz_
theorem commit_somebody.calls (k : Nat) (a0_0 : ByteArray) (a0_1 : ByteArray) (a0_2 : Int) (a0_3 : Int) (r : Bool) (w : World) (h : commit_somebody.f k a0_0 a0_1 a0_2 a0_3 = some r) :
  Calls Tryz.prog 67 #[.agg #[.string a0_0, .string a0_1, .int .i64 a0_2, .int .i64 a0_3]] w fun e w' => e = .returned (.bool r) ∧ Below w.heap.size w w' := by
 have hu24 := underlying24; have HB := Aside0.mk (Below.refl w.heap.size w); unfold commit_somebody.f at h; have H := h; clear h; obtain ⟨t105, A2, H⟩ := bx_ H; by_cases c3 : t105 = true; rotate_left
 ·replace c3 := Bool.eq_false_iff.mpr c3; subst c3; rw [if_neg nft_] at H; obtain rfl := oi_ H; go_enter func67, ntmps67; go_wp2_with (first | ((with_reducible refine gate_dst (N := 1) rfl ?_); refine be_ (cs := #[.string a0_0, .string a0_1, .int .i64 a0_2, .int .i64 a0_3]) (t := 24) ?_; intro gb104 hg w19 hbox hb; have BK104 := Aside0.mk (hbox); have GW104 := ag_ hg HB; have GE104 := ag_ hg HB; replace HB := ah_ HB hb; clear hb hbox hg; obtain ⟨Z20_0, Z20_1, Z20_2, Z20_3, F20⟩ := bc4 BK104.out) | ((with_reducible refine gate_callee (f := 139) rfl ?_); refine gl_ (some 5) func139 #[.string a0_0] ?_; refine cm_ (commit_named.calls k a0_0 false _ A2.out) ?_; rintro w' ⟨nd, rfl⟩)); go_ret
  exact ⟨z3_, hs_⟩
 subst c3; rw [if_pos rfl] at H; obtain ⟨t106, A4, H⟩ := bx_ H; by_cases c5 : t106 = true; rotate_left
 ·replace c5 := Bool.eq_false_iff.mpr c5; subst c5; rw [if_neg nft_] at H; obtain rfl := oi_ H; go_enter func67, ntmps67; have tk9_ : True := trivial; have tk10_ : True := trivial; go_wp2_with (first | ((with_reducible refine gate_dst (N := 1) rfl ?_); refine be_ (cs := #[.string a0_0, .string a0_1, .int .i64 a0_2, .int .i64 a0_3]) (t := 24) ?_; intro gb104 hg w17 hbox hb; have BK104 := Aside0.mk (hbox); have GW104 := ag_ hg HB; have GE104 := ag_ hg HB; replace HB := ah_ HB hb; clear hb hbox hg; obtain ⟨Z18_0, Z18_1, Z18_2, Z18_3, F18⟩ := bc4 BK104.out) | (have _t := tk9_; (with_reducible refine gate_callee (f := 139) rfl ?_); refine gl_ (some 5) func139 #[.string a0_0] ?_; refine cm_ (commit_named.calls k a0_0 true _ A2.out) ?_; rintro w' ⟨nd, rfl⟩; clear tk9_) | (go_at_call 139; have _t := tk10_; (with_reducible refine (commit_named.calls k a0_1 false _ A4.out).mono ?_); rintro e w' ⟨rfl, ⟨nd, rfl⟩⟩; clear tk10_)); go_ret
  exact ⟨z3_, hs_⟩
 subst c5; rw [if_pos rfl] at H; by_cases c6 : a0_2 ≥ 0; rotate_left
 ·rw [if_neg c6] at H; have c6b0 := df_ c6; clear c6; obtain rfl := oi_ H; go_enter func67, ntmps67; have tk7_ : True := trivial; have tk8_ : True := trivial; go_wp2_with (first | ((with_reducible refine gate_dst (N := 1) rfl ?_); refine be_ (cs := #[.string a0_0, .string a0_1, .int .i64 a0_2, .int .i64 a0_3]) (t := 24) ?_; intro gb104 hg w15 hbox hb; have BK104 := Aside0.mk (hbox); have GW104 := ag_ hg HB; have GE104 := ag_ hg HB; replace HB := ah_ HB hb; clear hb hbox hg; obtain ⟨Z16_0, Z16_1, Z16_2, Z16_3, F16⟩ := bc4 BK104.out) | (have _t := tk7_; (with_reducible refine gate_callee (f := 139) rfl ?_); refine gl_ (some 5) func139 #[.string a0_0] ?_; refine cm_ (commit_named.calls k a0_0 true _ A2.out) ?_; rintro w' ⟨nd, rfl⟩; clear tk7_) | (go_at_call 139; have _t := tk8_; (with_reducible refine (commit_named.calls k a0_1 true _ A4.out).mono ?_); rintro e w' ⟨rfl, ⟨nd, rfl⟩⟩; clear tk8_)); go_ret
  exact ⟨z3_, hs_⟩
 rw [if_pos c6] at H; have c6b0 := dt_ c6; clear c6; by_cases c7 : a0_2 ≤ 1099511627776; rotate_left
 ·rw [if_neg c7] at H; have c7b0 := df_ c7; clear c7; obtain rfl := oi_ H; go_enter func67, ntmps67; have tk5_ : True := trivial; have tk6_ : True := trivial; go_wp2_with (first | ((with_reducible refine gate_dst (N := 1) rfl ?_); refine be_ (cs := #[.string a0_0, .string a0_1, .int .i64 a0_2, .int .i64 a0_3]) (t := 24) ?_; intro gb104 hg w13 hbox hb; have BK104 := Aside0.mk (hbox); have GW104 := ag_ hg HB; have GE104 := ag_ hg HB; replace HB := ah_ HB hb; clear hb hbox hg; obtain ⟨Z14_0, Z14_1, Z14_2, Z14_3, F14⟩ := bc4 BK104.out) | (have _t := tk5_; (with_reducible refine gate_callee (f := 139) rfl ?_); refine gl_ (some 5) func139 #[.string a0_0] ?_; refine cm_ (commit_named.calls k a0_0 true _ A2.out) ?_; rintro w' ⟨nd, rfl⟩; clear tk5_) | (go_at_call 139; have _t := tk6_; (with_reducible refine (commit_named.calls k a0_1 true _ A4.out).mono ?_); rintro e w' ⟨rfl, ⟨nd, rfl⟩⟩; clear tk6_)); go_ret
  exact ⟨z3_, hs_⟩
 rw [if_pos c7] at H; have c7b0 := dt_ c7; clear c7; by_cases c8 : a0_3 ≥ (-840)
 ·rw [if_pos c8] at H; have c8b0 := dt_ c8; clear c8; obtain rfl := oi_ H; go_enter func67, ntmps67; have tk1_ : True := trivial; have tk2_ : True := trivial; go_wp2_with (first | ((with_reducible refine gate_dst (N := 1) rfl ?_); refine be_ (cs := #[.string a0_0, .string a0_1, .int .i64 a0_2, .int .i64 a0_3]) (t := 24) ?_; intro gb104 hg w9 hbox hb; have BK104 := Aside0.mk (hbox); have GW104 := ag_ hg HB; have GE104 := ag_ hg HB; replace HB := ah_ HB hb; clear hb hbox hg; obtain ⟨Z10_0, Z10_1, Z10_2, Z10_3, F10⟩ := bc4 BK104.out) | (have _t := tk1_; (with_reducible refine gate_callee (f := 139) rfl ?_); refine gl_ (some 5) func139 #[.string a0_0] ?_; refine cm_ (commit_named.calls k a0_0 true _ A2.out) ?_; rintro w' ⟨nd, rfl⟩; clear tk1_) | (go_at_call 139; have _t := tk2_; (with_reducible refine (commit_named.calls k a0_1 true _ A4.out).mono ?_); rintro e w' ⟨rfl, ⟨nd, rfl⟩⟩; clear tk2_)); go_ret
  exact ⟨z3_, hs_⟩
 rw [if_neg c8] at H; have c8b0 := df_ c8; clear c8; obtain rfl := oi_ H; go_enter func67, ntmps67; have tk3_ : True := trivial; have tk4_ : True := trivial; go_wp2_with (first | ((with_reducible refine gate_dst (N := 1) rfl ?_); refine be_ (cs := #[.string a0_0, .string a0_1, .int .i64 a0_2, .int .i64 a0_3]) (t := 24) ?_; intro gb104 hg w11 hbox hb; have BK104 := Aside0.mk (hbox); have GW104 := ag_ hg HB; have GE104 := ag_ hg HB; replace HB := ah_ HB hb; clear hb hbox hg; obtain ⟨Z12_0, Z12_1, Z12_2, Z12_3, F12⟩ := bc4 BK104.out) | (have _t := tk3_; (with_reducible refine gate_callee (f := 139) rfl ?_); refine gl_ (some 5) func139 #[.string a0_0] ?_; refine cm_ (commit_named.calls k a0_0 true _ A2.out) ?_; rintro w' ⟨nd, rfl⟩; clear tk3_) | (go_at_call 139; have _t := tk4_; (with_reducible refine (commit_named.calls k a0_1 true _ A4.out).mono ?_); rintro e w' ⟨rfl, ⟨nd, rfl⟩⟩; clear tk4_)); go_ret
 exact ⟨z3_, hs_⟩
end Go.Proofs.YtbhfbbfjdklfgaaGreatDoor.Q
namespace Go.Proofs.YtbhfbbfjdklfgaaGreatDoor.Q
open Go.Proofs.Tryz Go.RowKit Go.Lib Go.Proofs.YtbhfbbfjdklfgaaGreatDoorW.PrintWords Go.Proofs.YtbhfbbfjdklfgaaGreatDoorW.PrintLast
theorem R_strings (e : Nat) (w : World) (l : List ByteArray) (hl : l.length ≤ maxLen) :
    Kd.R Kd.string e (w.alloc (.cells (l.map Value.string).toArray e)) w.heap.size (fun _ => True) (.slice (some ⟨w.heap.size, 0, none⟩) l.length l.length) l := by
  refine ⟨fun _ _ => trivial, l.map Value.string, ⟨by simp [Kd.string, Kd.scalar], .inr ⟨w.heap.size, l.length, (l.map Value.string).toArray, rfl, Nat.le_refl _, heap_alloc_new w _, Nat.le_refl _, hl, by simp [Kd.string, Kd.scalar], List.take_of_length_le (by simp [Kd.string, Kd.scalar])⟩⟩, by simp [Kd.string, Kd.scalar], fun j p hp => ?_⟩
  show ((l.map Value.string).drop (j * 1)).take 1 = [.string p]
  have hj := (List.getElem?_eq_some_iff.1 hp).1
  rw [Nat.mul_one, List.drop_eq_getElem_cons (by simpa using hj)]
  have : l[j] = p := by simpa [List.getElem?_eq_getElem hj] using hp
  simp [this]
def strings_Split.f (a0 : ByteArray) (a1 : ByteArray) : Option (List ByteArray) := if a1.size = 1 ∧ a0.size < 4294967281 then some (Lib.splitB a1 0 (Lib.countB a0 a1) a0) else none
theorem strings_Split.calls (a0 : ByteArray) (a1 : ByteArray) (r : List ByteArray) (w : World) (h : strings_Split.f a0 a1 = some r) :
    Calls Tryz.prog 200 #[.string a0, .string a1] w fun e w' => ∃ v0_ : Value, e = .returned (v0_) ∧ Kd.R Kd.string 9 w' w.heap.size (fun _ => True) v0_ r ∧ Below w.heap.size w w' := by
  unfold strings_Split.f at h
  split at h
  case isFalse => cases h
  case isTrue hc =>
  obtain rfl := Option.some.inj h
  obtain ⟨c, rfl⟩ := Lib.one_byte a1 hc.1
  have h1 : 1 ≤ (⟨#[c]⟩ : ByteArray).size := by rw [hc.1]; exact Nat.le_refl _
  have hle := Lib.countB_le ⟨#[c]⟩ h1 a0.size a0 (Nat.le_refl _)
  have hlen := Lib.splitB_all ⟨#[c]⟩ h1 0 _ a0 rfl
  have ct := Any.strings_genSplit_core Tryz.lays221 (by kernel_rfl) a0 ⟨#[c]⟩ 0 (-1) (Lib.countB a0 ⟨#[c]⟩ + 1) w hc.2 h1 (Nat.zero_le _)
    (fun x C hx => by
      refine (Tryz.strings_Index_one x c _).mono fun e w' ⟨he, hw⟩ => ⟨?_, hw⟩
      rw [he]
      show _ = Ending.returned (Value.int .i64 (Lib.index x.data.toList [c]))
      rw [Lib.index_one])
    (by
      refine (Tryz.strings_Count_one a0 c w).mono fun e w' ⟨he, hw⟩ => ⟨?_, hw⟩
      rw [he]
      show _ = Ending.returned (Value.int .i64 ((Lib.count a0.data.toList [c] : Nat) : Int))
      rw [Lib.count_one]
      rfl) (by decide) (by decide) (by rw [if_pos (by decide)]; omega)
  rw [Nat.add_sub_cancel, hlen] at ct
  have e2 : Lib.cellsOf (Lib.splitB ⟨#[c]⟩ 0 (Lib.countB a0 ⟨#[c]⟩) a0) (Lib.countB a0 ⟨#[c]⟩ + 1) = ((Lib.splitB ⟨#[c]⟩ 0 (Lib.countB a0 ⟨#[c]⟩) a0).map Value.string).toArray := by rw [← hlen]; exact Lib.cellsOf_full _
  rw [e2] at ct
  have HR := R_strings 9 w (Lib.splitB ⟨#[c]⟩ 0 (Lib.countB a0 ⟨#[c]⟩) a0) (by rw [hlen]; unfold maxLen; omega)
  rw [hlen] at HR
  go_enter func200, ntmps200
  go_wp2_with (go_at_call 234; refine (show Calls _ 234 _ _ _ from ct).mono ?_; rintro e w' ⟨rfl, hw⟩; rw [hw])
  go_ret
  exact ⟨_, rfl, HR, below_alloc (Below.refl _ _) _⟩
end Go.Proofs.YtbhfbbfjdklfgaaGreatDoor.Q
namespace Go.Proofs.YtbhfbbfjdklfgaaGreatDoor.Q
open Go.Proofs.Tryz Go.RowKit Go.Proofs.YtbhfbbfjdklfgaaGreatDoorW.PrintWords Go.Proofs.YtbhfbbfjdklfgaaGreatDoorW.PrintLast Go.Proofs.YtbhfbbfjdklfgaaGreatDoorW.PrintMore
attribute [local go_sem] max2_int min2_int max_two min_two max_three min_three max_four min_four
mutual
def path_part.j0 : Nat → ByteArray → Bool → Option (Bool)
 | 0, _, _ => none
 | k + 1, x0, x23 => if x23 = true then (some false) else (path_part.l0 k x0 (x0.size : Int) 0)
def path_part.l0 : Nat → ByteArray → Int → Int → Option (Bool)
 | 0, _, _, _ => none
 | k + 1, x0, x25, x26 => if x26 < x25 then (if 0 ≤ x26 then (if x26 < (x0.size : Int) then (if (bt x0 x26) < 32 then (some false) else (path_part.l0 k x0 x25 (wrap64 (x26 + 1)))) else (none)) else (none)) else (some true)
end
def path_part.f (k : Nat) (a0 : ByteArray) : Option (Bool) := if (a0.size : Int) < 1 then (path_part.j0 k a0 true) else (if (a0.size : Int) > 64 then (path_part.j0 k a0 true) else (if a0.toList = ([46] : List UInt8) then (path_part.j0 k a0 true) else (if a0.toList = ([46, 46] : List UInt8) then (path_part.j0 k a0 true) else (path_part.j0 k a0 (a0.toList == ([46, 103, 114, 97, 102, 116] : List UInt8))))))
theorem path_part.mono_l : ∀ k, (∀ y0 y1, LeO (path_part.j0 k y0 y1) (path_part.j0 (k + 1) y0 y1)) ∧ (∀ y0 y1 y2, LeO (path_part.l0 k y0 y1 y2) (path_part.l0 (k + 1) y0 y1 y2))
 | 0 => ⟨fun _ _ r h => by simp [path_part.j0] at h, fun _ _ _ r h => by simp [path_part.l0] at h⟩
 | k + 1 => by
  obtain ⟨ih0, ih1⟩ := path_part.mono_l k
  refine ⟨?_, ?_⟩
  ·intro y0 y1
   unfold path_part.j0
   have m0_ := @ih0
   have m1_ := @ih1
   exact mz_
  ·intro y0 y1 y2
   unfold path_part.l0
   have m0_ := @ih0
   have m1_ := @ih1
   exact mz_
theorem path_part.mono : ∀ a0 k, LeO (path_part.f k a0) (path_part.f (k + 1) a0) := by
 intro a0 k; obtain ⟨ih0, ih1⟩ := path_part.mono_l k; unfold path_part.f; have m0_ := @ih0; have m1_ := @ih1; exact mz_
theorem path_part.calls (k : Nat) (a0 : ByteArray) (r : Bool) (w : World) (h : path_part.f k a0 = some r) :
  Calls Tryz.prog 201 #[.string a0] w fun e w' => e = .returned (.bool r) ∧ Drawn0 w w' := by
 unfold path_part.f at h; have H := h; clear h; have HC2 := Aside0.mk H; clear H; go_enter func201, ntmps201; go_upto_region 1 with (fail)
 go_cut [23] (fun v23 wc => ∃ (kq : Nat) (x23_1 : Bool), v23 = .bool x23_1 ∧ Aside0 (path_part.j0 kq a0 x23_1 = some r) ∧ Aside0 (kq ≤ k) ∧ Drawn0 w wc)
 case first =>
  have H := HC2.out; clear HC2; by_cases c3 : (a0.size : Int) < 1
  ·rw [if_pos c3] at H; have c3b0 := dt_ c3; have c3b1 : decide (a0.size < 1) = true := decide_eq_true (by omega); clear c3; (first | rw [c3b0] | (simp only [i64_w, i32_w]; rw [c3b0]) | skip); have H' := Aside0.mk H; clear H; go_wp2
   go_meet
   case rel => exact ⟨_, (true), z1_, H', ⟨z4_⟩, z2_⟩
  rw [if_neg c3] at H; have c3b0 := df_ c3; have c3b1 : decide (a0.size < 1) = false := decide_eq_false (by omega); clear c3; (first | rw [c3b0] | (simp only [i64_w, i32_w]; rw [c3b0]) | skip); by_cases c4 : (a0.size : Int) > 64
  ·rw [if_pos c4] at H; have c4b0 := dt_ c4; have c4b1 : decide (64 < a0.size) = true := decide_eq_true (by omega); clear c4; have H' := Aside0.mk H; clear H; go_wp2
   go_meet
   case rel => exact ⟨_, (true), z1_, H', ⟨z4_⟩, z2_⟩
  rw [if_neg c4] at H; have c4b0 := df_ c4; have c4b1 : decide (64 < a0.size) = false := decide_eq_false (by omega); clear c4; by_cases c5 : a0.toList = ([46] : List UInt8)
  ·rw [if_pos c5] at H; have c5b0 := et_ c5; have c5b1 := nf_ c5; clear c5; have H' := Aside0.mk H; clear H; go_wp2
   go_meet
   case rel => exact ⟨_, (true), z1_, H', ⟨z4_⟩, z2_⟩
  rw [if_neg c5] at H; have c5b0 := ef_ c5; have c5b1 := nt_ c5; by_cases c6 : a0.toList = ([46, 46] : List UInt8)
  ·rw [if_pos c6] at H; have c6b0 := et_ c6; have c6b1 := nf_ c6; clear c6; have H' := Aside0.mk H; clear H; go_wp2
   go_meet
   case rel => exact ⟨_, (true), z1_, H', ⟨z4_⟩, z2_⟩
  rw [if_neg c6] at H; have c6b0 := ef_ c6; have c6b1 := nt_ c6; have H' := Aside0.mk H; clear H; go_wp2
  go_meet
  case rel => exact ⟨_, ((a0.toList == ([46, 103, 114, 97, 102, 116] : List UInt8))), z1_, H', ⟨z4_⟩, z2_⟩
 case rest =>
  clear HC2; try clear c2
  try clear p2
  try clear c3
  try clear c3b0
  try clear c3b1
  try clear c4
  try clear c4b0
  try clear c4b1
  try clear c5
  try clear c5b0
  try clear c5b1
  try clear c6
  try clear c6b0
  try clear c6b1
  obtain ⟨kq, x23_1, rfl, HA, HJ1, ⟨mc1, rfl⟩⟩ := hcut
  cases kq with
  | zero => exact absurd HA.out (by simp [path_part.j0])
  | succ kj1 =>
   have H := HA.out; clear HA; simp only [path_part.j0] at H; by_cases c7 : x23_1 = true
   ·subst c7; rw [if_pos rfl] at H; obtain rfl := oi_ H; go_wp2
    go_ret
    exact ⟨z1_, z2_⟩
   replace c7 := Bool.eq_false_iff.mpr c7; subst c7; rw [if_neg nft_] at H; have H' := Aside0.mk H; clear H; go_wp2
   go_loopg [26] kj1 (fun kq v26 w' => ∃ (x26_2 : Int), v26 = .int .i64 x26_2 ∧ Aside0 (path_part.l0 kq a0 (a0.size : Int) x26_2 = some r) ∧ Aside0 (kq ≤ kj1) ∧ Drawn0 w w')
   case atStart => exact ⟨(0), z1_, H', ⟨Nat.le_refl _⟩, z2_⟩
   case round =>
    clear H'; try clear c1
    try clear c2
    try clear p2
    try clear c3
    try clear c3b0
    try clear c3b1
    try clear c4
    try clear c4b0
    try clear c4b1
    try clear c5
    try clear c5b0
    try clear c5b1
    try clear c6
    try clear c6b0
    try clear c6b1
    try clear c7
    try clear p2
    obtain ⟨x26_2, rfl, HA, HK2, ⟨m2, rfl⟩⟩ := hrel
    cases gk with
    | zero => exact absurd HA.out (by simp [path_part.l0])
    | succ k2 =>
     have H := HA.out; clear HA; simp only [path_part.l0] at H; by_cases c8 : x26_2 < (a0.size : Int); rotate_left
     ·rw [if_neg c8] at H; have c8b0 := df_ c8; clear c8; obtain rfl := oi_ H; go_wp2
      go_ret
      exact ⟨z1_, z2_⟩
     rw [if_pos c8] at H; have c8b0 := dt_ c8; clear c8; by_cases c9 : 0 ≤ x26_2; rotate_left
     ·rw [if_neg c9] at H; exact no_ H
     rw [if_pos c9] at H; have c9b0 := dt_ c9; clear c9; by_cases c10 : x26_2 < (a0.size : Int); rotate_left
     ·rw [if_neg c10] at H; exact no_ H
     rw [if_pos c10] at H; have c10b0 := dt_ c10; clear c10; by_cases c12 : (bt a0 x26_2) < 32
     ·rw [if_pos c12] at H; have c12b0 := dt_ c12; clear c12; obtain rfl := oi_ H; have p11 : 0 ≤ (x26_2 : Int) := y0_; have q11 : x26_2 < (a0.size : Int) := y0_; have hx11 := bt_at a0 x26_2; replace p11 := eq_true p11; replace q11 := eq_true q11; go_wp2
      go_ret
      exact ⟨z1_, z2_⟩
     rw [if_neg c12] at H; have c12b0 := df_ c12; clear c12; have H' := Aside0.mk H; clear H; have p11 : 0 ≤ (x26_2 : Int) := y0_; have q11 : x26_2 < (a0.size : Int) := y0_; have hx11 := bt_at a0 x26_2; replace p11 := eq_true p11; replace q11 := eq_true q11; go_wp2
     go_roundg k2
     case measure => have := HJ1.out; have := HK2.out; omega
     case rel => exact ⟨(wrap64 (x26_2 + 1)), z1_, H', ⟨by have := HJ1.out; have := HK2.out; omega⟩, z2_⟩
mutual
def path_Is.j0 : Nat → ByteArray → Bool → Option (Bool)
 | 0, _, _ => none
 | k + 1, x0, x12 => if x12 = true then (some false) else ((strings_Split.f x0 ⟨#[47]⟩).bind fun t107 => (path_Is.l0 k t107 t107 (t107.length : Int) 0))
def path_Is.l0 : Nat → List ByteArray → List ByteArray → Int → Int → Option (Bool)
 | 0, _, _, _, _ => none
 | k + 1, x3, x15, x16, x17 => if x17 < x16 then (if 0 ≤ x17 then (if x17 < (x15.length : Int) then ((path_part.f k (rdOf ByteArray.empty x15 x17)).bind fun t111 => (if t111 = true then (path_Is.l0 k x3 x15 x16 (wrap64 (x17 + 1))) else (some false))) else (none)) else (none)) else (some (decide ((x3.length : Int) ≤ 16)))
end
def path_Is.f (k : Nat) (a0 : ByteArray) : Option (Bool) := if a0.toList = ([] : List UInt8) then (path_Is.j0 k a0 true) else (path_Is.j0 k a0 (decide ((a0.size : Int) > 255)))
theorem path_Is.mono_l : ∀ k, (∀ y0 y1, LeO (path_Is.j0 k y0 y1) (path_Is.j0 (k + 1) y0 y1)) ∧ (∀ y0 y1 y2 y3, LeO (path_Is.l0 k y0 y1 y2 y3) (path_Is.l0 (k + 1) y0 y1 y2 y3))
 | 0 => ⟨fun _ _ r h => by simp [path_Is.j0] at h, fun _ _ _ _ r h => by simp [path_Is.l0] at h⟩
 | k + 1 => by
  obtain ⟨ih0, ih1⟩ := path_Is.mono_l k
  refine ⟨?_, ?_⟩
  ·intro y0 y1
   unfold path_Is.j0
   have m0_ := @ih0
   have m1_ := @ih1
   have m2_ := @path_part.mono
   exact mz_
  ·intro y0 y1 y2 y3
   unfold path_Is.l0
   have m0_ := @ih0
   have m1_ := @ih1
   have m2_ := @path_part.mono
   exact mz_
theorem path_Is.mono : ∀ a0 k, LeO (path_Is.f k a0) (path_Is.f (k + 1) a0) := by
 intro a0 k; obtain ⟨ih0, ih1⟩ := path_Is.mono_l k; unfold path_Is.f; have m0_ := @ih0; have m1_ := @ih1; have m2_ := @path_part.mono; exact mz_
theorem path_Is.calls (k : Nat) (a0 : ByteArray) (r : Bool) (w : World) (h : path_Is.f k a0 = some r) :
  Calls Tryz.prog 156 #[.string a0] w fun e w' => e = .returned (.bool r) ∧ Below w.heap.size w w' := by
 have HB := Aside0.mk (Below.refl w.heap.size w); unfold path_Is.f at h; have H := h; clear h; have HC2 := Aside0.mk H; clear H; go_enter func156, ntmps156; go_upto_region 1 with (fail)
 go_cut [12] (fun v12 wc => ∃ (kq : Nat) (x12_1 : Bool), v12 = .bool x12_1 ∧ Aside0 (path_Is.j0 kq a0 x12_1 = some r) ∧ Aside0 (kq ≤ k) ∧ Aside0 (Below w.heap.size w wc))
 case first =>
  have H := HC2.out; clear HC2; by_cases c3 : a0.toList = ([] : List UInt8)
  ·rw [if_pos c3] at H; have c3b0 := et_ c3; have c3b1 := nf_ c3; clear c3; (first | rw [c3b0] | (simp only [i64_w, i32_w]; rw [c3b0]) | skip); have H' := Aside0.mk H; clear H; go_wp2
   go_meet
   case rel => exact ⟨_, (true), z1_, H', ⟨z4_⟩, ⟨hb_ HB.out⟩⟩
  rw [if_neg c3] at H; have c3b0 := ef_ c3; have c3b1 := nt_ c3; (first | rw [c3b0] | (simp only [i64_w, i32_w]; rw [c3b0]) | skip); have H' := Aside0.mk H; clear H; go_wp2
  go_meet
  case rel => exact ⟨_, (decide ((a0.size : Int) > 255)), z1_, H', ⟨z4_⟩, ⟨hb_ HB.out⟩⟩
 case rest =>
  clear HC2; try clear c1
  try clear p2
  try clear c3
  try clear c3b0
  try clear c3b1
  obtain ⟨kq, x12_1, rfl, HA, HJ1, HB⟩ := hcut
  cases kq with
  | zero => exact absurd HA.out (by simp [path_Is.j0])
  | succ kj1 =>
   have H := HA.out; clear HA; simp only [path_Is.j0] at H; by_cases c4 : x12_1 = true
   ·subst c4; rw [if_pos rfl] at H; obtain rfl := oi_ H; go_wp2
    go_ret
    exact ⟨z3_, hb_ HB.out⟩
   replace c4 := Bool.eq_false_iff.mpr c4; subst c4; rw [if_neg nft_] at H; obtain ⟨t107, A5, H⟩ := bx_ H; have H' := Aside0.mk H; clear H; go_wp2_with (first | ((with_reducible refine gate_callee (f := 200) rfl ?_); refine gl_ (some 14) func200 #[.string a0, .string ⟨#[47]⟩] ?_; (with_reducible refine (strings_Split.calls a0 ⟨#[47]⟩ t107 _ A5.out).mono ?_); rintro e w6 ⟨v108, rfl, ho0, hb⟩; refine ⟨_, rfl, ?_⟩; have HO109 := Aside0.mk (Kd.R_lower ho0 (below_size (hb_ HB.out))); replace HB := ah_ HB hb; (try clear hb); (try clear hb2); (try clear hk); (try clear hi); (try clear ho0); obtain ⟨Ao7, co7, eo7⟩ := Kd.R_slice HO109.out; subst eo7)); go_loopg [17] kj1 (fun kq v17 w' => ∃ (x17_2 : Int), v17 = .int .i64 x17_2 ∧ Aside0 (path_Is.l0 kq t107 t107 (t107.length : Int) x17_2 = some r) ∧ Aside0 (kq ≤ kj1) ∧ Aside0 (Kd.R Kd.string 9 w' w.heap.size (fun _ => True) (.slice Ao7 t107.length co7) t107) ∧ Aside0 (Kd.R Kd.string 9 w' w.heap.size (fun _ => True) (.slice Ao7 t107.length co7) t107) ∧ Aside0 (Below w.heap.size w w'))
   case atStart => exact ⟨(0), z1_, H', ⟨Nat.le_refl _⟩, ⟨by (with_reducible repeat (first | apply Kd.R_alloc | apply Kd.R_drewN | apply Kd.R_drew)); exact HO109.out⟩, ⟨by (with_reducible repeat (first | apply Kd.R_alloc | apply Kd.R_drewN | apply Kd.R_drew)); exact HO109.out⟩, ⟨hb_ HB.out⟩⟩
   case round =>
    clear H'; try clear c1
    try clear c2
    try clear p2
    try clear c3
    try clear c3b0
    try clear c3b1
    try clear c4
    try clear p2
    obtain ⟨x17_2, rfl, HA, HK2, HO_3, HO_15, HB⟩ := hrel
    cases gk with
    | zero => exact absurd HA.out (by simp [path_Is.l0])
    | succ k2 =>
     have H := HA.out; clear HA; simp only [path_Is.l0] at H; by_cases c8 : x17_2 < (t107.length : Int); rotate_left
     ·rw [if_neg c8] at H; have c8b0 := df_ c8; clear c8; obtain rfl := oi_ H; go_wp2
      go_ret
      exact ⟨z3_, hb_ HB.out⟩
     rw [if_pos c8] at H; have c8b0 := dt_ c8; clear c8; by_cases c9 : 0 ≤ x17_2; rotate_left
     ·rw [if_neg c9] at H; exact no_ H
     rw [if_pos c9] at H; have c9b0 := dt_ c9; clear c9; by_cases c10 : x17_2 < (t107.length : Int); rotate_left
     ·rw [if_neg c10] at H; exact no_ H
     rw [if_pos c10] at H; have c10b0 := dt_ c10; clear c10; obtain ⟨t111, A11, H⟩ := bx_ H; by_cases c12 : t111 = true; rotate_left
     ·replace c12 := Bool.eq_false_iff.mpr c12; subst c12; rw [if_neg nft_] at H; obtain rfl := oi_ H; have p110 : 0 ≤ (x17_2 : Int) := y0_; have q110 : x17_2 < (t107.length : Int) := y0_; obtain ⟨ad110, e110, hx110_0⟩ := Kd.at_string (Kd.R_reads' HO_15.out).2.2 x17_2 p110 q110
      cases e110
      replace p110 := eq_true p110; replace q110 := eq_true q110; go_wp2_with (first | ((with_reducible refine gate_callee (f := 201) rfl ?_); refine gl_ (some 22) func201 #[.string (rdOf ByteArray.empty t107 x17_2)] ?_; refine cm_ (path_part.calls k2 (rdOf ByteArray.empty t107 x17_2) false _ A11.out) ?_; rintro w' ⟨nd, rfl⟩)); go_ret
      exact ⟨z3_, hb_ HB.out⟩
     subst c12; rw [if_pos rfl] at H; have H' := Aside0.mk H; clear H; have p110 : 0 ≤ (x17_2 : Int) := y0_; have q110 : x17_2 < (t107.length : Int) := y0_; obtain ⟨ad110, e110, hx110_0⟩ := Kd.at_string (Kd.R_reads' HO_15.out).2.2 x17_2 p110 q110
     cases e110
     replace p110 := eq_true p110; replace q110 := eq_true q110; go_wp2_with (first | ((with_reducible refine gate_callee (f := 201) rfl ?_); refine gl_ (some 22) func201 #[.string (rdOf ByteArray.empty t107 x17_2)] ?_; refine cm_ (path_part.calls k2 (rdOf ByteArray.empty t107 x17_2) true _ A11.out) ?_; rintro w' ⟨nd, rfl⟩)); go_roundg k2
     case measure => have := HJ1.out; have := HK2.out; omega
     case rel => exact ⟨(wrap64 (x17_2 + 1)), z1_, H', ⟨by have := HJ1.out; have := HK2.out; omega⟩, ⟨z15_⟩, ⟨by (with_reducible repeat (first | apply Kd.R_alloc | apply Kd.R_drewN | apply Kd.R_drew)); exact HO_15.out⟩, ⟨hb_ HB.out⟩⟩
theorem wrap_id {x : Int} (h0 : -9223372036854775808 ≤ x) (h1 : x ≤ 9223372036854775807) : wrap64 x = x := by unfold wrap64; omega
theorem rd_ext (l : List ByteArray) (i : Nat) (h : i < l.length) : rdOf ByteArray.empty l i = l[i] := by
  simp [rdOf, List.getD, List.getElem?_eq_getElem h]
theorem ba_ext {a b : ByteArray} (h : a.data.toList = b.data.toList) : a = b := by
  cases a; cases b; simp at h; simp [h]
theorem append_data (a b : ByteArray) : (a ++ b).data.toList = a.data.toList ++ b.data.toList := by simp
def consH (b : UInt8) : List (List UInt8) → List (List UInt8)
  | [] => [[b]]
  | h :: t => (b :: h) :: t
def partsL : List UInt8 → List (List UInt8)
  | [] => [[]]
  | b :: r => if b = 47 then [] :: partsL r else consH b (partsL r)
theorem partsL_ne (l : List UInt8) : partsL l ≠ [] := by
  cases l with
  | nil => simp [partsL]
  | cons b r =>
    unfold partsL
    split
    · simp
    · cases partsL r <;> simp [consH]
theorem index_cons_ne (b c : UInt8) (l : List UInt8) (h : b ≠ c) : Lib.index (b :: l) [c] = if Lib.index l [c] == -1 then -1 else Lib.index l [c] + 1 := by
  have hp : ([c] : List UInt8).isPrefixOf (b :: l) = false := by simp [List.isPrefixOf, Ne.symm h]
  rw [Lib.index, hp]; simp
theorem splitK_cons (b : UInt8) (hb : b ≠ 47) : ∀ (n : Nat) (r : List UInt8), Lib.splitK [47] 0 n (b :: r) = consH b (Lib.splitK [47] 0 n r) := by
  intro n r
  cases n with
  | zero => rfl
  | succ n =>
    have hix := index_cons_ne b 47 r hb
    by_cases hm : Lib.index r [47] = -1
    · rw [if_pos (beq_iff_eq.2 hm)] at hix
      rw [Lib.splitK, if_pos (beq_iff_eq.2 hix), Lib.splitK, if_pos (beq_iff_eq.2 hm)]
      rfl
    · have hge := Lib.index_ge r [47]
      obtain ⟨j, hj⟩ : ∃ j : Nat, Lib.index r [47] = j := ⟨(Lib.index r [47]).toNat, by omega⟩
      rw [if_neg (fun e => hm (beq_iff_eq.1 e)), hj] at hix
      rw [Lib.splitK, if_neg (fun e => by have := beq_iff_eq.1 e; omega), Lib.splitK, if_neg (fun e => hm (beq_iff_eq.1 e)), hix, hj]
      rw [show ((j : Int) + 1).toNat = j + 1 by omega, show ((j : Int)).toNat = j by omega]
      simp [consH]
theorem splitK_parts : ∀ l : List UInt8, Lib.splitK [47] 0 (Lib.count l [47]) l = partsL l
  | [] => by rw [Lib.count_miss (by simp [Lib.index])]; rfl
  | b :: r => by
    by_cases h : b = 47
    · subst h
      have hix : Lib.index (47 :: r) [47] = ((0 : Nat) : Int) := by rw [Lib.index]; simp [List.isPrefixOf]
      rw [Lib.count_cons_eq, Nat.add_comm, Lib.splitK, if_neg (by rw [hix]; decide), hix]
      simp [partsL, splitK_parts r]
    · rw [Lib.count_cons_ne b 47 r h, splitK_cons b h, splitK_parts r, partsL, if_neg h]
theorem partsL_length_le : ∀ l : List UInt8, (partsL l).length ≤ l.length + 1
  | [] => by simp [partsL]
  | b :: r => by
    have := partsL_length_le r
    unfold partsL
    split
    · simp; omega
    · cases hq : partsL r with
      | nil => simp [consH]
      | cons h t => rw [hq] at this; simp [consH] at this ⊢; omega
def partsB (s : ByteArray) : List ByteArray := (partsL s.data.toList).map (fun x => ⟨x.toArray⟩)
theorem map_data_inj {l l' : List ByteArray} (h : l.map (·.data.toList) = l'.map (·.data.toList)) : l = l' := by
  induction l generalizing l' with
  | nil => cases l' with
           | nil => rfl
           | cons _ _ => simp at h
  | cons x r ih =>
    cases l' with
    | nil => simp at h
    | cons y r' =>
      simp only [List.map_cons, List.cons.injEq] at h
      rw [ba_ext h.1, ih h.2]
theorem partsB_data (s : ByteArray) : (partsB s).map (·.data.toList) = partsL s.data.toList := by
  simp [partsB, Function.comp_def]
theorem split_parts (s : ByteArray) : Lib.splitB ⟨#[47]⟩ 0 (Lib.countB s ⟨#[47]⟩) s = partsB s := by
  apply map_data_inj
  rw [Lib.splitB_data, partsB_data]
  exact splitK_parts s.data.toList
theorem bt_get (s : ByteArray) (i : Nat) (h : i < s.size) : bt s i = ((s.data.toList[i]'(by rw [← Lib.size_eq]; exact h)).toNat : Int) := by
  unfold bt
  simp only [Int.toNat_natCast]
  rw [dif_pos h]
  rfl
theorem split_eq (s : ByteArray) (hs : s.size ≤ 4294967280) : strings_Split.f s ⟨#[47]⟩ = some (partsB s) := by
  unfold strings_Split.f
  rw [if_pos ⟨rfl, by omega⟩, split_parts]
def partOK (s : ByteArray) : Bool := decide (1 ≤ s.size) && decide (s.size ≤ 64) && (s.toList != [46]) && (s.toList != [46, 46]) && (s.toList != [46, 103, 114, 97, 102, 116]) && s.data.toList.all (fun b => decide (32 ≤ b.toNat))
theorem all_drop (p : UInt8 → Bool) (l : List UInt8) (i : Nat) (h : i < l.length) : (l.drop i).all p = (p l[i] && (l.drop (i + 1)).all p) := by
  rw [List.drop_eq_getElem_cons h, List.all_cons]
theorem path_part_l0 (s : ByteArray) (hs : s.size ≤ 140737488351232) : ∀ (d k i : Nat), i + d = s.size → d < k → path_part.l0 k s s.size i = some ((s.data.toList.drop i).all (fun b => decide (32 ≤ b.toNat))) := by
  intro d
  induction d with
  | zero =>
    intro k i hi hk
    obtain ⟨k, rfl⟩ : ∃ m, k = m + 1 := ⟨k - 1, by omega⟩
    have hsz := Lib.size_eq s
    simp only [path_part.l0]
    rw [if_neg (by omega), List.drop_of_length_le (by omega)]
    rfl
  | succ d ih =>
    intro k i hi hk
    obtain ⟨k, rfl⟩ : ∃ m, k = m + 1 := ⟨k - 1, by omega⟩
    have hsz := Lib.size_eq s
    have := ih k (i + 1) (by omega) (by omega)
    simp only [path_part.l0]
    rw [if_pos (by omega), if_pos (by omega), if_pos (by omega), wrap_id (by omega) (by omega), all_drop _ _ i (by omega), bt_get s i (by omega)]
    by_cases h : (s.data.toList[i]'(by omega)).toNat < 32
    · rw [if_pos (by omega), decide_eq_false (show ¬ 32 ≤ (s.data.toList[i]'(by omega)).toNat by omega)]
      rfl
    · rw [if_neg (by omega), decide_eq_true (show 32 ≤ (s.data.toList[i]'(by omega)).toNat by omega), Bool.true_and]
      exact_mod_cast this
theorem path_part_eq (s : ByteArray) (hs : s.size ≤ 140737488351232) (k : Nat) (hk : s.size + 1 < k) : path_part.f k s = some (partOK s) := by
  obtain ⟨k, rfl⟩ : ∃ m, k = m + 1 := ⟨k - 1, by omega⟩
  have hl := path_part_l0 s hs s.size k 0 (by omega) (by omega)
  unfold path_part.f partOK
  by_cases h1 : s.size < 1
  · rw [if_pos (by omega), path_part.j0, if_pos rfl]; simp [show ¬ (1 ≤ s.size) by omega]
  rw [if_neg (by omega)]
  by_cases h2 : s.size > 64
  · rw [if_pos (by omega), path_part.j0, if_pos rfl]; simp [show ¬ (s.size ≤ 64) by omega]
  rw [if_neg (by omega)]
  by_cases h3 : s.toList = [46]
  · rw [if_pos h3, path_part.j0, if_pos rfl]; simp [h3]
  rw [if_neg h3]
  by_cases h4 : s.toList = [46, 46]
  · rw [if_pos h4, path_part.j0, if_pos rfl]; simp [h4]
  rw [if_neg h4, path_part.j0]
  by_cases h5 : s.toList = [46, 103, 114, 97, 102, 116]
  · rw [if_pos (by simp [h5])]; simp [h5]
  · rw [if_neg (by simp [h5]), show (0 : Int) = ((0 : Nat) : Int) from rfl, hl]
    simp [h3, h4, h5, show 1 ≤ s.size by omega, show s.size ≤ 64 by omega]
theorem all_ext (p : ByteArray → Bool) (l : List ByteArray) (i : Nat) (h : i < l.length) : (l.drop i).all p = (p l[i] && (l.drop (i + 1)).all p) := by
  rw [List.drop_eq_getElem_cons h, List.all_cons]
theorem path_Is_l0 (l : List ByteArray) (B : Nat) (hB : B ≤ 140737488351232) (hl : ∀ x ∈ l, x.size ≤ B) (hn : l.length ≤ 140737488351232) : ∀ (d k i : Nat), i + d = l.length → d + B + 2 ≤ k →
    path_Is.l0 k l l l.length i = some ((l.drop i).all partOK && decide (l.length ≤ 16)) := by
  intro d
  induction d with
  | zero =>
    intro k i hi hk
    obtain ⟨k, rfl⟩ : ∃ m, k = m + 1 := ⟨k - 1, by omega⟩
    simp only [path_Is.l0]
    rw [if_neg (by omega), List.drop_of_length_le (by omega), List.all_nil, Bool.true_and, decide_eq_decide.2 (show ((l.length : Int) ≤ 16) ↔ l.length ≤ 16 by omega)]
  | succ d ih =>
    intro k i hi hk
    obtain ⟨k, rfl⟩ : ∃ m, k = m + 1 := ⟨k - 1, by omega⟩
    have hi' : i < l.length := by omega
    have := ih k (i + 1) (by omega) (by omega)
    have hsz := hl _ (List.getElem_mem hi')
    simp only [path_Is.l0]
    rw [if_pos (by omega), if_pos (by omega), if_pos (by omega), rd_ext l i hi', path_part_eq _ (by omega) k (by omega), wrap_id (by omega) (by omega), all_ext _ _ i hi']
    simp only [Option.bind_some]
    by_cases h : partOK l[i] = true
    · rw [if_pos h, h]
      simpa using this
    · rw [if_neg h]
      simp [h]
theorem partsB_size (s : ByteArray) : ∀ x ∈ partsB s, x.size ≤ s.size := by
  have key : ∀ (l : List UInt8), ∀ p ∈ partsL l, p.length ≤ l.length := by
    intro l
    induction l with
    | nil => intro p hp; simp [partsL] at hp; simp [hp]
    | cons b r ih =>
      intro p hp
      unfold partsL at hp
      split at hp
      · rcases List.mem_cons.1 hp with rfl | hp
        · simp
        · have := ih p hp; simp; omega
      · cases hq : partsL r with
        | nil => exact absurd hq (partsL_ne r)
        | cons h t =>
          rw [hq] at hp ih
          rcases List.mem_cons.1 hp with rfl | hp
          · have := ih h List.mem_cons_self; simp; omega
          · have := ih p (List.mem_cons_of_mem _ hp); simp; omega
  intro x hx
  obtain ⟨p, hp, rfl⟩ := List.mem_map.1 hx
  have := key _ p hp
  rw [Lib.size_eq s]
  show p.toArray.size ≤ _
  rw [List.size_toArray]
  exact this
theorem partsB_length_le (s : ByteArray) : (partsB s).length ≤ s.size + 1 := by
  have := partsL_length_le s.data.toList
  rw [Lib.size_eq s]
  simpa [partsB] using this
def isPath (s : ByteArray) : Bool := (s.toList != []) && decide (s.size ≤ 255) && ((partsB s).all partOK && decide ((partsB s).length ≤ 16))
theorem path_Is_ev (s : ByteArray) : Ev (fun k => path_Is.f k s) (isPath s) := by
  refine Ev.of (fun k => path_Is.mono s k) (k := 1000) ?_
  show path_Is.f (999 + 1) s = _
  unfold path_Is.f isPath
  by_cases h : s.toList = []
  · rw [if_pos h, path_Is.j0, if_pos rfl]; simp [h]
  · rw [if_neg h, path_Is.j0]
    by_cases h2 : s.size ≤ 255
    · rw [if_neg (by simp; omega), split_eq s (by omega)]
      simp only [Option.bind_some]
      have hn := partsB_length_le s
      rw [show (0 : Int) = ((0 : Nat) : Int) from rfl, path_Is_l0 (partsB s) 255 (by omega) (fun x hx => Nat.le_trans (partsB_size s x hx) h2) (by omega) (partsB s).length 999 0 (by omega) (by omega)]
      simp [h, h2]
    · rw [if_pos (by simp; omega)]
      simp [h2]
end Go.Proofs.YtbhfbbfjdklfgaaGreatDoor.Q
namespace Go.Proofs.YtbhfbbfjdklfgaaGreatDoor.Q
open Go.Proofs.Tryz Go.RowKit Go.Proofs.YtbhfbbfjdklfgaaGreatDoorW.PrintWords Go.Proofs.YtbhfbbfjdklfgaaGreatDoorW.PrintLast
def strings_IndexByte.f (a0 : ByteArray) (a1 : Int) : Option Int := some (Lib.indexByte a0.data.toList a1.toNat.toUInt8)
theorem strings_IndexByte.calls (a0 : ByteArray) (a1 : Int) (r : Int) (w : World) (h : strings_IndexByte.f a0 a1 = some r) :
    Calls Tryz.prog 167 #[.string a0, .int .u8 a1] w fun e w' => e = .returned (.int .i64 r) ∧ Drawn0 w w' := by
  unfold strings_IndexByte.f at h
  obtain rfl := Option.some.inj h
  refine (Tryz.strings_IndexByte a0 a1 w).mono ?_
  rintro e w' ⟨rfl, rfl⟩
  exact ⟨rfl, Drawn0.refl _⟩
def strconv_Atoi.f (a0 : ByteArray) : Option (Int × Option Int) := if a0.size ≤ 18 then (Lib.atoi a0.data.toList).bind fun n => some (n, none) else none
theorem strconv_Atoi.calls (a0 : ByteArray) (r1 : Int) (r2 : Option Int) (w : World) (h : strconv_Atoi.f a0 = some (r1, r2)) :
    Calls Tryz.prog 145 #[.string a0] w fun e w' => e = .returned (.tuple #[.int .i64 r1, errW r2]) ∧ Below w.heap.size w w' := by
  unfold strconv_Atoi.f at h
  split at h
  · rename_i hl
    obtain ⟨n, hn, h2⟩ := Option.bind_eq_some_iff.1 h
    obtain ⟨rfl, rfl⟩ := Prod.mk.inj (Option.some.inj h2)
    refine (Tryz.strconv_Atoi a0 n hl hn w).mono ?_
    rintro e w' ⟨rfl, t, rfl⟩
    exact ⟨rfl, Lib.bytesWorld_below _ _ _⟩
  · cases h
end Go.Proofs.YtbhfbbfjdklfgaaGreatDoor.Q
namespace Go.Proofs.YtbhfbbfjdklfgaaGreatDoor.Q
open Go.Proofs.Tryz Go.RowKit Go.Proofs.YtbhfbbfjdklfgaaGreatDoorW.PrintWords Go.Proofs.YtbhfbbfjdklfgaaGreatDoorW.PrintLast Go.Proofs.YtbhfbbfjdklfgaaGreatDoorW.PrintMore
attribute [local go_sem] max2_int min2_int max_two min_two max_three min_three max_four min_four
def ident_value.f (a0 : Int) : Option (Int) := (strings_IndexByte.f ⟨#[48, 49, 50, 51, 52, 53, 54, 55, 56, 57, 97, 98, 99, 100, 101, 102]⟩ a0).bind fun t101 => (some t101)
theorem ident_value.calls (a0 : Int) (r : Int) (w : World) (h : ident_value.f a0 = some r) :
  Calls Tryz.prog 181 #[.int .u8 a0] w fun e w' => e = .returned (.int .i64 r) ∧ Drawn0 w w' := by
 unfold ident_value.f at h; have H := h; clear h; obtain ⟨t101, A2, H⟩ := bx_ H; obtain rfl := oi_ H; go_enter func181, ntmps181; go_wp2_with (first | ((with_reducible refine gate_callee (f := 167) rfl ?_); refine gl_ (some 4) func167 #[.string ⟨#[48, 49, 50, 51, 52, 53, 54, 55, 56, 57, 97, 98, 99, 100, 101, 102]⟩, .int .u8 a0] ?_; refine cm_ (strings_IndexByte.calls ⟨#[48, 49, 50, 51, 52, 53, 54, 55, 56, 57, 97, 98, 99, 100, 101, 102]⟩ a0 t101 _ A2.out) ?_; rintro w' ⟨nd, rfl⟩)); go_ret
 exact ⟨z1_, z2_⟩
def ident_all.l0 : Nat → ByteArray → Int → Int → Option (Bool)
 | 0, _, _, _ => none
 | k + 1, x0, x5, x6 => if x6 < x5 then (if 0 ≤ x6 then (if x6 < (x0.size : Int) then ((ident_value.f (bt x0 x6)).bind fun t102 => (if t102 < 0 then (some false) else (ident_all.l0 k x0 x5 (wrap64 (x6 + 1))))) else (none)) else (none)) else (some true)
def ident_all.f (k : Nat) (a0 : ByteArray) : Option (Bool) := ident_all.l0 k a0 (a0.size : Int) 0
theorem ident_all.mono_l : ∀ k, (∀ y0 y1 y2, LeO (ident_all.l0 k y0 y1 y2) (ident_all.l0 (k + 1) y0 y1 y2))
 | 0 => fun _ _ _ r h => by simp [ident_all.l0] at h
 | k + 1 => by
  have ih0 := ident_all.mono_l k
  ·intro y0 y1 y2
   unfold ident_all.l0
   have m0_ := @ih0
   exact mz_
theorem ident_all.mono : ∀ a0 k, LeO (ident_all.f k a0) (ident_all.f (k + 1) a0) := by
 intro a0 k; have ih0 := ident_all.mono_l k; unfold ident_all.f; have m0_ := @ih0; exact mz_
theorem ident_all.calls (k : Nat) (a0 : ByteArray) (r : Bool) (w : World) (h : ident_all.f k a0 = some r) :
  Calls Tryz.prog 137 #[.string a0] w fun e w' => e = .returned (.bool r) ∧ Drawn0 w w' := by
 unfold ident_all.f at h; have H := h; clear h; have H' := Aside0.mk H; clear H; go_enter func137, ntmps137; go_wp2
 go_loopg [6] k (fun kq v6 w' => ∃ (x6_1 : Int), v6 = .int .i64 x6_1 ∧ Aside0 (ident_all.l0 kq a0 (a0.size : Int) x6_1 = some r) ∧ Aside0 (kq ≤ k) ∧ Drawn0 w w')
 case atStart => exact ⟨(0), z1_, H', ⟨Nat.le_refl _⟩, z2_⟩
 case round =>
  clear H'; try clear c1
  obtain ⟨x6_1, rfl, HA, HK1, ⟨m1, rfl⟩⟩ := hrel
  cases gk with
  | zero => exact absurd HA.out (by simp [ident_all.l0])
  | succ k1 =>
   have H := HA.out; clear HA; simp only [ident_all.l0] at H; by_cases c2 : x6_1 < (a0.size : Int); rotate_left
   ·rw [if_neg c2] at H; have c2b0 := df_ c2; clear c2; obtain rfl := oi_ H; go_wp2
    go_ret
    exact ⟨z1_, z2_⟩
   rw [if_pos c2] at H; have c2b0 := dt_ c2; clear c2; by_cases c3 : 0 ≤ x6_1; rotate_left
   ·rw [if_neg c3] at H; exact no_ H
   rw [if_pos c3] at H; have c3b0 := dt_ c3; clear c3; by_cases c4 : x6_1 < (a0.size : Int); rotate_left
   ·rw [if_neg c4] at H; exact no_ H
   rw [if_pos c4] at H; have c4b0 := dt_ c4; clear c4; obtain ⟨t102, A6, H⟩ := bx_ H; by_cases c7 : t102 < 0
   ·rw [if_pos c7] at H; have c7b0 := dt_ c7; clear c7; obtain rfl := oi_ H; have p5 : 0 ≤ (x6_1 : Int) := y0_; have q5 : x6_1 < (a0.size : Int) := y0_; have hx5 := bt_at a0 x6_1; replace p5 := eq_true p5; replace q5 := eq_true q5; go_wp2_with (first | ((with_reducible refine gate_callee (f := 181) rfl ?_); refine gl_ (some 12) func181 #[.int .u8 (bt a0 x6_1)] ?_; refine cm_ (ident_value.calls (bt a0 x6_1) t102 _ A6.out) ?_; rintro w' ⟨nd, rfl⟩)); go_ret
    exact ⟨z1_, z2_⟩
   rw [if_neg c7] at H; have c7b0 := df_ c7; clear c7; have H' := Aside0.mk H; clear H; have p5 : 0 ≤ (x6_1 : Int) := y0_; have q5 : x6_1 < (a0.size : Int) := y0_; have hx5 := bt_at a0 x6_1; replace p5 := eq_true p5; replace q5 := eq_true q5; go_wp2_with (first | ((with_reducible refine gate_callee (f := 181) rfl ?_); refine gl_ (some 12) func181 #[.int .u8 (bt a0 x6_1)] ?_; refine cm_ (ident_value.calls (bt a0 x6_1) t102 _ A6.out) ?_; rintro w' ⟨nd, rfl⟩)); go_roundg k1
   case measure => have := HK1.out; omega
   case rel => exact ⟨(wrap64 (x6_1 + 1)), z1_, H', ⟨by have := HK1.out; omega⟩, z2_⟩
def ident_Is.f (k : Nat) (a0 : ByteArray) : Option (Bool) := if (a0.size : Int) = 40 then ((ident_all.f k a0).bind fun t103 => (some t103)) else (some false)
theorem ident_Is.mono : ∀ a0 k, LeO (ident_Is.f k a0) (ident_Is.f (k + 1) a0) := by
 intro a0 k; unfold ident_Is.f; have m0_ := @ident_all.mono; exact mz_
theorem ident_Is.calls (k : Nat) (a0 : ByteArray) (r : Bool) (w : World) (h : ident_Is.f k a0 = some r) :
  Calls Tryz.prog 65 #[.string a0] w fun e w' => e = .returned (.bool r) ∧ Drawn0 w w' := by
 unfold ident_Is.f at h; have H := h; clear h; by_cases c2 : (a0.size : Int) = 40; rotate_left
 ·rw [if_neg c2] at H; have c2b0 := ef_ c2; have c2b1 := nt_ c2; obtain rfl := oi_ H; go_enter func65, ntmps65; go_wp2
  go_ret
  exact ⟨z1_, z2_⟩
 rw [if_pos c2] at H; have c2b0 := et_ c2; have c2b1 := nf_ c2; clear c2; obtain ⟨t103, A3, H⟩ := bx_ H; obtain rfl := oi_ H; go_enter func65, ntmps65; go_wp2_with (first | (go_at_call 137; (with_reducible refine (ident_all.calls k a0 t103 _ A3.out).mono ?_); rintro e w' ⟨rfl, ⟨nd, rfl⟩⟩)); go_ret
 exact ⟨z1_, z2_⟩
end Go.Proofs.YtbhfbbfjdklfgaaGreatDoor.Q
namespace Go.Proofs.YtbhfbbfjdklfgaaGreatDoor.Q
open Go.Proofs.Tryz Go.RowKit Go.Lib Go.Proofs.YtbhfbbfjdklfgaaGreatDoorW.PrintWords Go.Proofs.YtbhfbbfjdklfgaaGreatDoorW.PrintLast Go.Proofs.YtbhfbbfjdklfgaaGreatDoorW.PrintMore
section
variable {P : Program}
end
theorem reps_append {α : Type} {R : α → List Value → Prop} {size : Nat} {ps qs : List α} {cs ds : List Value} (h : Reps R size ps cs) (k : Reps R size qs ds) : Reps R size (ps ++ qs) (cs ++ ds) := by
  refine ⟨by rw [List.length_append, List.length_append, h.1, k.1, Nat.add_mul], fun j p hj => ?_⟩
  rcases Nat.lt_or_ge j ps.length with hlt | hge
  · rw [List.getElem?_append_left hlt] at hj
    have hle : j * size + size ≤ cs.length := by rw [h.1, ← Nat.succ_mul]; exact Nat.mul_le_mul_right _ hlt
    rw [List.drop_append_of_le_length (by omega), List.take_append_of_le_length (by rw [List.length_drop]; omega)]
    exact h.2 j p hj
  · rw [List.getElem?_append_right hge] at hj
    have e : j * size = cs.length + (j - ps.length) * size := by rw [h.1, ← Nat.add_mul]; congr 1; omega
    rw [e, List.drop_append, List.drop_of_length_le (by omega : cs.length ≤ cs.length + (j - ps.length) * size), List.nil_append]
    rw [show cs.length + (j - ps.length) * size - cs.length = (j - ps.length) * size by omega]
    exact k.2 _ p hj
section
variable {P : Program} {ops : Array Oper} {rest : List Oper} {o : Oper} {a : Act} {Q : Exit → Act → World → Prop} {α : Type}
theorem R_makecap (d : Kd α) {w0 W : World} (base e : Nat) (hgd : o.guard = none) {N : Tmp} (_hd : o.dst = some N) (t : TypeId) (x y : Operand) (ho : o.op = .makeSlice t x y) (n : Int) (hx : a.eval x = .int .i64 0) (hy : a.eval y = .int .i64 n)
    (ht : P.underlying t = some (.slice e)) (z : Value) (bytes : Nat) (hinfo : (P.info? e).map (fun i => (i.zero, i.size, i.bytes)) = some (some z, d.sz, bytes)) (hz : z.cells.size = d.sz) (hb0 : 0 < bytes)
    {ok : Nat → Prop} (hfresh : ok W.heap.size) (h0 : 0 ≤ n) (hl : n.toNat * bytes ≤ 281474976710656) (HB : Below base w0 W) (hbase : base ≤ W.heap.size)
    (h : ∀ v1 w1, d.R e w1 base ok v1 [] → Below base w0 w1 → W.grownBy w1 none → (∃ b, v1.ownBlock = some b ∧ W.heap.size ≤ b) → wpList P ops Q rest (a.put o.dst v1) w1) : wpList P ops Q (o :: rest) a W := by
  obtain ⟨m, rfl⟩ := Int.eq_ofNat_of_zero_le h0
  simp only [Int.toNat_natCast] at hl
  obtain ⟨i0, hi, hzz⟩ := Option.map_eq_some_iff.1 hinfo
  simp only [Prod.mk.injEq] at hzz
  obtain ⟨hz0, hz1, hz2⟩ := hzz
  have hm : m ≤ 281474976710656 := Nat.le_trans (Nat.le_mul_of_pos_right _ hb0) hl
  have hr := run_make (P := P) W t e i0 z ht hi hz0 .i64 .i64 0 (m : Int) (by omega) (by omega)
    (by
      have h3 : ((i0.bytes * m : Nat) : Int) ≤ 281474976710656 := by rw [hz2, Nat.mul_comm]; omega
      rwa [Int.natCast_mul] at h3) (by omega)
  simp only [Int.toNat_natCast] at hr
  rw [hz1] at hr
  refine Kd.event_run hgd (v := .slice (some ⟨W.heap.size, 0, none⟩) 0 m) (w1 := W.alloc (.cells (madeCells z.cells (m * d.sz)) e)) (by simp [execOp, ho, hx, hy, hr]) (h _ _ ⟨fun k hk => ?_, [], ?_, ⟨by simp, fun j p hj => by simp at hj⟩⟩ (HB.alloc hbase _) (World.grownBy_alloc W _ none) ⟨W.heap.size, by simp [Value.ownBlock], Nat.le_refl _⟩)
  · have : W.heap.size = k := by simpa [Value.ownBlock] using hk
    subst this
    exact hfresh
  · exact World.ownsRow_made W (madeCells z.cells (m * d.sz)) m hbase (by unfold maxLen; omega) (by simp [madeCells])
end
section
variable {P : Program} {ops : Array Oper} {o : Oper} {a : Act} {Q : Exit → Act → World → Prop} {Kc : Act → World → Prop}
end
end Go.Proofs.YtbhfbbfjdklfgaaGreatDoor.Q
namespace Go.Proofs.YtbhfbbfjdklfgaaGreatDoor.Q
open Go.Proofs.Tryz Go.RowKit Go.Proofs.YtbhfbbfjdklfgaaGreatDoorW.PrintWords Go.Proofs.YtbhfbbfjdklfgaaGreatDoorW.PrintLast Go.Proofs.YtbhfbbfjdklfgaaGreatDoorW.PrintMore
attribute [local go_sem] max2_int min2_int max_two min_two max_three min_three max_four min_four
def ident_Hex.l0 : Nat → ByteArray → List Int → Int → Int → Option (ByteArray)
 | 0, _, _, _, _ => none
 | k + 1, x0, x3, x10, x11 => if x11 < x10 then (if 0 ≤ x11 then (if x11 < (x0.size : Int) then (if 0 ≤ ((bt x0 x11) / 16) then (if ((bt x0 x11) / 16) < 16 then (if 0 ≤ (Go.bits .and .u8 (bt x0 x11) 15) then (if (Go.bits .and .u8 (bt x0 x11) 15) < 16 then ((some (([bt ⟨#[48, 49, 50, 51, 52, 53, 54, 55, 56, 57, 97, 98, 99, 100, 101, 102]⟩ ((bt x0 x11) / 16), bt ⟨#[48, 49, 50, 51, 52, 53, 54, 55, 56, 57, 97, 98, 99, 100, 101, 102]⟩ (Go.bits .and .u8 (bt x0 x11) 15)] : List Int) : List Int)).bind fun y184 => (if x3.length + y184.length < 140737488355328 then (ident_Hex.l0 k x0 (x3 ++ y184) x10 (wrap64 (x11 + 1))) else (none))) else (none)) else (none)) else (none)) else (none)) else (none)) else (none)) else (some (strOfNums x3))
def ident_Hex.f (k : Nat) (a0 : ByteArray) : Option (ByteArray) := if 0 ≤ (wrap64 (2 * (a0.size : Int))) then (if (wrap64 (2 * (a0.size : Int)) : Int).toNat ≤ 281474976710656 then (ident_Hex.l0 k a0 (([] : List Int)) (a0.size : Int) 0) else (none)) else (none)
theorem ident_Hex.mono_l : ∀ k, (∀ y0 y1 y2 y3, LeO (ident_Hex.l0 k y0 y1 y2 y3) (ident_Hex.l0 (k + 1) y0 y1 y2 y3))
 | 0 => fun _ _ _ _ r h => by simp [ident_Hex.l0] at h
 | k + 1 => by
  have ih0 := ident_Hex.mono_l k
  ·intro y0 y1 y2 y3
   unfold ident_Hex.l0
   have m0_ := @ih0
   exact mz_
theorem ident_Hex.mono : ∀ a0 k, LeO (ident_Hex.f k a0) (ident_Hex.f (k + 1) a0) := by
 intro a0 k; have ih0 := ident_Hex.mono_l k; unfold ident_Hex.f; have m0_ := @ih0; exact mz_
def ident_Hex.T5 : Bool × List (List Nat × List Nat) := (true, [([], []), ([], []), ([], []), ([1, 2], [1, 2]), ([3], [3]), ([4], [4]), ([], []), ([], []), ([6, 7], [6, 7]), ([8], [8]), ([9], [9]), ([5, 10], [5, 10]), ([0, 11], [0, 11]), ([12, 12, 0, 1, 2, 3, 4, 5, 6, 7, 8, 9, 10, 11, 12], [0, 12])])
def ident_Hex.B5 : List Nat := [0, 0, 0, 6, 14, 30, 0, 0, 192, 448, 960, 2046, 4095, 8191]
theorem ident_Hex.tab5 : rtab .any (opsOf Tryz.f149 5) = ident_Hex.T5 := by kernel_rfl
theorem ident_Hex.bits5 : waitsOk ident_Hex.T5.2 ident_Hex.B5 = true := by kernel_rfl
theorem ident_Hex.calls (k : Nat) (a0 : ByteArray) (r : ByteArray) (w : World) (h : ident_Hex.f k a0 = some r) :
  Calls Tryz.prog 149 #[.string a0] w fun e w' => e = .returned (.string r) ∧ Below w.heap.size w w' := by
 have HB := Aside0.mk (Below.refl w.heap.size w); unfold ident_Hex.f at h; have H := h; clear h; obtain ⟨ji2, hji2⟩ : ∃ j_ : Int, (wrap64 (2 * (a0.size : Int))) = j_ := ⟨_, rfl⟩; replace H : (if 0 ≤ (ji2) then (if (ji2 : Int).toNat ≤ 281474976710656 then (ident_Hex.l0 k a0 (([] : List Int)) (a0.size : Int) 0) else (none)) else (none)) = some r := by first | (rw [hji2] at H; exact H) | (simp only [hji2] at H ⊢; exact H)
 have hji2w : (IntKind.i64.wrap (2 * (a0.size : Int))) = ji2 := (i64_w _).trans hji2; by_cases c3 : 0 ≤ (ji2); rotate_left
 ·rw [if_neg c3] at H; exact no_ H
 rw [if_pos c3] at H; have c3b0 := eq_true c3; have c3b1 := dt_ c3; clear c3; by_cases c4 : (ji2 : Int).toNat ≤ 281474976710656; rotate_left
 ·rw [if_neg c4] at H; exact no_ H
 rw [if_pos c4] at H; have c4b0 := eq_true c4; have c4b1 := dt_ c4; clear c4; obtain ⟨y181, hy181⟩ : ∃ y_ : List Int, y_ = (([] : List Int)) := ⟨_, rfl⟩; replace H : (ident_Hex.l0 k a0 y181 (a0.size : Int) 0) = some r := by first | (rw [hy181]; with_reducible exact H) | (have H2_ := (Option.bind_some _ _).symm.trans H; rw [hy181]; with_reducible exact H2_) | (have H2_ := (Option.bind_some _ _).symm.trans H; with_reducible exact H2_) | with_reducible exact H | (rw [hy181]; exact H) | exact H
 have Ny181 := Aside0.mk hy181; clear hy181; have H' := Aside0.mk H; clear H; go_enter func149, ntmps149; go_wp2_with (first | ((with_reducible refine gate_dst (N := 8) rfl ?_); refine R_makecap (Kd.int .u8) _ 5 rfl (N := 8) rfl 103 _ _ rfl ji2 rfl rfl underlying103 (.int .u8 0) 1 info5 rfl (by decide) (ok := fun _ => True) trivial (y0_) (Nat.le_trans (Nat.mul_le_mul_right _ (y0_ : ji2.toNat ≤ 281474976710656)) (by omega)) (Below.refl _ _) (Nat.le_refl _) ?_; intro v182 w5 ho6 hb hg_ hnew_; clear hg_ hnew_; (first | rw [← Ny181.out] at ho6 | (simp only [Int.reduceToNat] at ho6; rw [← Ny181.out] at ho6)); have HO183 := Aside0.mk (Kd.R_lower ho6 (below_size (hb_ HB.out))); replace HB := ah_ HB hb; clear hb ho6)); go_loopg [3, 11] k (fun kq v3 v11 w' => ∃ (x3_1 : List Int) (x11_1 : Int), v11 = .int .i64 x11_1 ∧ Aside0 (ident_Hex.l0 kq a0 x3_1 (a0.size : Int) x11_1 = some r) ∧ Aside0 (kq ≤ k) ∧ Aside0 (Kd.R (Kd.int .u8) 5 w' w.heap.size (fun _ => True) v3 x3_1) ∧ Aside0 (Below w.heap.size w w'))
 case atStart => exact ⟨(y181), (0), z1_, H', ⟨Nat.le_refl _⟩, ⟨by (with_reducible repeat (first | apply Kd.R_alloc | apply Kd.R_drewN | apply Kd.R_drew)); exact HO183.out⟩, ⟨hb_ HB.out⟩⟩
 case round =>
  clear H'; try clear c1
  try clear p2
  try clear c3
  try clear c3b0
  try clear c3b1
  try clear c4
  try clear c4b0
  try clear c4b1
  try clear p6
  obtain ⟨x3_1, x11_1, rfl, HA, HK1, HO_3, HB⟩ := hrel
  cases gk with
  | zero => exact absurd HA.out (by simp [ident_Hex.l0])
  | succ k1 =>
   have H := HA.out; clear HA; simp only [ident_Hex.l0] at H; by_cases c7 : x11_1 < (a0.size : Int); rotate_left
   ·rw [if_neg c7] at H; have c7b0 := df_ c7; clear c7; obtain rfl := oi_ H; have hcv25 := own_string (P := Tryz.prog) underlying103 underlying5 underlying9 (Kd.own_of_R HO_3.out); go_wp2
    go_ret
    exact ⟨by first | rfl | (simp [errW_none, errW_some] <;> rfl) | (simp only [← hji2]; first | rfl | (simp [errW_none, errW_some] <;> rfl)) | (simp [*, errW_none, errW_some] <;> rfl) | (simp [ne_nil_bool]; done) | (simp [*, ne_nil_bool]; done), hb_ HB.out⟩
   rw [if_pos c7] at H; have c7b0 := dt_ c7; clear c7; by_cases c8 : 0 ≤ x11_1; rotate_left
   ·rw [if_neg c8] at H; exact no_ H
   rw [if_pos c8] at H; have c8b0 := dt_ c8; clear c8; by_cases c9 : x11_1 < (a0.size : Int); rotate_left
   ·rw [if_neg c9] at H; exact no_ H
   rw [if_pos c9] at H; have c9b0 := dt_ c9; clear c9; obtain ⟨ji11, hji11⟩ : ∃ j_ : Int, ((bt a0 x11_1) / 16) = j_ := ⟨_, rfl⟩; replace H : (if 0 ≤ (ji11) then (if (ji11) < 16 then (if 0 ≤ (Go.bits .and .u8 (bt a0 x11_1) 15) then (if (Go.bits .and .u8 (bt a0 x11_1) 15) < 16 then ((some (([bt ⟨#[48, 49, 50, 51, 52, 53, 54, 55, 56, 57, 97, 98, 99, 100, 101, 102]⟩ (ji11), bt ⟨#[48, 49, 50, 51, 52, 53, 54, 55, 56, 57, 97, 98, 99, 100, 101, 102]⟩ (Go.bits .and .u8 (bt a0 x11_1) 15)] : List Int) : List Int)).bind fun y184 => (if x3_1.length + y184.length < 140737488355328 then (ident_Hex.l0 k1 a0 (x3_1 ++ y184) (a0.size : Int) (wrap64 (x11_1 + 1))) else (none))) else (none)) else (none)) else (none)) else (none)) = some r := by first | (rw [hji11] at H; exact H) | (simp only [hji11] at H ⊢; exact H)
   by_cases c12 : 0 ≤ (ji11); rotate_left
   ·rw [if_neg c12] at H; exact no_ H
   rw [if_pos c12] at H; have c12b0 := dt_ c12; clear c12; by_cases c13 : (ji11) < 16; rotate_left
   ·rw [if_neg c13] at H; exact no_ H
   rw [if_pos c13] at H; have c13b0 := dt_ c13; clear c13; by_cases c16 : 0 ≤ (Go.bits .and .u8 (bt a0 x11_1) 15); rotate_left
   ·rw [if_neg c16] at H; exact no_ H
   rw [if_pos c16] at H; have c16b0 := dt_ c16; clear c16; by_cases c17 : (Go.bits .and .u8 (bt a0 x11_1) 15) < 16; rotate_left
   ·rw [if_neg c17] at H; exact no_ H
   rw [if_pos c17] at H; have c17b0 := dt_ c17; clear c17; obtain ⟨y184, hy184⟩ : ∃ y_ : List Int, y_ = (([bt ⟨#[48, 49, 50, 51, 52, 53, 54, 55, 56, 57, 97, 98, 99, 100, 101, 102]⟩ (ji11), bt ⟨#[48, 49, 50, 51, 52, 53, 54, 55, 56, 57, 97, 98, 99, 100, 101, 102]⟩ (Go.bits .and .u8 (bt a0 x11_1) 15)] : List Int)) := ⟨_, rfl⟩; replace H : (if x3_1.length + y184.length < 140737488355328 then (ident_Hex.l0 k1 a0 (x3_1 ++ y184) (a0.size : Int) (wrap64 (x11_1 + 1))) else (none)) = some r := by first | (rw [hy184]; with_reducible exact H) | (have H2_ := (Option.bind_some _ _).symm.trans H; rw [hy184]; with_reducible exact H2_) | (have H2_ := (Option.bind_some _ _).symm.trans H; with_reducible exact H2_) | with_reducible exact H | (rw [hy184]; exact H) | exact H
   have Ny184 := Aside0.mk hy184; clear hy184; by_cases c19 : x3_1.length + y184.length < 140737488355328; rotate_left
   ·rw [if_neg c19] at H; exact no_ H
   rw [if_pos c19] at H; have LMc19 := Aside0.mk c19; clear c19; obtain ⟨y187, hy187⟩ : ∃ y_ : List Int, y_ = (x3_1 ++ y184) := ⟨_, rfl⟩; replace H : (ident_Hex.l0 k1 a0 y187 (a0.size : Int) (wrap64 (x11_1 + 1))) = some r := by first | (rw [hy187]; with_reducible exact H) | (have H2_ := (Option.bind_some _ _).symm.trans H; rw [hy187]; with_reducible exact H2_) | (have H2_ := (Option.bind_some _ _).symm.trans H; with_reducible exact H2_) | with_reducible exact H | (rw [hy187]; exact H) | exact H
   have Ny187 := Aside0.mk hy187; clear hy187; have H' := Aside0.mk H; clear H; try go_wp2
   replace HO_3 := Aside0.mk (Kd.R_drew HO_3.out); replace HB := hd_ HB; have p10 : 0 ≤ (x11_1 : Int) := y0_; have q10 : x11_1 < (a0.size : Int) := y0_; have hx10 := bt_at a0 x11_1; replace p10 := eq_true p10; replace q10 := eq_true q10; have p14 : 0 ≤ ((ji11) : Int) := y0_; have q14 : (ji11) < (16 : Int) := y0_; have hx14 := bt_at ⟨#[48, 49, 50, 51, 52, 53, 54, 55, 56, 57, 97, 98, 99, 100, 101, 102]⟩ (ji11); replace p14 := eq_true p14; replace q14 := eq_true q14; have p15 : 0 ≤ (x11_1 : Int) := y0_; have q15 : x11_1 < (a0.size : Int) := y0_; have hx15 := bt_at a0 x11_1; replace p15 := eq_true p15; replace q15 := eq_true q15; have p18 : 0 ≤ ((Go.bits .and .u8 (bt a0 x11_1) 15) : Int) := y0_; have q18 : (Go.bits .and .u8 (bt a0 x11_1) 15) < (16 : Int) := y0_; have hx18 := bt_at ⟨#[48, 49, 50, 51, 52, 53, 54, 55, 56, 57, 97, 98, 99, 100, 101, 102]⟩ (Go.bits .and .u8 (bt a0 x11_1) 15); replace p18 := eq_true p18; replace q18 := eq_true q18; refine start_ (n := 14) (S := fun w' => True) (ds := []) (bs 14 0) (by kernel_rfl) rfl rfl trivial (fun hHeld => ?_); refine with_tabW ident_Hex.tab5 ident_Hex.bits5 (fun HT_ HW_ => ?_); generalize wr.drew = w20 at HO_3 HB hHeld ⊢; refine pun_ 0 14 14 1 ?_; refine pun_ 1 15 14 3 ?_; refine pun_ 2 16 14 7 ?_; refine pun_ 6 20 14 71 ?_; refine pun_ 7 21 14 199 ?_; refine tkW0n_ 3 17 14 207 hHeld ?_; refine pun_ 4 18 14 223 ?_; refine tkW0n_ 5 19 14 255 hHeld ?_; refine tkW0n_ 8 22 14 511 hHeld ?_; refine pun_ 9 23 14 1023 ?_; refine tkW0n_ 10 24 14 2047 hHeld ?_; refine on_ 11 25 14 4095 (fun K hK => ?_); refine Kd.R_lit_step (Kd.int .u8) _ 5 ?hg (N := 25) ?hd (xs := ([bt ⟨#[48, 49, 50, 51, 52, 53, 54, 55, 56, 57, 97, 98, 99, 100, 101, 102]⟩ (ji11), bt ⟨#[48, 49, 50, 51, 52, 53, 54, 55, 56, 57, 97, 98, 99, 100, 101, 102]⟩ (Go.bits .and .u8 (bt a0 x11_1) 15)] : List Int)) (inner := [.int .u8 (bt ⟨#[48, 49, 50, 51, 52, 53, 54, 55, 56, 57, 97, 98, 99, 100, 101, 102]⟩ (ji11)), .int .u8 (bt ⟨#[48, 49, 50, 51, 52, 53, 54, 55, 56, 57, 97, 98, 99, 100, 101, 102]⟩ (Go.bits .and .u8 (bt a0 x11_1) 15))]) (ok := fun _ => True) (okp := fun _ => True) ?hr ?hp (fun _ hk => hk) trivial (Below.refl _ _) (Nat.le_refl _) (by simp) ?_; (case hd => rfl); (case hg => rfl); (case hr => first | (go_simp; done) | (go_simp; rfl)); (case hp => exact (Reps.one (show Kd.M (Kd.int .u8) _ _ _ (bt ⟨#[48, 49, 50, 51, 52, 53, 54, 55, 56, 57, 97, 98, 99, 100, 101, 102]⟩ (ji11)) [.int .u8 (bt ⟨#[48, 49, 50, 51, 52, 53, 54, 55, 56, 57, 97, 98, 99, 100, 101, 102]⟩ (ji11))] from rfl) (Reps.one (show Kd.M (Kd.int .u8) _ _ _ (bt ⟨#[48, 49, 50, 51, 52, 53, 54, 55, 56, 57, 97, 98, 99, 100, 101, 102]⟩ (Go.bits .and .u8 (bt a0 x11_1) 15)) [.int .u8 (bt ⟨#[48, 49, 50, 51, 52, 53, 54, 55, 56, 57, 97, 98, 99, 100, 101, 102]⟩ (Go.bits .and .u8 (bt a0 x11_1) 15))] from rfl) (Reps.none _ _))))
   intro v185 w21 ho22 hb hg_ hnew_; clear hg_ hnew_; (first | rw [← Ny184.out] at ho22 | (simp only [Int.reduceToNat] at ho22; rw [← Ny184.out] at ho22)); have HO186 := Aside0.mk (Kd.R_lower (Kd.R_new' ho22 (Kd.R_lt (rk_ HO_3.out))) (below_size (hb_ HB.out))); replace HO_3 := Aside0.mk (Kd.R_elder' (rk_ HO_3.out) (Kd.R_base ho22) hb); replace HB := ah_ HB hb; clear hb ho22; obtain ⟨Ao24, co24, eo24⟩ := Kd.R_slice HO186.out; (first | subst eo24 | (injection eo24 with f1_ f2_ f3_; have f4_ := f1_.symm; have f5_ := f3_.symm; clear f1_ f2_ f3_; subst f4_; subst f5_)); refine hK.out _ _ trivial (fun hHeld => ?_); clear hK K; refine norm_ (a' := ?_) ?_ ?_; rotate_left
   ·show Act.put _ (some 25) _ = _
    simp only [Act.put, List.setIfInBounds_toArray, List.set_cons_zero, List.set_cons_succ, i64_w, i32_w]; rfl
   refine on_ 12 26 14 8191 (fun K hK => ?_); refine Kd.R_append_rows_step (Kd.int .u8) (w0 := w) w.heap.size (by rfl) (.tmp 14) (.tmp 25) 103 5 (.int .u8 0) 1 rfl underlying103 info5 rfl (by decide) (by omega) u3 x3_1 y184 _ _ _ (fun k_ => some k_ ≠ (.slice Ao24 y184.length co24 : Value).ownBlock) (fun _ => False) rfl rfl ?aO ?aR (fun _ _ h => h) (fun _ h => h.elim) ?aF ?aB ?aS ?aL ?_; (case aR => repeat (first | exact (Kd.R_reads' HO186.out).2.2 | (with_reducible refine Kd.C_alloc ?_ _) | (with_reducible refine Kd.C_drewN ?_ _) | (with_reducible refine Kd.C_drew ?_)))
   (case aB => exact (hb_ HB.out))
   (case aF => exact (fun k_ hk => Kd.fresh' (Kd.R_lt (rk_ HO186.out)) k_ hk))
   (case aO => exact (by (with_reducible repeat (first | apply Kd.R_alloc | apply Kd.R_drewN | apply Kd.R_drew)); exact Kd.R_mono HO_3.out (fun _ hk => hk.2)))
   (case aS => exact (below_size (hb_ HB.out)))
   (case aL => have := LMc19.out; omega)
   intro v188 w23 ho hb hg hat; rw [← Ny187.out] at ho; have n0_ := Aside0.mk (Kd.R_after (ok := (fun _ => True)) (rk_ HO186.out) hg hat); have n1_ := Aside0.mk (hb); have n2_ := Aside0.mk (ho); clear HO186; clear HB; clear HO_3; have HO186 := n0_; have HB := n1_; have HO189 := n2_; clear n0_ n1_ n2_; clear ho hb hg hat; refine hK.out _ _ trivial (fun hHeld => ?_); clear hK K; refine norm_ (a' := ?_) ?_ ?_; rotate_left
   ·show Act.put _ (some 26) _ = _
    simp only [Act.put, List.setIfInBounds_toArray, List.set_cons_zero, List.set_cons_succ, i64_w, i32_w]; rfl
   refine pun_ 13 3 14 16383 ?_; refine dn_ ?_; try go_wp2
   go_roundg k1
   case measure => have := HK1.out; omega
   case rel => exact ⟨(y187), (wrap64 (x11_1 + 1)), z1_, H', ⟨by have := HK1.out; omega⟩, ⟨by (with_reducible repeat (first | apply Kd.R_alloc | apply Kd.R_drewN | apply Kd.R_drew)); exact Kd.R_mono HO189.out (fun _ hk => trivial)⟩, ⟨hb_ HB.out⟩⟩
def graftageref02_Hex.T6 : Bool × List (List Nat × List Nat) := (true, [([], []), ([], []), ([], []), ([], []), ([2, 3], [2, 3]), ([4], [4]), ([1, 5], [1, 5]), ([], []), ([], []), ([], []), ([8, 9], [8, 9]), ([10], [10]), ([7, 11], [7, 11]), ([6, 12], [6, 12]), ([0, 13], [0, 13]), ([14, 14, 0, 1, 2, 3, 4, 5, 6, 7, 8, 9, 10, 11, 12, 13, 14], [0, 14])])
def graftageref02_Hex.B6 : List Nat := [0, 0, 0, 0, 12, 28, 62, 0, 0, 0, 768, 1792, 3968, 8190, 16383, 32767]
theorem graftageref02_Hex.tab6 : rtab .any (opsOf Tryz.f197 6) = graftageref02_Hex.T6 := by kernel_rfl
theorem graftageref02_Hex.bits6 : waitsOk graftageref02_Hex.T6.2 graftageref02_Hex.B6 = true := by kernel_rfl
def hexD : List UInt8 := [48, 49, 50, 51, 52, 53, 54, 55, 56, 57, 97, 98, 99, 100, 101, 102]
def dv (b : Int) : Int := Lib.indexByte hexD b.toNat.toUInt8
theorem bt_fin (s : ByteArray) (i : Int) : ∃ n : Fin 256, bt s i = (n.val : Int) := by
 obtain ⟨h0, h1⟩ := bt_range s i
 exact ⟨⟨(bt s i).toNat, by omega⟩, by simp; omega⟩
theorem value_eq (b : Int) : ident_value.f b = some (dv b) := rfl
def hexF (s : ByteArray) : Nat → Nat → Bool
 | 0, _ => true
 | d + 1, i => decide (0 ≤ dv (bt s i)) && hexF s d (i + 1)
theorem all_l0 (s : ByteArray) (hs : s.size ≤ 140737488351232) : ∀ (d k i : Nat), i + d = s.size → d < k → ident_all.l0 k s s.size i = some (hexF s d i) := by
 intro d
 induction d with
 | zero =>
  intro k i hi hk
  obtain ⟨k, rfl⟩ : ∃ m, k = m + 1 := ⟨k - 1, by omega⟩
  simp only [ident_all.l0]
  rw [if_neg (by omega)]; rfl
 | succ d ih =>
  intro k i hi hk
  obtain ⟨k, rfl⟩ : ∃ m, k = m + 1 := ⟨k - 1, by omega⟩
  have := ih k (i + 1) (by omega) (by omega)
  simp only [ident_all.l0]
  rw [if_pos (by omega), if_pos (by omega), if_pos (by omega), value_eq, wrap_id (by omega) (by omega)]
  simp only [Option.bind_some]
  rw [hexF]
  by_cases h : dv (bt s i) < 0
  ·rw [if_pos h, decide_eq_false (by omega)]; rfl
  ·rw [if_neg h, decide_eq_true (by omega), Bool.true_and]; exact_mod_cast this
def idOk (s : ByteArray) : Bool := decide (s.size = 40) && hexF s s.size 0
theorem ident_Is_ev (s : ByteArray) : Ev (fun k => ident_Is.f k s) (idOk s) := by
 unfold idOk
 by_cases h : s.size = 40
 ·refine Ev.congr (f := fun k => (ident_all.f k s).bind fun t => some t) (fun k => by unfold ident_Is.f; rw [if_pos (by omega)]) ?_
  refine Ev.bind (Ev.of (fun k => ident_all.mono s k) (k := 60) (r := hexF s s.size 0) ?_) ?_
  ·unfold ident_all.f
   exact_mod_cast all_l0 s (by omega) s.size 60 0 (by omega) (by omega)
  ·rw [decide_eq_true h, Bool.true_and]; exact Ev.now _
 ·refine Ev.congr (f := fun _ => some false) (fun k => by unfold ident_Is.f; rw [if_neg (by omega)]) ?_
  rw [decide_eq_false h, Bool.false_and]; exact Ev.now _
theorem hexF_at (s : ByteArray) : ∀ (d i : Nat), hexF s d i = true → ∀ j, i ≤ j → j < i + d → 0 ≤ dv (bt s j)
 | 0, _, _, j, h1, h2 => by omega
 | d + 1, i, h, j, h1, h2 => by
  rw [hexF, Bool.and_eq_true, decide_eq_true_eq] at h
  by_cases e : j = i
  ·rw [e]; exact h.1
  ·exact hexF_at s d (i + 1) h.2 j (by omega) (by omega)
def hx (n : Int) : Int := bt (⟨#[48, 49, 50, 51, 52, 53, 54, 55, 56, 57, 97, 98, 99, 100, 101, 102]⟩ : ByteArray) n
def hexL (s : ByteArray) : Nat → List Int
 | 0 => []
 | n + 1 => hexL s n ++ [hx (bt s n / 16), hx (bt s n % 16)]
theorem hexL_len (s : ByteArray) : ∀ n, (hexL s n).length = 2 * n
 | 0 => rfl
 | n + 1 => by rw [hexL, List.length_append, hexL_len s n]; simp; omega
def hexB (s : ByteArray) : ByteArray := strOfNums (hexL s s.size)
theorem and_table : ∀ n : Fin 256, Go.bits .and .u8 (n.val : Int) 15 = (n.val : Int) % 16 := by decide +kernel
theorem and_bt (s : ByteArray) (i : Int) : Go.bits .and .u8 (bt s i) 15 = bt s i % 16 := by
 obtain ⟨n, hn⟩ := bt_fin s i
 rw [hn]; exact and_table n
theorem Hex_l0 (s : ByteArray) (hs : s.size ≤ 4294967296) : ∀ (d k i : Nat), i + d = s.size → d < k → ident_Hex.l0 k s (hexL s i) s.size i = some (hexB s) := by
 intro d
 induction d with
 | zero =>
  intro k i hi hk
  obtain ⟨k, rfl⟩ : ∃ m, k = m + 1 := ⟨k - 1, by omega⟩
  obtain rfl : i = s.size := by omega
  simp only [ident_Hex.l0]
  rw [if_neg (by omega)]; rfl
 | succ d ih =>
  intro k i hi hk
  obtain ⟨k, rfl⟩ : ∃ m, k = m + 1 := ⟨k - 1, by omega⟩
  have := ih k (i + 1) (by omega) (by omega)
  have hr := bt_range s i
  simp only [ident_Hex.l0]
  rw [if_pos (by omega), if_pos (by omega), if_pos (by omega), if_pos (by omega), if_pos (by omega), and_bt, if_pos (by omega), if_pos (by omega)]
  simp only [Option.bind_some]
  rw [if_pos (by rw [hexL_len]; simp; omega), wrap_id (by omega) (by omega)]
  exact_mod_cast this
theorem ident_Hex_ev (s : ByteArray) (hs : s.size ≤ 4294967296) : Ev (fun k => ident_Hex.f k s) (hexB s) := by
 refine Ev.of (fun k => ident_Hex.mono s k) (k := s.size + 1) ?_
 unfold ident_Hex.f
 rw [wrap_id (by omega) (by omega), if_pos (by omega), if_pos (by omega)]
 exact_mod_cast Hex_l0 s hs s.size _ 0 (by omega) (by omega)
theorem ev_take {α : Type} {g : Nat → Option α} {r : α} (h : Ev g r) : ∃ k, g k = some r := h.rounds
def commit_Check_1.f (a0 : ByteArray) : Option Bool := some (!idOk a0)
theorem commit_Check_1.calls (a0 : ByteArray) (r : Bool) (w : World) (h : commit_Check_1.f a0 = some r) :
    Calls Tryz.prog 64 #[.string a0] w fun e w' => e = .returned (.bool r) ∧ Drawn0 w w' := by
  obtain rfl := Option.some.inj h
  clear h
  obtain ⟨k, hk⟩ := ev_take (ident_Is_ev a0)
  have HK := Aside0.mk hk
  clear hk
  obtain ⟨b, hb⟩ : ∃ b, b = idOk a0 := ⟨_, rfl⟩
  rw [← hb] at HK ⊢
  clear hb
  go_enter func64, ntmps64
  go_wp2_with (go_at_call 65; (with_reducible refine (ident_Is.calls k a0 b _ HK.out).mono ?_); rintro e w1 ⟨rfl, hb⟩; have HB := Aside0.mk hb; clear hb)
  go_ret
  exact ⟨rfl, HB.out⟩
end Go.Proofs.YtbhfbbfjdklfgaaGreatDoor.Q
namespace Go.Proofs.YtbhfbbfjdklfgaaGreatDoor.Q
open Go.Proofs.Tryz Go.RowKit Go.Maps Go.Proofs.YtbhfbbfjdklfgaaGreatDoorW.PrintWords Go.Proofs.YtbhfbbfjdklfgaaGreatDoorW.PrintLast Go.Proofs.YtbhfbbfjdklfgaaGreatDoorW.PrintMore
structure MSB where
  n : Nat
  f : List UInt8 → Option Bool
def MSB.nil : MSB := ⟨0, fun _ => none⟩
def MSB.get (m : MSB) (k : ByteArray) : Bool := (m.f k.data.toList).getD false
def MSB.has (m : MSB) (k : ByteArray) : Bool := (m.f k.data.toList).isSome
def MSB.put (m : MSB) (k : ByteArray) (v : Bool) : MSB := ⟨m.n + 1, fun x => if x = k.data.toList then some v else m.f x⟩
def IsS84 (w0 W : World) (g : Nat) (f0 : MSB) : Prop := w0.heap.size ≤ g ∧ ∃ D : DataW Unit, W.ownsMap Tryz.prog 9 (plainElem Tryz.prog 4) g f0.n D ∧
  ∀ s : List UInt8, s.length ≤ maxLen → D.atKey (.string s) (.lit (.bool false)) = .lit (.bool ((f0.f s).getD false)) ∧ Maps.has D (.string s) = (f0.f s).isSome
theorem plainElem_bool_inv {H : Type} {P : Program} {e : TypeId} (he : P.underlying e = some .bool) {v : Value} {z : DataW H × List MemPlace} (h : plainElem P e v = some z) : ∃ a, v = .bool a ∧ z = (.lit (.bool a), []) := by
  unfold plainElem at h
  rw [he] at h
  cases v <;> simp at h
  subst h
  exact ⟨_, rfl, rfl⟩
theorem wpList_lookup_own_bool {H : Type} {P : Program} (w : World) {ops : Array Oper} {rest : List Oper} {o : Oper} {a : Act} {Q : Exit → Act → World → Prop}
    (hg : o.guard = none) (m x : Operand) (t : TypeId) (hop : o.op = Op.lookup t m x false)
    (k e : TypeId) (K : Keyed P k) (ht : P.underlying t = some (.map k e)) (he : P.underlying e = some .bool) (hz : (zeroValue e).run P w = .ok (.bool false) w) (b n : Nat) (D : DataW H)
    (hm : a.eval m = .map (some b)) (hown : w.ownsMap P k (plainElem P e) b n D) (key : Value) (kl : Lit) (hx : a.eval x = key) (hkey : keyOf P k key = some kl)
    (hK : ∀ c : Bool, D.atKey kl (.lit (.bool false)) = .lit (.bool c) → wpList P ops Q rest (a.put o.dst (.bool c)) w) :
    wpList P ops Q (o :: rest) a w := by
  refine wpList_plain hg fun K' hK' => ?_
  obtain ⟨v, ps, hrun, hv⟩ := hown.lookup K ht hz (plainElem_bool he false) hkey
  obtain ⟨c, rfl, hc⟩ := plainElem_bool_inv he hv
  unfold Oper.wp
  simp [execOp, hop, hm, hx, hrun, Result.andThen]
  exact hK' _ _ (hK c (congrArg Prod.fst hc))
theorem mapLawB : Keyed Tryz.prog 9 := string_keyed underlying9
theorem mapZeroB (w : World) : (zeroValue 4).run Tryz.prog w = .ok (.bool false) w := by kernel_rfl
section
variable {w0 W W1 : World} {g : Nat} {f0 : MSB}
theorem IsS84.block (h : IsS84 w0 W g f0) : ∃ es clock, W.heap[g]? = some (.map es clock) := by
  obtain ⟨_, D, ⟨es, c, hb, _⟩, _⟩ := h
  exact ⟨es, c, hb⟩
theorem IsS84.grown {row : Option Nat} (h : IsS84 w0 W g f0) (hw : W.grownBy W1 row) (hne : some g ≠ row) : IsS84 w0 W1 g f0 := by
  obtain ⟨h0, D, h1, h2⟩ := h
  exact ⟨h0, D, h1.kept hw hne, h2⟩
theorem IsS84.below (h : IsS84 w0 W g f0) (hw : Below W.heap.size W W1) : IsS84 w0 W1 g f0 := h.grown (grown_of_below hw none) (by simp)
theorem IsS84.alloc (h : IsS84 w0 W g f0) (o : Obj) : IsS84 w0 (W.alloc o) g f0 := h.below (below_alloc (Below.refl _ _) o)
theorem IsS84.drewN (h : IsS84 w0 W g f0) (m : Nat) : IsS84 w0 (W.drewN m) g f0 := h
theorem IsS84.drew (h : IsS84 w0 W g f0) : IsS84 w0 W.drew g f0 := h
theorem IsS84.at_ {m : Nat} (hq : W.drewN m = W1) (h : IsS84 w0 W g f0) : IsS84 w0 W1 g f0 := by subst hq; exact h
theorem IsS84.ge (h : IsS84 w0 W g f0) : w0.heap.size ≤ g := h.1
theorem IsS84.lt (h : IsS84 w0 W g f0) : g < W.heap.size := by
  obtain ⟨_, D, h1, _⟩ := h
  exact h1.lt
theorem IsS84.fresh (h : IsS84 w0 W g f0) : ∀ k, W.heap.size ≤ k → k ≠ g := fun k hk e => by have := h.lt; omega
theorem IsS84.far {p : Addr} (h : IsS84 w0 W g f0) (hne : g ≠ p.block) (u : Value) : IsS84 w0 (W.setCell p u) g f0 := by
  obtain ⟨h0, D, h1, h2⟩ := h
  exact ⟨h0, D, h1.setCell hne u, h2⟩
theorem IsS84.apart {α : Type} {d : Kd α} {e : Nat} {base : Nat} {ok : Nat → Prop} {v : Value} {xs : List α} (h : IsS84 w0 W g f0) (ho : d.R e W base ok v xs) (ht : ∀ q, q ∈ e :: d.E → q ≠ 84) : d.R e W base (fun k => ok k ∧ k ≠ g) v xs := by
  obtain ⟨es, c, hb⟩ := h.block
  refine Kd.R_mono (Kd.R_bound ho) (fun k hk => ⟨hk.1, ?_⟩)
  rintro rfl
  obtain ⟨_, _, _, q, _, cells, hc⟩ := hk
  rw [hc] at hb
  cases hb
theorem IsS84.own_ne {α : Type} {d : Kd α} {e : Nat} {base : Nat} {ok : Nat → Prop} {v : Value} {xs : List α} (h : IsS84 w0 W g f0) (ho : d.R e W base ok v xs) (ht : e ≠ 84) : some g ≠ v.ownBlock := by
  obtain ⟨es, c, hb⟩ := h.block
  intro he
  obtain ⟨_, _, _, q, _, cells, hc⟩ := (Kd.R_bound ho).1 g he.symm
  rw [hc] at hb
  cases hb
theorem IsS84.made (hb : W.ownsMap Tryz.prog 9 (plainElem (H := Unit) Tryz.prog 4) g 0 (.map [])) (hg : w0.heap.size ≤ g) : IsS84 w0 W g MSB.nil :=
  ⟨hg, .map [], hb, fun s hs => ⟨by simp [DataW.atKey, MSB.nil], by simp [Maps.has, MSB.nil]⟩⟩
end
section
variable {ops : Array Oper} {rest : List Oper} {o : Oper} {a : Act} {Q : Exit → Act → World → Prop} {w0 W : World} {g : Nat} {f0 : MSB}
theorem mkmapB_event (hgd : o.guard = none) {N : Tmp} (hd : o.dst = some N) (hop : o.op = .makeMap 84 none)
    (h : ∀ g, g = W.heap.size → ∀ w1, w1.ownsMap Tryz.prog 9 (plainElem (H := Unit) Tryz.prog 4) g 0 (.map []) → Below W.heap.size W w1 → wpList Tryz.prog ops Q rest (a.put o.dst (.map (some g))) w1) : wpList Tryz.prog ops Q (o :: rest) a W := by
  have hmm := @run_makeMap Tryz.prog
  refine Kd.event_run hgd (v := .map (some W.heap.size)) (w1 := W.alloc (.map #[] 0)) ?_ (h _ rfl _ (World.ownsMap_made _ _ _ _) (below_alloc (Below.refl _ _) _))
  simp [execOp, hop, hmm, Result.andThen]
theorem IsS84.look {m x : Operand} {k : ByteArray} (h : IsS84 w0 W g f0) (hgd : o.guard = none) (hop : o.op = .lookup 84 m x false) (hm : a.eval m = .map (some g)) (hx : a.eval x = .string k) (hs : k.size ≤ 9223372036854775807)
    {c_ : Bool} (he_ : MSB.get f0 k = c_) (K : wpList Tryz.prog ops Q rest (a.put o.dst (.bool c_)) W) : wpList Tryz.prog ops Q (o :: rest) a W := by
  subst he_
  obtain ⟨h0, D, h1, h2⟩ := h
  refine wpList_lookup_own_bool _ hgd m x 84 hop 9 4 mapLawB underlying84 underlying4 (mapZeroB _) g f0.n D hm h1 _ _ hx (WideMaps.keyOf_string_mk underlying9 (by unfold maxLen; exact hs)) ?_
  intro c hat
  have := (h2 k.data.toList (by unfold maxLen; exact hs)).1
  rw [this] at hat
  have e : c = MSB.get f0 k := by
    injection hat with hat
    injection hat with hat
    exact hat.symm
  rw [e]
  exact K
theorem IsS84.put_ {m x v : Operand} {k : ByteArray} {n : Bool} (h : IsS84 w0 W g f0) (hgd : o.guard = none) (hop : o.op = .mapUpdate 84 m x v) (hm : a.eval m = .map (some g)) (hx : a.eval x = .string k) (hv : a.eval v = .bool n) (hs : k.size ≤ 9223372036854775807) (hn : f0.n < 4611686018427387904) (hw : True)
    (K : ∀ w1, IsS84 w0 w1 g (MSB.put f0 k n) → W.grownBy w1 (some g) → wpList Tryz.prog ops Q rest (a.put o.dst undef) w1) : wpList Tryz.prog ops Q (o :: rest) a W := by
  obtain ⟨h0, D, h1, h2⟩ := h
  have hk : keyOf Tryz.prog 9 (.string k) = some (.string k.data.toList) := WideMaps.keyOf_string_mk underlying9 (by unfold maxLen; exact hs)
  refine wpList_mapUpdate_own _ hgd m x v 84 hop 9 4 mapLawB underlying84 _ g f0.n D hm h1 (by unfold maxLen; omega) _ _ _ hx hv hk _ [] (plainElem_bool underlying4 n) ?_
  intro w1 hown hg
  refine K w1 ⟨h0, _, hown, fun s hl => ?_⟩ hg
  have hD : IsMap D := by
    obtain ⟨es, c, _, _, _, rfl⟩ := h1
    exact ⟨_, rfl⟩
  have hkl : WideAt.IsKeyLit (.string k.data.toList) := trivial
  by_cases e : s = k.data.toList
  · subst e
    refine ⟨?_, ?_⟩
    · rw [atKey_put_same hD hkl]; simp [MSB.put]
    · rw [has_put_same hD hkl]; simp [MSB.put]
  · have hne : (Lit.string s) ≠ .string k.data.toList := fun h => e (by injection h)
    have := h2 s hl
    refine ⟨?_, ?_⟩
    · rw [atKey_put_other hne, this.1]; simp [MSB.put, e]
    · rw [has_put_other hne, this.2]; simp [MSB.put, e]
end
end Go.Proofs.YtbhfbbfjdklfgaaGreatDoor.Q

