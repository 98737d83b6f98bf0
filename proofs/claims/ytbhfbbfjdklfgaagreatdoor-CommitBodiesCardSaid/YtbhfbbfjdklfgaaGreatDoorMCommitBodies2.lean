/- The law CommitBodies holds: for every input it returns true, and each argument reads afterwards as it read before. -/
import Derived.Test.YtbhfbbfjdklfgaaGreatDoorMYCommitBodies1
import Derived.Test.YtbhfbbfjdklfgaaGreatDoorMCommitBodies1
import Derived.Test.YtbhfbbfjdklfgaaGreatDoorProg
import Derived.Below
import Derived.Deep.Draws
import Derived.Deep.AppendLies
import Derived.Maps.AppendAt
import Derived.OwnWalk
import Derived.Laws.BytesArg
import Derived.Laws.MakeOwn
import Derived.Laws.OwnMore
import Derived.Deep.OwnRows
import Derived.Tactics
import Derived.Lib.ConvBytes
import Derived.Laws.Slices
import Derived.WalkKit
import Derived.KernelRfl
import Derived.RowKit3
import Derived.Deep.LoopGhost
import Derived.Deep.QuietTactic
import Derived.BigQuiet
import Derived.WideLaws
import Derived.Deep.DeepCutAuto
import Derived.Deep.CutBlock
import Derived.Deep.RegionHeld3
import Derived.Laws.Rows
import Derived.Lib.AppendStr
import Derived.ArgAppend
import Derived.Laws.IdiomCopy
import Derived.OrdersHeld
import Derived.Laws.BitsLemmas
import Derived.RowKit
import Derived.Shelf.Strings.Builder1
import Derived.Shelf.Small.Utf8
import Derived.Shelf.Small.Bits
import Derived.Shelf.Small.Strs
import Derived.Shelf.Small.Wraps
import Derived.Shelf.Strings.BuilderF
import Derived.Shelf.Strings.BuilderK
import Derived.Shelf.Utf8.RuneCount
import Derived.Shelf.Strconv.Atoi
import Derived.Shelf.Strconv.Itoa0
import Derived.Shelf.Strconv.Itoa1
import Derived.Shelf.LaysM
import Derived.Shelf.Strconv.Itoa2
import Derived.Shelf.Strconv.Itoa3
import Derived.Shelf.Strconv.AtoiErrFast
import Derived.Shelf.Strconv.ParseIntEmpty
import Derived.Shelf.Strconv.AtoiFail
import Derived.Shelf.Strconv.Clone
import Derived.Shelf.Strconv.SyntaxError
import Derived.Shelf.LaysC
import Derived.Shelf.Strconv.ToError
import Derived.Shelf.Strconv.Lower
import Derived.Shelf.Strconv.ParseUint10
import Derived.Shelf.Strconv.ParseUint10Empty
import Derived.Shelf.Strconv.ParseUint10Any
import Derived.Shelf.Strconv.ParseInt10
import Derived.Shelf.Strconv.AtoiLong
import Derived.Shelf.Strconv.AtoiInnerAll
import Derived.Shelf.Strconv.RangeError
import Derived.Shelf.Strconv.ToErrorRange
import Derived.Shelf.Strconv.AtoiAll
import Derived.Shelf.Strconv.ErrVarAll
import Derived.Shelf.Strings.Search1
import Derived.Shelf.Strings.Search2
import Derived.Shelf.Strings.Search3
import Derived.Shelf.Strings.Cut
import Derived.Shelf.Strings.Count
import Derived.Shelf.Strings.Shaped
import Derived.Shelf.Strings.Prefix
import Derived.Shelf.Strings.Split
import Derived.Shelf.Strings.SplitShaped
import Derived.Shelf.Strings.Runes
import Derived.Shelf.Strings.IndexAny
import Derived.Shelf.Strings.AsciiSet
import Derived.Shelf.Strings.IndexAnyAll
import Derived.Shelf.Unicode.DecodeSlow
import Derived.Shelf.Slices.CompactS
import Derived.Shelf.Slices.Cells
import Derived.Lib.DecodeN
import Derived.Lib.SpaceUEq
import Derived.Laws.Runes
import Derived.Laws.RangeAny
import Derived.WalkMore
import Derived.Lib.OthersKept
import Derived.Lib.TrimUEq
import Derived.Shelf.RegionOpenPlain
import Derived.Test.YtbhfbbfjdklfgaaGreatDoorRows
import Derived.Handed
import Derived.HandedShaped
import Derived.Lib.LaidTab
import Derived.Lib.LaidU8
import Derived.Lib.SmallJoins
import Derived.Laws.Cover1
set_option linter.unusedVariables false
set_option linter.unusedSimpArgs false
/- Contracts of Go functions as calls of plain Lean functions, written by a program of this session over the kit's print. -/
namespace Go.Proofs.YtbhfbbfjdklfgaaGreatDoor.Q
open Go.RowKit Go.Proofs.YtbhfbbfjdklfgaaGreatDoorW.PrintWords Go.Proofs.YtbhfbbfjdklfgaaGreatDoorW.PrintLast Go.Proofs.YtbhfbbfjdklfgaaGreatDoorW.PrintMore
attribute [local go_sem] max2_int min2_int max_two min_two max_three min_three max_four min_four   -- for this text's walks alone



def errW : Option Int → Value
  | none => .nilIface
  | some c => .iface 0 (.int .i64 c)
theorem errW_none : errW none = .nilIface := rfl
theorem errW_some (c : Int) : errW (some c) = .iface 0 (.int .i64 c) := rfl

theorem info5 : (Tryz.prog.info? 5).map (fun i => (i.zero, i.size, i.bytes)) = some (some (.int .u8 0), 1, 1) := by kernel_rfl
theorem info9 : (Tryz.prog.info? 9).map (fun i => (i.zero, i.size, i.bytes)) = some (some (.string ⟨#[]⟩), 1, 16) := by kernel_rfl
theorem info108 : (Tryz.prog.info? 108).map (fun i => (i.zero, i.size, i.bytes)) = some (some (.agg #[(.int .i64 0), (.string ⟨#[]⟩), (.string ⟨#[]⟩)]), 3, 40) := by kernel_rfl
/-! #### struct type 24 -/
structure S24 where
  f0 : ByteArray
  f1 : ByteArray
  f2 : Int
  f3 : Int
def z24 : S24 := ⟨(⟨#[]⟩ : ByteArray), (⟨#[]⟩ : ByteArray), (0 : Int), (0 : Int)⟩
def k24 : Kd S24 := Kd.iso (Kd.pair Kd.string (Kd.pair Kd.string (Kd.pair (Kd.int .i64) (Kd.int .i64)))) (fun x : S24 => (x.f0, x.f1, x.f2, x.f3))
theorem k24_open {w : World} {x : S24} {cs : List Value} (h : k24.K w x cs) : cs = [.string x.f0, .string x.f1, .int .i64 x.f2, .int .i64 x.f3] := by
  obtain ⟨_, _, rfl, rfl, ⟨_, _, rfl, rfl, ⟨_, _, rfl, rfl, rfl⟩⟩⟩ := h
  exact rfl
/-! #### struct type 26 -/
structure S26 where
  f0 : ByteArray
  f1 : (List ByteArray)
  f2 : S24
  f3 : S24
  f4 : ByteArray
def k26 : Kd S26 := Kd.iso (Kd.pair Kd.string (Kd.pair (Kd.slice 9 Kd.string) (Kd.pair k24 (Kd.pair k24 Kd.string)))) (fun x : S26 => (x.f0, x.f1, x.f2, x.f3, x.f4))
theorem k26_open {w : World} {x : S26} {cs : List Value} (h : k26.K w x cs) : ∃ A1 c1, cs = [.string x.f0, .slice A1 x.f1.length c1, .string x.f2.f0, .string x.f2.f1, .int .i64 x.f2.f2, .int .i64 x.f2.f3, .string x.f3.f0, .string x.f3.f1, .int .i64 x.f3.f2, .int .i64 x.f3.f3, .string x.f4] ∧ x.f1.length ≤ c1 ∧ Kd.string.C w A1 x.f1.length x.f1 := by
  obtain ⟨_, _, rfl, rfl, ⟨_, _, rfl, ⟨A1, c1, rfl, l1, g1⟩, ⟨_, _, rfl, s2, ⟨_, _, rfl, s6, rfl⟩⟩⟩⟩ := h
  obtain rfl := k24_open s2
  obtain rfl := k24_open s6
  exact ⟨A1, c1, rfl, l1, g1⟩
/-! #### struct type 37 -/
structure S37 where
  f0 : ByteArray
  f1 : Int
  f2 : ByteArray
  f3 : S24
  f4 : ByteArray
def z37 : S37 := ⟨(⟨#[]⟩ : ByteArray), (0 : Int), (⟨#[]⟩ : ByteArray), z24, (⟨#[]⟩ : ByteArray)⟩
/-! #### struct type 50 -/
structure S50 where
  f0 : Int
  f1 : ByteArray
/-! #### struct type 70 -/
structure S70 where
  f0 : ByteArray
  f1 : ByteArray
  f2 : S24
  f3 : ByteArray
/-! #### struct type 68 -/
structure S68 where
  f0 : ByteArray
  f1 : (List S70)
/-! #### struct type 74 -/
structure S74 where
  f0 : ByteArray
  f1 : ByteArray
  f2 : ByteArray
  f3 : S24
  f4 : ByteArray
/-! #### struct type 87 -/
structure S87 where
  f0 : ByteArray
  f1 : Int
/-! #### struct type 108 -/
structure S108 where
  f0 : Int
  f1 : ByteArray
  f2 : ByteArray
def z108 : S108 := ⟨(0 : Int), (⟨#[]⟩ : ByteArray), (⟨#[]⟩ : ByteArray)⟩
def k108 : Kd S108 := Kd.iso (Kd.pair (Kd.int .i64) (Kd.pair Kd.string Kd.string)) (fun x : S108 => (x.f0, x.f1, x.f2))
theorem k108_open {w : World} {x : S108} {cs : List Value} (h : k108.K w x cs) : cs = [.int .i64 x.f0, .string x.f1, .string x.f2] := by
  obtain ⟨_, _, rfl, rfl, ⟨_, _, rfl, rfl, rfl⟩⟩ := h
  exact rfl
theorem k108_mkM (w : World) (base : Nat) (ok : Nat → Prop) (x : S108)  : k108.M w base ok x [.int .i64 x.f0, .string x.f1, .string x.f2] := ⟨[.int .i64 x.f0], [.string x.f1, .string x.f2], rfl, rfl, ⟨[.string x.f1], [.string x.f2], rfl, rfl, rfl⟩⟩
def rd_T108 (xs : List S108) (i : Int) : S108 := xs.getD i.toNat z108
theorem at_T108 {w : World} {A : Option Addr} {n : Nat} {xs : List S108} (h : Kd.C k108 w A n xs) (i : Int) (h0 : 0 ≤ i) (h1 : i < n) : ∃ ad , A = some ad ∧ w.cell? (ad.add (i.toNat * 3)) = some (.int .i64 (rd_T108 xs i).f0) ∧ w.cell? ⟨(ad.add (i.toNat * 3)).block, (ad.add (i.toNat * 3)).off + 1, none⟩ = some (.string (rd_T108 xs i).f1) ∧ w.cell? ⟨(ad.add (i.toNat * 3)).block, (ad.add (i.toNat * 3)).off + 2, none⟩ = some (.string (rd_T108 xs i).f2) := by
  obtain ⟨ad, c, e, _, hK, hc0⟩ := Kd.C_get h z108 i h0 h1
  have hc : ∀ j u, c[j]? = some u → w.cell? (ad.add (i.toNat * 3 + j)) = some u := hc0
  obtain rfl := k108_open hK
  exact ⟨ad, e, hc 0 _ rfl, by rw [← add_field _ _ 1 (by omega)]; exact hc 1 _ rfl, by rw [← add_field _ _ 2 (by omega)]; exact hc 2 _ rfl⟩

/-! #### struct type 147 -/
structure S147 where
  f0 : Int
  f1 : ByteArray
theorem eqA24 (d : Nat) (w : World) (x0 y0 : ByteArray) (x1 y1 : ByteArray) (x2 y2 : Int) (x3 y3 : Int) :
    (Op.equalIn (d + 2) 24 (.agg #[.string x0, .string x1, .int .i64 x2, .int .i64 x3]) (.agg #[.string y0, .string y1, .int .i64 y2, .int .i64 y3])).run Tryz.prog w = .ok (x0.toList == y0.toList && (x1.toList == y1.toList && (x2 == y2 && (x3 == y3)))) w := by
  refine eqA_of Tryz.underlying24 (by kernel_rfl) ?_
  refine eqf_cons (by rfl) (by go_simp; rfl) (by go_simp; rfl) (by go_simp) ?_
  refine eqf_cons (by rfl) (by go_simp; rfl) (by go_simp; rfl) (by go_simp) ?_
  refine eqf_cons (by rfl) (by go_simp; rfl) (by go_simp; rfl) (by go_simp) ?_
  exact eqf_last (by rfl) (by go_simp; rfl) (by go_simp; rfl) (by go_simp)
theorem ne_nil_bool (l : List UInt8) : (l != []) = !l.isEmpty := by cases l <;> rfl
end Go.Proofs.YtbhfbbfjdklfgaaGreatDoor.Q


/- Laws of no program: what holds behind new blocks and draws, found by the class. -/
namespace Go.Proofs.YtbhfbbfjdklfgaaGreatDoor.Q
open Go.RowKit Go.Proofs.YtbhfbbfjdklfgaaGreatDoorW.PrintWords Go.Proofs.YtbhfbbfjdklfgaaGreatDoorW.PrintLast Go.Proofs.YtbhfbbfjdklfgaaGreatDoorW.PrintMore
class Up (w w1 : World) : Prop where
  b : Below w.heap.size w w1
instance (w : World) : Up w w := ⟨Below.refl _ _⟩
instance (w w1 : World) (o : Obj) [h : Up w w1] : Up w (w1.alloc o) := ⟨below_alloc h.b o⟩
instance (w w1 : World) [h : Up w w1] : Up w w1.drew := ⟨below_drew1 h.b⟩
instance (w w1 : World) (n : Nat) [h : Up w w1] : Up w (w1.drewN n) := ⟨pw_below_drewN h.b n⟩
theorem hb_ {w0 w w1 : World} [h : Up w w1] (hb : Below w0.heap.size w0 w) : Below w0.heap.size w0 w1 := below_step hb h.b
theorem bk_ {w w1 : World} {g : Nat} {o : Obj} [h : Up w w1] (hb : w.heap[g]? = some o) : w1.heap[g]? = some o := blk_below hb h.b
theorem rk_ {α : Type} {d : Kd α} {e base : Nat} {ok : Nat → Prop} {v : Value} {xs : List α} {w w1 : World} [h : Up w w1] (hr : d.R e w base ok v xs) : d.R e w1 base ok v xs := Kd.R_below hr h.b
theorem hs_ {p : Prop} (h : p := by repeat (first | (with_reducible first | exact HB.out | apply below_alloc | apply pw_below_drewN | apply below_drew1 | refine below_set ?_ (Aside0.out (by assumption))) | exact HB.out)) : p := h
end Go.Proofs.YtbhfbbfjdklfgaaGreatDoor.Q


/- Lemmas with default proofs, for printed texts. -/
namespace Go.Proofs.YtbhfbbfjdklfgaaGreatDoor.Q
open Go.RowKit Go.Proofs.YtbhfbbfjdklfgaaGreatDoorW.PrintWords Go.Proofs.YtbhfbbfjdklfgaaGreatDoorW.PrintLast Go.Proofs.YtbhfbbfjdklfgaaGreatDoorW.PrintMore
theorem bc2 {w : World} {g : Nat} {t : TypeId} {x0 x1 : Value} (h : w.heap[g]? = some (.cells #[x0, x1] t (0, 0))) : w.cell? ⟨g, 0, none⟩ = some x0 ∧ w.cell? ⟨g, 1, none⟩ = some x1 ∧ w.frozen? ⟨g, 0, none⟩ = false ∧ w.frozen? ⟨g, 1, none⟩ = false := ⟨(blk_cell h 0).trans rfl, (blk_cell h 1).trans rfl, blk_frozen h 0, blk_frozen h 1⟩
theorem bc3 {w : World} {g : Nat} {t : TypeId} {x0 x1 x2 : Value} (h : w.heap[g]? = some (.cells #[x0, x1, x2] t (0, 0))) : w.cell? ⟨g, 0, none⟩ = some x0 ∧ w.cell? ⟨g, 1, none⟩ = some x1 ∧ w.cell? ⟨g, 2, none⟩ = some x2 ∧ w.frozen? ⟨g, 0, none⟩ = false ∧ w.frozen? ⟨g, 1, none⟩ = false ∧ w.frozen? ⟨g, 2, none⟩ = false := ⟨(blk_cell h 0).trans rfl, (blk_cell h 1).trans rfl, (blk_cell h 2).trans rfl, blk_frozen h 0, blk_frozen h 1, blk_frozen h 2⟩
theorem bc4 {w : World} {g : Nat} {t : TypeId} {x0 x1 x2 x3 : Value} (h : w.heap[g]? = some (.cells #[x0, x1, x2, x3] t (0, 0))) : w.cell? ⟨g, 0, none⟩ = some x0 ∧ w.cell? ⟨g, 1, none⟩ = some x1 ∧ w.cell? ⟨g, 2, none⟩ = some x2 ∧ w.cell? ⟨g, 3, none⟩ = some x3 ∧ w.frozen? ⟨g, 0, none⟩ = false ∧ w.frozen? ⟨g, 1, none⟩ = false ∧ w.frozen? ⟨g, 2, none⟩ = false ∧ w.frozen? ⟨g, 3, none⟩ = false := ⟨(blk_cell h 0).trans rfl, (blk_cell h 1).trans rfl, (blk_cell h 2).trans rfl, (blk_cell h 3).trans rfl, blk_frozen h 0, blk_frozen h 1, blk_frozen h 2, blk_frozen h 3⟩
theorem bc8 {w : World} {g : Nat} {t : TypeId} {x0 x1 x2 x3 x4 x5 x6 x7 : Value} (h : w.heap[g]? = some (.cells #[x0, x1, x2, x3, x4, x5, x6, x7] t (0, 0))) : w.cell? ⟨g, 0, none⟩ = some x0 ∧ w.cell? ⟨g, 1, none⟩ = some x1 ∧ w.cell? ⟨g, 2, none⟩ = some x2 ∧ w.cell? ⟨g, 3, none⟩ = some x3 ∧ w.cell? ⟨g, 4, none⟩ = some x4 ∧ w.cell? ⟨g, 5, none⟩ = some x5 ∧ w.cell? ⟨g, 6, none⟩ = some x6 ∧ w.cell? ⟨g, 7, none⟩ = some x7 ∧ w.frozen? ⟨g, 0, none⟩ = false ∧ w.frozen? ⟨g, 1, none⟩ = false ∧ w.frozen? ⟨g, 2, none⟩ = false ∧ w.frozen? ⟨g, 3, none⟩ = false ∧ w.frozen? ⟨g, 4, none⟩ = false ∧ w.frozen? ⟨g, 5, none⟩ = false ∧ w.frozen? ⟨g, 6, none⟩ = false ∧ w.frozen? ⟨g, 7, none⟩ = false := ⟨(blk_cell h 0).trans rfl, (blk_cell h 1).trans rfl, (blk_cell h 2).trans rfl, (blk_cell h 3).trans rfl, (blk_cell h 4).trans rfl, (blk_cell h 5).trans rfl, (blk_cell h 6).trans rfl, (blk_cell h 7).trans rfl, blk_frozen h 0, blk_frozen h 1, blk_frozen h 2, blk_frozen h 3, blk_frozen h 4, blk_frozen h 5, blk_frozen h 6, blk_frozen h 7⟩
theorem bc11 {w : World} {g : Nat} {t : TypeId} {x0 x1 x2 x3 x4 x5 x6 x7 x8 x9 x10 : Value} (h : w.heap[g]? = some (.cells #[x0, x1, x2, x3, x4, x5, x6, x7, x8, x9, x10] t (0, 0))) : w.cell? ⟨g, 0, none⟩ = some x0 ∧ w.cell? ⟨g, 1, none⟩ = some x1 ∧ w.cell? ⟨g, 2, none⟩ = some x2 ∧ w.cell? ⟨g, 3, none⟩ = some x3 ∧ w.cell? ⟨g, 4, none⟩ = some x4 ∧ w.cell? ⟨g, 5, none⟩ = some x5 ∧ w.cell? ⟨g, 6, none⟩ = some x6 ∧ w.cell? ⟨g, 7, none⟩ = some x7 ∧ w.cell? ⟨g, 8, none⟩ = some x8 ∧ w.cell? ⟨g, 9, none⟩ = some x9 ∧ w.cell? ⟨g, 10, none⟩ = some x10 ∧ w.frozen? ⟨g, 0, none⟩ = false ∧ w.frozen? ⟨g, 1, none⟩ = false ∧ w.frozen? ⟨g, 2, none⟩ = false ∧ w.frozen? ⟨g, 3, none⟩ = false ∧ w.frozen? ⟨g, 4, none⟩ = false ∧ w.frozen? ⟨g, 5, none⟩ = false ∧ w.frozen? ⟨g, 6, none⟩ = false ∧ w.frozen? ⟨g, 7, none⟩ = false ∧ w.frozen? ⟨g, 8, none⟩ = false ∧ w.frozen? ⟨g, 9, none⟩ = false ∧ w.frozen? ⟨g, 10, none⟩ = false := ⟨(blk_cell h 0).trans rfl, (blk_cell h 1).trans rfl, (blk_cell h 2).trans rfl, (blk_cell h 3).trans rfl, (blk_cell h 4).trans rfl, (blk_cell h 5).trans rfl, (blk_cell h 6).trans rfl, (blk_cell h 7).trans rfl, (blk_cell h 8).trans rfl, (blk_cell h 9).trans rfl, (blk_cell h 10).trans rfl, blk_frozen h 0, blk_frozen h 1, blk_frozen h 2, blk_frozen h 3, blk_frozen h 4, blk_frozen h 5, blk_frozen h 6, blk_frozen h 7, blk_frozen h 8, blk_frozen h 9, blk_frozen h 10⟩
theorem nl_ {a b : Nat} (h : a ≤ b) : (b < a) = False := eq_false (Nat.not_lt.2 h)
theorem ns_ {p : Prop} (h : p := by (simp only [ByteArray.size_append] at h_; exact eq_false (Nat.not_lt.2 h_))) : p := h
theorem mz_ {p : Prop} (h : p := by repeat' first | (with_reducible exact LeO.refl _) | (with_reducible exact LeO.none _) | (with_reducible refine LeO.ite ?_ ?_) | (with_reducible refine LeO.bind ?_ (fun _ => ?_)) | (with_reducible apply m0_) | (with_reducible apply m1_) | (with_reducible apply m2_) | (with_reducible apply m3_) | (with_reducible apply m4_) | (with_reducible apply m5_) | (with_reducible apply m6_) | (with_reducible apply m7_) | (with_reducible apply m8_) | (with_reducible apply m9_) | (with_reducible apply m10_) | (with_reducible apply m11_) | apply m0_ | apply m1_ | apply m2_ | apply m3_ | apply m4_ | apply m5_ | apply m6_ | apply m7_ | apply m8_ | apply m9_ | apply m10_ | apply m11_ | exact LeO.none _ | refine LeO.ite ?_ ?_ | refine LeO.bind ?_ (fun _ => ?_)) : p := h
theorem nft_ : ¬ (false = true) := by decide
def bl : Nat → Nat → List Bool
  | 0, _ => []
  | n + 1, m => (m % 2 == 1) :: bl n (m / 2)
def bs (n m : Nat) : Array Bool := ⟨bl n m⟩
theorem z0_ {p : Prop} (h : p := by first | (with_reducible assumption) | assumption) : p := h
theorem z1_ {p : Prop} (h : p := by first | rfl | (simp; done) | (simp [*]; done) | (simp [ne_nil_bool]; done) | (simp [*, ne_nil_bool]; done)) : p := h
theorem z2_ {p : Prop} (h : p := by repeat (first | exact Drawn0.refl _ | apply Drawn0.step)) : p := h
theorem z3_ {p : Prop} (h : p := by first | rfl | (simp [errW_none, errW_some] <;> rfl) | (simp [*, errW_none, errW_some] <;> rfl) | (simp [ne_nil_bool]; done) | (simp [*, ne_nil_bool]; done)) : p := h
theorem z4_ {p : Prop} (h : p := by first | omega | exact Nat.le_refl _) : p := h
theorem z5_ {p : Prop} (h : p := by (try simp only [List.map_toArray, List.map_cons, List.map_nil]); first | done | rfl | (simp only [List.length_drop, List.length_take]; rfl)) : p := h
theorem z6_ {p : Prop} (h : p := by first | exact Kd.R_nil _ _ _ _ _ | exact Kd.N_nil _ _ _ _ _ | exact Kd.V_nil _ _ _ _ _ | exact Kd.Q_nil _ _ _ _ _ | exact Kd.S_nil _ _ _ _ _) : p := h
theorem z7_ {p : Prop} (h : p := by repeat (first | (with_reducible first | exact HK.out | apply KeepBut.set_ | apply keep_drewN | apply keep_drew | apply keep_alloc) | exact HK.out)) : p := h
theorem z8_ {p : Prop} (h : p := by (try simp only [List.map_toArray, List.map_cons, List.map_nil]); first | done | rfl) : p := h
theorem z10_ {p : Prop} (h : p := by repeat (first | (with_reducible first | exact HB.out | apply below_alloc | apply pw_below_drewN | apply below_drew1 | refine below_set ?_ (IsS176.ge HI101.out) | refine below_set ?_ GE103.out) | exact HB.out)) : p := h
theorem z11_ {p : Prop} (h : p := by repeat (first | (with_reducible first | exact HI0.out | apply IsS87.alloc | apply IsS87.drewN | apply IsS87.drew | apply IsS87.set_0 | apply IsS87.set_1) | exact HI0.out)) : p := h
theorem z12_ {p : Prop} (h : p := by repeat (first | (with_reducible first | exact HB.out | apply below_alloc | apply pw_below_drewN | apply below_drew1 | refine below_set ?_ (IsS87.ge HI0.out)) | exact HB.out)) : p := h
theorem z14_ {p : Prop} (h : p := by repeat (first | (with_reducible first | exact HI101.out | apply IsS176.alloc | apply IsS176.drewN | apply IsS176.drew | apply IsS176.set_0 | refine IsS176.far ?_ NB101_103.out _) | exact HI101.out)) : p := h
theorem z15_ {p : Prop} (h : p := by repeat (first | (with_reducible first | exact HK.out | apply KeepBut.set_ | apply keep_drewN | apply keep_drew | apply keep_alloc | refine keep_far ?_ GW107.out _) | exact HK.out)) : p := h
theorem z17_ {p : Prop} (h : p := by (with_reducible repeat (first | apply Kd.R_alloc | apply Kd.R_drewN | apply Kd.R_drew)); exact HO_3.out) : p := h
theorem z20_ {p : Prop} (h : p := by repeat (first | (with_reducible first | exact HB.out | apply below_alloc | apply pw_below_drewN | apply below_drew1 | refine below_set ?_ (IsS176.ge HI101.out)) | exact HB.out)) : p := h
theorem z21_ {p : Prop} (h : p := by repeat (first | (with_reducible first | exact HI0.out | apply IsS87.alloc | apply IsS87.drewN | apply IsS87.drew | apply IsS87.set_0 | apply IsS87.set_1 | refine IsS87.far ?_ NB0_107.out _) | exact HI0.out)) : p := h
theorem z23_ {p : Prop} (h : p := by repeat (first | (with_reducible first | exact HI101.out | apply IsS176.alloc | apply IsS176.drewN | apply IsS176.drew | apply IsS176.set_0) | exact HI101.out)) : p := h
theorem z24_ {p : Prop} (h : p := by (with_reducible repeat (first | apply Kd.R_alloc | apply Kd.R_drewN | apply Kd.R_drew)); exact HO_5.out) : p := h
theorem z26_ {p : Prop} (h : p := by repeat (first | (with_reducible first | exact HB.out | apply below_alloc | apply pw_below_drewN | apply below_drew1 | refine below_set ?_ (IsS87.ge HI0.out) | refine below_set ?_ GE107.out) | exact HB.out)) : p := h
theorem z27_ {p : Prop} (h : p := by repeat (first | (with_reducible first | exact HB.out | apply below_alloc | apply pw_below_drewN | apply below_drew1 | refine below_set ?_ (IsS84.ge HI107.out) | refine below_set ?_ GE101.out) | exact HB.out)) : p := h
theorem z29_ {p : Prop} (h : p := by repeat (first | (with_reducible first | exact HI107.out | apply IsS84.alloc | apply IsS84.drewN | apply IsS84.drew | apply IsS84.set_0 | refine IsS84.far ?_ NB107_101.out _) | exact HI107.out)) : p := h
theorem z31_ {p : Prop} (h : p := by first | (go_simp; done) | (go_simp; rfl)) : p := h
theorem z32_ {p : Prop} (h : p := by (with_reducible repeat (first | apply Kd.R_alloc | apply Kd.R_drewN | apply Kd.R_drew)); exact HO_107001.out) : p := h
theorem z37_ {p : Prop} (h : p := by repeat (first | (with_reducible first | exact HK.out | apply KeepBut.set_ | apply keep_drewN | apply keep_drew | apply keep_alloc | refine keep_far ?_ GW107.out _ | refine keep_far ?_ GW116.out _) | exact HK.out)) : p := h
theorem bb_ {w w1 w2 : World} {g : Nat} {o : Obj} [h : Up w w1] (hb : w.heap[g]? = some o) (h2 : Below w1.heap.size w1 w2) : w2.heap[g]? = some o := blk_below (bk_ hb) h2
theorem bl_ {w w1 : World} {g : Nat} {o : Obj} [h : Up w w1] (hb : w.heap[g]? = some o) : g ≠ w1.heap.size := Nat.ne_of_lt (blk_lt (bk_ (w1 := w1) hb))
theorem bg_ {w w1 : World} {g : Nat} {o : Obj} [h : Up w w1] (hb : w.heap[g]? = some o) : w1.heap.size ≠ g := Nat.ne_of_gt (blk_lt (bk_ (w1 := w1) hb))
theorem nl2_ {w w1 : World} {g q : Nat} {o : Obj} (hg : q = w1.heap.size) [h : Up w w1] (hb : w.heap[g]? = some o) : g ≠ q := hg ▸ bl_ hb
theorem ng2_ {w w1 : World} {g q : Nat} {o : Obj} (hg : q = w1.heap.size) [h : Up w w1] (hb : w.heap[g]? = some o) : q ≠ g := hg ▸ bg_ hb
theorem gw_ {w0 w w1 : World} {g : Nat} (hg : g = w1.heap.size) [h : Up w w1] (hb : Below w0.heap.size w0 w) : w0.heap.size ≤ g := hg ▸ below_size (hb_ hb)
theorem be_ {P : Program} {ops : Array Oper} {rest : List Oper} {o : Oper} {a : Act} {Q : Exit → Act → World → Prop} {W : World} {cs : Array Value} {t : TypeId} (h : ∀ g, g = W.heap.size → ∀ w1, w1.heap[g]? = some (.cells cs t (0, 0)) → Below W.heap.size W w1 → wpList P ops Q rest (a.put o.dst (.pointer (some ⟨g, 0, none⟩))) w1) {N : Tmp} (hd : o.dst = some N := by rfl) (hg : o.guard = none := by rfl) (hr : (execOp a.eval o).run P W = .ok (.value (.pointer (some ⟨W.heap.size, 0, none⟩))) (W.alloc (.cells cs t (0, 0))) := by first | (go_simp; done) | (go_simp; rfl)) : wpList P ops Q (o :: rest) a W := box_event hg hd hr h
theorem bpt_ {w : World} {g : Nat} {t : TypeId} {cs cs' : Array Value} {i : Nat} {u : Value} (h : w.heap[g]? = some (.cells cs t (0, 0))) (e : cs.setIfInBounds i u = cs') : (w.setCell ⟨g, i, none⟩ u).heap[g]? = some (.cells cs' t (0, 0)) := blk_put h i u e
theorem ab_ {w w1 w2 : World} {g : Nat} {o : Obj} [h : Up w w1] (hb : Aside0 (w.heap[g]? = some o)) (h2 : Below w1.heap.size w1 w2) : Aside0 (w2.heap[g]? = some o) := ⟨bb_ hb.out h2⟩
theorem ah_ {w0 w w1 w2 : World} [h : Up w w1] (h1 : Aside0 (Below w0.heap.size w0 w)) (h2 : Below w1.heap.size w1 w2) : Aside0 (Below w0.heap.size w0 w2) := ⟨below_step (hb_ h1.out) h2⟩
theorem ag_ {w0 w w1 : World} {g : Nat} (hg : g = w1.heap.size) [h : Up w w1] (hb : Aside0 (Below w0.heap.size w0 w)) : Aside0 (w0.heap.size ≤ g) := ⟨gw_ hg hb.out⟩
theorem gl_ {P : Program} {ops : Array Oper} {Q : Exit → Act → World → Prop} {rest : List Oper} {oi : Oper} {a : Act} {w : World} (N : Option Tmp) {f : FuncId} {fn : Func} {as' : Array Operand} {ts : Array TypeId} (hf : P.funcs[f]? = some fn) (args : Array Value) (h : Calls P f args w fun e w' => ∃ v, e = .returned v ∧ wpList P ops Q rest (a.put N v) w') (hd : oi.dst = N := by rfl) (hg : oi.guard = none := by rfl) (hname : (fn.name == "runtime.NumGoroutine") = false := by kernel_rfl) (hb : fn.body.isSome = true := by rfl) (hop : oi.op = .call { callee := .value (.func f), args := as', argTypes := ts } := by rfl) (hargs : as'.map a.eval = args := by (try simp only [List.map_toArray, List.map_cons, List.map_nil]); first | done | rfl | (simp only [List.length_drop, List.length_take]; rfl)) : wpList P ops Q (oi :: rest) a w := goesL_ N hd hg hf hname hb args hop hargs h
theorem bf_ {w : World} {g b i : Nat} {t : TypeId} {cs : Array Value} (h : w.heap[g]? = some (.cells cs t (0, 0))) (hb : g ≠ b) (u : Value) : (w.setCell ⟨b, i, none⟩ u).heap[g]? = some (.cells cs t (0, 0)) := blk_far h hb u
theorem zb_ {p : Prop} (h : p := by (with_reducible repeat (first | apply blk_drewN | apply blk_drew | apply blk_alloc | apply bpt_ | apply (bf_ (hb := f_.out)))); exact b_.out; (all_goals first | (simp only [List.setIfInBounds_toArray, List.set_cons_zero, List.set_cons_succ]; done) | (simp only [List.setIfInBounds_toArray, List.set_cons_zero, List.set_cons_succ]; rfl))) : p := h
theorem pu_ {P : Program} {ops : Array Oper} {Q : Exit → Act → World → Prop} {S : World → Prop} {ds : List Nat} {md : Region.Mode} {i : Nat} {N : Option Tmp} {oi : Oper} {v : Value} {fuel : Nat} {l : Array Bool} {a a' : Act} {w : World} (l' : Array Bool) (hi : ops[i]? = some oi) (hN : oi.dst = N) (h : wpAnyLast P md ops Q S ds fuel l' a' w) (hc : anyB md ops l l' i = true := by exact any_of HT_.out (by kernel_rfl)) (hQ : ∀ c a w, Q (.panic c) (a.put oi.dst v) w → Q (.panic c) a w := by exact fun _ _ _ h => h) (hy : Yields P ops oi v a := by (refine Or.inl ⟨by rfl, ?_⟩; intro w'; go_simp; with_reducible rfl)) (ha : a.put N v = a' := by (simp only [Act.put, List.setIfInBounds_toArray, List.set_cons_zero, List.set_cons_succ, i64_w, i32_w]; rfl)) : wpAnyLast P md ops Q S ds (fuel + 1) l a w := pure_ l' hi hN hc hQ hy ha h
theorem pk_ {P : Program} {ops : Array Oper} {Q : Exit → Act → World → Prop} {S : World → Prop} {ds : List Nat} {md : Region.Mode} {i : Nat} {N : Option Tmp} {oi : Oper} {v : Value} {fuel : Nat} {l : Array Bool} {a a' : Act} {w : World} (l' : Array Bool) (hi : ops[i]? = some oi) (hN : oi.dst = N) (h : wpAnyLast P md ops Q S ds fuel l' a' w) (hc : anyB md ops l l' i = true := by kernel_rfl) (hQ : ∀ c a w, Q (.panic c) (a.put oi.dst v) w → Q (.panic c) a w := by exact fun _ _ _ h => h) (hy : Yields P ops oi v a := by (refine Or.inl ⟨by rfl, ?_⟩; intro w'; go_simp; with_reducible rfl)) (ha : a.put N v = a' := by (simp only [Act.put, List.setIfInBounds_toArray, List.set_cons_zero, List.set_cons_succ, i64_w, i32_w]; rfl)) : wpAnyLast P md ops Q S ds (fuel + 1) l a w := pure_ l' hi hN hc hQ hy ha h
theorem pn_ {P : Program} {ops : Array Oper} {Q : Exit → Act → World → Prop} {S : World → Prop} {ds : List Nat} {md : Region.Mode} {i : Nat} {N : Option Tmp} {oi : Oper} {fuel : Nat} {l : Array Bool} {a a' : Act} {w : World} (l' : Array Bool) (hi : ops[i]? = some oi) (hN : oi.dst = N) (h : wpAnyLast P md ops Q S ds fuel l' a' w) (hc : anyB md ops l l' i = true := by exact any_of HT_.out (by kernel_rfl)) (hQ : ∀ c a w, Q (.panic c) (a.put oi.dst undef) w → Q (.panic c) a w := by exact fun _ _ _ h => h) (hy : Yields P ops oi undef a := by exact Or.inr ⟨by rfl, rfl⟩) (ha : a.put N undef = a' := by (simp only [Act.put, List.setIfInBounds_toArray, List.set_cons_zero, List.set_cons_succ, i64_w, i32_w]; rfl)) : wpAnyLast P md ops Q S ds (fuel + 1) l a w := pure_ l' hi hN hc hQ hy ha h
theorem tkK2_ {P : Program} {ops : Array Oper} {Q : Exit → Act → World → Prop} {S : World → Prop} {ds : List Nat} {md : Region.Mode} {i : Nat} {N : Option Tmp} {oi : Oper} {v : Value} {fuel : Nat} {l : Array Bool} {a a' : Act} {w : World} (l' : Array Bool) (hi : ops[i]? = some oi) (hN : oi.dst = N) (hS : S w) (h : wpAnyLast P md ops Q S ds fuel l' a' w) (hc : takeB md ops ds l l' i = true := by kernel_rfl) (hQ : ∀ c a w, Q (.panic c) (a.put oi.dst v) w → Q (.panic c) a w := by exact fun _ _ _ h => h) (hy : YieldsIf P ops S oi v a := by (refine Or.inl ⟨by rfl, ?_⟩; rintro w' ⟨s0, s1⟩; go_simp; with_reducible rfl)) (ha : a.put N v = a' := by (simp only [Act.put, List.setIfInBounds_toArray, List.set_cons_zero, List.set_cons_succ, i64_w, i32_w]; rfl)) : wpAnyLast P md ops Q S ds (fuel + 1) l a w := take_ l' hi hN hc hQ hy hS ha h
theorem tkK4_ {P : Program} {ops : Array Oper} {Q : Exit → Act → World → Prop} {S : World → Prop} {ds : List Nat} {md : Region.Mode} {i : Nat} {N : Option Tmp} {oi : Oper} {v : Value} {fuel : Nat} {l : Array Bool} {a a' : Act} {w : World} (l' : Array Bool) (hi : ops[i]? = some oi) (hN : oi.dst = N) (hS : S w) (h : wpAnyLast P md ops Q S ds fuel l' a' w) (hc : takeB md ops ds l l' i = true := by kernel_rfl) (hQ : ∀ c a w, Q (.panic c) (a.put oi.dst v) w → Q (.panic c) a w := by exact fun _ _ _ h => h) (hy : YieldsIf P ops S oi v a := by (refine Or.inl ⟨by rfl, ?_⟩; rintro w' ⟨s0, s1, s2, s3⟩; go_simp; with_reducible rfl)) (ha : a.put N v = a' := by (simp only [Act.put, List.setIfInBounds_toArray, List.set_cons_zero, List.set_cons_succ, i64_w, i32_w]; rfl)) : wpAnyLast P md ops Q S ds (fuel + 1) l a w := take_ l' hi hN hc hQ hy hS ha h
theorem tkK6_ {P : Program} {ops : Array Oper} {Q : Exit → Act → World → Prop} {S : World → Prop} {ds : List Nat} {md : Region.Mode} {i : Nat} {N : Option Tmp} {oi : Oper} {v : Value} {fuel : Nat} {l : Array Bool} {a a' : Act} {w : World} (l' : Array Bool) (hi : ops[i]? = some oi) (hN : oi.dst = N) (hS : S w) (h : wpAnyLast P md ops Q S ds fuel l' a' w) (hc : takeB md ops ds l l' i = true := by kernel_rfl) (hQ : ∀ c a w, Q (.panic c) (a.put oi.dst v) w → Q (.panic c) a w := by exact fun _ _ _ h => h) (hy : YieldsIf P ops S oi v a := by (refine Or.inl ⟨by rfl, ?_⟩; rintro w' ⟨s0, s1, s2, s3, s4, s5⟩; go_simp; with_reducible rfl)) (ha : a.put N v = a' := by (simp only [Act.put, List.setIfInBounds_toArray, List.set_cons_zero, List.set_cons_succ, i64_w, i32_w]; rfl)) : wpAnyLast P md ops Q S ds (fuel + 1) l a w := take_ l' hi hN hc hQ hy hS ha h
theorem tkW0_ {P : Program} {ops : Array Oper} {Q : Exit → Act → World → Prop} {S : World → Prop} {ds : List Nat} {md : Region.Mode} {i : Nat} {N : Option Tmp} {oi : Oper} {v : Value} {fuel : Nat} {l : Array Bool} {a a' : Act} {w : World} (l' : Array Bool) (hi : ops[i]? = some oi) (hN : oi.dst = N) (hS : S w) (h : wpAnyLast P md ops Q S ds fuel l' a' w) (hc : takeB md ops ds l l' i = true := by exact take_ofW HT_.out HW_.out (by kernel_rfl)) (hQ : ∀ c a w, Q (.panic c) (a.put oi.dst v) w → Q (.panic c) a w := by exact fun _ _ _ h => h) (hy : YieldsIf P ops S oi v a := by (refine Or.inl ⟨by rfl, ?_⟩; intro w' _; go_simp; with_reducible rfl)) (ha : a.put N v = a' := by (simp only [Act.put, List.setIfInBounds_toArray, List.set_cons_zero, List.set_cons_succ, i64_w, i32_w]; rfl)) : wpAnyLast P md ops Q S ds (fuel + 1) l a w := take_ l' hi hN hc hQ hy hS ha h
theorem tkW2_ {P : Program} {ops : Array Oper} {Q : Exit → Act → World → Prop} {S : World → Prop} {ds : List Nat} {md : Region.Mode} {i : Nat} {N : Option Tmp} {oi : Oper} {v : Value} {fuel : Nat} {l : Array Bool} {a a' : Act} {w : World} (l' : Array Bool) (hi : ops[i]? = some oi) (hN : oi.dst = N) (hS : S w) (h : wpAnyLast P md ops Q S ds fuel l' a' w) (hc : takeB md ops ds l l' i = true := by exact take_ofW HT_.out HW_.out (by kernel_rfl)) (hQ : ∀ c a w, Q (.panic c) (a.put oi.dst v) w → Q (.panic c) a w := by exact fun _ _ _ h => h) (hy : YieldsIf P ops S oi v a := by (refine Or.inl ⟨by rfl, ?_⟩; rintro w' ⟨s0, s1⟩; go_simp; with_reducible rfl)) (ha : a.put N v = a' := by (simp only [Act.put, List.setIfInBounds_toArray, List.set_cons_zero, List.set_cons_succ, i64_w, i32_w]; rfl)) : wpAnyLast P md ops Q S ds (fuel + 1) l a w := take_ l' hi hN hc hQ hy hS ha h
theorem tkW4_ {P : Program} {ops : Array Oper} {Q : Exit → Act → World → Prop} {S : World → Prop} {ds : List Nat} {md : Region.Mode} {i : Nat} {N : Option Tmp} {oi : Oper} {v : Value} {fuel : Nat} {l : Array Bool} {a a' : Act} {w : World} (l' : Array Bool) (hi : ops[i]? = some oi) (hN : oi.dst = N) (hS : S w) (h : wpAnyLast P md ops Q S ds fuel l' a' w) (hc : takeB md ops ds l l' i = true := by exact take_ofW HT_.out HW_.out (by kernel_rfl)) (hQ : ∀ c a w, Q (.panic c) (a.put oi.dst v) w → Q (.panic c) a w := by exact fun _ _ _ h => h) (hy : YieldsIf P ops S oi v a := by (refine Or.inl ⟨by rfl, ?_⟩; rintro w' ⟨s0, s1, s2, s3⟩; go_simp; with_reducible rfl)) (ha : a.put N v = a' := by (simp only [Act.put, List.setIfInBounds_toArray, List.set_cons_zero, List.set_cons_succ, i64_w, i32_w]; rfl)) : wpAnyLast P md ops Q S ds (fuel + 1) l a w := take_ l' hi hN hc hQ hy hS ha h
theorem tkW6_ {P : Program} {ops : Array Oper} {Q : Exit → Act → World → Prop} {S : World → Prop} {ds : List Nat} {md : Region.Mode} {i : Nat} {N : Option Tmp} {oi : Oper} {v : Value} {fuel : Nat} {l : Array Bool} {a a' : Act} {w : World} (l' : Array Bool) (hi : ops[i]? = some oi) (hN : oi.dst = N) (hS : S w) (h : wpAnyLast P md ops Q S ds fuel l' a' w) (hc : takeB md ops ds l l' i = true := by exact take_ofW HT_.out HW_.out (by kernel_rfl)) (hQ : ∀ c a w, Q (.panic c) (a.put oi.dst v) w → Q (.panic c) a w := by exact fun _ _ _ h => h) (hy : YieldsIf P ops S oi v a := by (refine Or.inl ⟨by rfl, ?_⟩; rintro w' ⟨s0, s1, s2, s3, s4, s5⟩; go_simp; with_reducible rfl)) (ha : a.put N v = a' := by (simp only [Act.put, List.setIfInBounds_toArray, List.set_cons_zero, List.set_cons_succ, i64_w, i32_w]; rfl)) : wpAnyLast P md ops Q S ds (fuel + 1) l a w := take_ l' hi hN hc hQ hy hS ha h
theorem tkW8_ {P : Program} {ops : Array Oper} {Q : Exit → Act → World → Prop} {S : World → Prop} {ds : List Nat} {md : Region.Mode} {i : Nat} {N : Option Tmp} {oi : Oper} {v : Value} {fuel : Nat} {l : Array Bool} {a a' : Act} {w : World} (l' : Array Bool) (hi : ops[i]? = some oi) (hN : oi.dst = N) (hS : S w) (h : wpAnyLast P md ops Q S ds fuel l' a' w) (hc : takeB md ops ds l l' i = true := by exact take_ofW HT_.out HW_.out (by kernel_rfl)) (hQ : ∀ c a w, Q (.panic c) (a.put oi.dst v) w → Q (.panic c) a w := by exact fun _ _ _ h => h) (hy : YieldsIf P ops S oi v a := by (refine Or.inl ⟨by rfl, ?_⟩; rintro w' ⟨s0, s1, s2, s3, s4, s5, s6, s7⟩; go_simp; with_reducible rfl)) (ha : a.put N v = a' := by (simp only [Act.put, List.setIfInBounds_toArray, List.set_cons_zero, List.set_cons_succ, i64_w, i32_w]; rfl)) : wpAnyLast P md ops Q S ds (fuel + 1) l a w := take_ l' hi hN hc hQ hy hS ha h
theorem tkW11_ {P : Program} {ops : Array Oper} {Q : Exit → Act → World → Prop} {S : World → Prop} {ds : List Nat} {md : Region.Mode} {i : Nat} {N : Option Tmp} {oi : Oper} {v : Value} {fuel : Nat} {l : Array Bool} {a a' : Act} {w : World} (l' : Array Bool) (hi : ops[i]? = some oi) (hN : oi.dst = N) (hS : S w) (h : wpAnyLast P md ops Q S ds fuel l' a' w) (hc : takeB md ops ds l l' i = true := by exact take_ofW HT_.out HW_.out (by kernel_rfl)) (hQ : ∀ c a w, Q (.panic c) (a.put oi.dst v) w → Q (.panic c) a w := by exact fun _ _ _ h => h) (hy : YieldsIf P ops S oi v a := by (refine Or.inl ⟨by rfl, ?_⟩; rintro w' ⟨s0, s1, s2, s3, s4, s5, s6, s7, s8, s9, s10⟩; go_simp; with_reducible rfl)) (ha : a.put N v = a' := by (simp only [Act.put, List.setIfInBounds_toArray, List.set_cons_zero, List.set_cons_succ, i64_w, i32_w]; rfl)) : wpAnyLast P md ops Q S ds (fuel + 1) l a w := take_ l' hi hN hc hQ hy hS ha h
end Go.Proofs.YtbhfbbfjdklfgaaGreatDoor.Q


/-
  DERIVED: THE SHELF's CONTRACTS AT THIS DUMP, IN PLAIN WORDS (tools/lay-plain.mjs out of 'TryzShelf.lean', which tools/lay-shelf.mjs wrote): THE SAME DECLARATIONS UNDER THE SAME NAMES: 'import', 'namespace', 'open', 'def', 'theorem' AND NOTHING ELSE: no command of the shelf's: FOR A HAND-IN. Each laying: the table of numbers ('.._ren') and one theorem, a field a fact of the dump's own or the kernel's comparison; each contract: ONE APPLICATION.
-/
namespace Go.Proofs
open Go.Shelf
def Tryz.lays119_ren : Go.Shelf.Ren := ⟨fun | 119 => 226 | n => n, fun | 21 => 21 | 4 => 4 | n => n, fun | n => n⟩
theorem Tryz.lays119 : Go.Proofs.Lays.n119 Tryz.prog Tryz.lays119_ren := {
  mixed := by kernel_rfl
  f119 := Tryz.func226.trans (congrArg some (by kernel_rfl))
  t4 := Tryz.underlying4
  a4 := Tryz.isAgg4
  z4 := Tryz.sizeOf4
  v4 := Tryz.zeroValue4
  t21 := Tryz.underlying21
  a21 := Tryz.isAgg21
  z21 := Tryz.sizeOf21
  v21 := Tryz.zeroValue21 }
/-- utf8.ValidRune: "ValidRune reports whether r can be legally encoded as UTF-8. Code points that are out of range or a surrogate half are illegal.": IT RETURNS 'Lib.validRune r'; the world is as it was. (LAID: no walk: one application.) -/
theorem Tryz.utf8_ValidRune (r : Int) (w : World) :
    Calls Tryz.prog 226 #[.int .i32 r] w fun e w' => e = .returned (.bool (Lib.validRune r)) ∧ w' = w := Any.utf8_ValidRune Tryz.lays119 r w
def Tryz.lays137_ren : Go.Shelf.Ren := ⟨fun | 137 => 167 | 217 => 204 | 266 => 235 | n => n, fun | 9 => 9 | 5 => 5 | 3 => 3 | n => n, fun | n => n⟩
theorem Tryz.lays137 : Go.Proofs.Lays.n137 Tryz.prog Tryz.lays137_ren := {
  mixed := by kernel_rfl
  f137 := Tryz.func167.trans (congrArg some (by kernel_rfl))
  f217 := Tryz.func204.trans (congrArg some (by kernel_rfl))
  f266 := Tryz.func235.trans (congrArg some (by kernel_rfl))
  t3 := Tryz.underlying3
  a3 := Tryz.isAgg3
  z3 := Tryz.sizeOf3
  v3 := Tryz.zeroValue3
  t5 := Tryz.underlying5
  a5 := Tryz.isAgg5
  z5 := Tryz.sizeOf5
  v5 := Tryz.zeroValue5
  t9 := Tryz.underlying9
  a9 := Tryz.isAgg9
  z9 := Tryz.sizeOf9
  v9 := Tryz.zeroValue9 }
open Go.RowKit in
/-- strings.IndexByte: "IndexByte returns the index of the first instance of c in s, or -1 if c is not present in s.": IT RETURNS 'Lib.indexByte s c'; the world is as it was. (LAID: no walk: one application.) -/
theorem Tryz.strings_IndexByte (s : ByteArray) (c : Int) (w : World) :
    Calls Tryz.prog 167 #[.string s, .int .u8 c] w fun e w' => e = .returned (.int .i64 (Lib.indexByte s.data.toList c.toNat.toUInt8)) ∧ w' = w := Any.strings_IndexByte Tryz.lays137 s c w
def Tryz.lays210_ren : Go.Shelf.Ren := ⟨fun | 210 => 183 | 206 => 141 | n => n, fun | 9 => 9 | 4 => 4 | 3 => 3 | n => n, fun | n => n⟩
theorem Tryz.lays210 : Go.Proofs.Lays.n210 Tryz.prog Tryz.lays210_ren := {
  mixed := by kernel_rfl
  f206 := Tryz.func141.trans (congrArg some (by kernel_rfl))
  f210 := Tryz.func183.trans (congrArg some (by kernel_rfl))
  t3 := Tryz.underlying3
  a3 := Tryz.isAgg3
  z3 := Tryz.sizeOf3
  v3 := Tryz.zeroValue3
  t4 := Tryz.underlying4
  a4 := Tryz.isAgg4
  z4 := Tryz.sizeOf4
  v4 := Tryz.zeroValue4
  t9 := Tryz.underlying9
  a9 := Tryz.isAgg9
  z9 := Tryz.sizeOf9
  v9 := Tryz.zeroValue9 }
open Go.RowKit in
/-- internal/stringslite.CutPrefix (what strings.CutPrefix calls). (LAID: no walk: one application.) -/
theorem Tryz.stringslite_CutPrefix (s p : ByteArray) (w : World) :
    Calls Tryz.prog 183 #[.string s, .string p] w fun e w' => e = .returned (.tuple #[.string ⟨(Lib.trimPrefix s.data.toList p.data.toList).toArray⟩, .bool (Lib.hasPrefix s.data.toList p.data.toList)]) ∧ w' = w := Any.stringslite_CutPrefix Tryz.lays210 s p w
def Tryz.lays103_ren : Go.Shelf.Ren := ⟨fun | 103 => 142 | 210 => 183 | 206 => 141 | n => n, fun | 9 => 9 | 4 => 4 | 24 => 144 | 3 => 3 | n => n, fun | n => n⟩
theorem Tryz.lays103 : Go.Proofs.Lays.n103 Tryz.prog Tryz.lays103_ren := {
  mixed := by kernel_rfl
  f103 := Tryz.func142.trans (congrArg some (by kernel_rfl))
  f206 := Tryz.func141.trans (congrArg some (by kernel_rfl))
  f210 := Tryz.func183.trans (congrArg some (by kernel_rfl))
  t3 := Tryz.underlying3
  a3 := Tryz.isAgg3
  z3 := Tryz.sizeOf3
  v3 := Tryz.zeroValue3
  t4 := Tryz.underlying4
  a4 := Tryz.isAgg4
  z4 := Tryz.sizeOf4
  v4 := Tryz.zeroValue4
  t9 := Tryz.underlying9
  a9 := Tryz.isAgg9
  z9 := Tryz.sizeOf9
  v9 := Tryz.zeroValue9
  t24 := Tryz.underlying144
  a24 := Tryz.isAgg144
  z24 := Tryz.sizeOf144
  v24 := Tryz.zeroValue144 }
open Go.RowKit in
/-- strings.CutPrefix: "CutPrefix returns s without the provided leading prefix string and reports whether it found the prefix. If s doesn't start with prefix, CutPrefix returns s, false. If prefix is the empty string, CutPrefix returns s, true.": IT RETURNS '(Lib.trimPrefix s p, Lib.hasPrefix s p)'; the world is as it was. (LAID: no walk: one application.) -/
theorem Tryz.strings_CutPrefix (s p : ByteArray) (w : World) :
    Calls Tryz.prog 142 #[.string s, .string p] w fun e w' => e = .returned (.tuple #[.string ⟨(Lib.trimPrefix s.data.toList p.data.toList).toArray⟩, .bool (Lib.hasPrefix s.data.toList p.data.toList)]) ∧ w' = w := Any.strings_CutPrefix Tryz.lays103 s p w
def Tryz.lays172_ren : Go.Shelf.Ren := ⟨fun | 172 => 145 | 244 => 184 | 245 => 185 | 247 => 221 | 279 => 222 | 280 => 223 | 281 => 224 | 282 => 225 | 287 => 243 | 316 => 244 | 171 => 91 | 205 => 245 | 321 => 253 | 322 => 254 | 243 => 147 | 246 => 190 | 283 => 227 | 284 => 228 | 285 => 229 | 286 => 230 | 129 => 217 | 317 => 246 | 318 => 247 | 319 => 248 | 320 => 249 | 337 => 255 | 338 => 256 | n => n, fun | 9 => 9 | 3 => 3 | 75 => 117 | 76 => 118 | 4 => 4 | 5 => 5 | 167 => 195 | 37 => 103 | 0 => 0 | 85 => 196 | 2 => 2 | 168 => 198 | 53 => 193 | 175 => 218 | 46 => 166 | 210 => 221 | 127 => 158 | 145 => 233 | 143 => 231 | 21 => 21 | 171 => 203 | 173 => 205 | 212 => 224 | 51 => 191 | 20 => 20 | 213 => 225 | 232 => 236 | 233 => 237 | 80 => 120 | n => n, fun | 15 => 1 | 16 => 2 | 17 => 3 | 18 => 4 | 19 => 5 | n => n⟩
theorem Tryz.lays172 : Go.Proofs.Lays.n172 Tryz.prog Tryz.lays172_ren := {
  mixed := by kernel_rfl
  f129 := Tryz.func217.trans (congrArg some (by kernel_rfl))
  f171 := Tryz.func91.trans (congrArg some (by kernel_rfl))
  f172 := Tryz.func145.trans (congrArg some (by kernel_rfl))
  f205 := Tryz.func245.trans (congrArg some (by kernel_rfl))
  f243 := Tryz.func147.trans (congrArg some (by kernel_rfl))
  f244 := Tryz.func184.trans (congrArg some (by kernel_rfl))
  f245 := Tryz.func185.trans (congrArg some (by kernel_rfl))
  f246 := Tryz.func190.trans (congrArg some (by kernel_rfl))
  f247 := Tryz.func221.trans (congrArg some (by kernel_rfl))
  f279 := Tryz.func222.trans (congrArg some (by kernel_rfl))
  f280 := Tryz.func223.trans (congrArg some (by kernel_rfl))
  f281 := Tryz.func224.trans (congrArg some (by kernel_rfl))
  f282 := Tryz.func225.trans (congrArg some (by kernel_rfl))
  f283 := Tryz.func227.trans (congrArg some (by kernel_rfl))
  f284 := Tryz.func228.trans (congrArg some (by kernel_rfl))
  f285 := Tryz.func229.trans (congrArg some (by kernel_rfl))
  f286 := Tryz.func230.trans (congrArg some (by kernel_rfl))
  f287 := Tryz.func243.trans (congrArg some (by kernel_rfl))
  f316 := Tryz.func244.trans (congrArg some (by kernel_rfl))
  f317 := Tryz.func246.trans (congrArg some (by kernel_rfl))
  f318 := Tryz.func247.trans (congrArg some (by kernel_rfl))
  f319 := Tryz.func248.trans (congrArg some (by kernel_rfl))
  f320 := Tryz.func249.trans (congrArg some (by kernel_rfl))
  f321 := Tryz.func253.trans (congrArg some (by kernel_rfl))
  f322 := Tryz.func254.trans (congrArg some (by kernel_rfl))
  f337 := Tryz.func255.trans (congrArg some (by kernel_rfl))
  f338 := Tryz.func256.trans (congrArg some (by kernel_rfl))
  t0 := Tryz.underlying0
  a0 := Tryz.isAgg0
  z0 := Tryz.sizeOf0
  v0 := Tryz.zeroValue0
  t2 := Tryz.underlying2
  a2 := Tryz.isAgg2
  z2 := Tryz.sizeOf2
  v2 := Tryz.zeroValue2
  t3 := Tryz.underlying3
  a3 := Tryz.isAgg3
  z3 := Tryz.sizeOf3
  v3 := Tryz.zeroValue3
  t4 := Tryz.underlying4
  a4 := Tryz.isAgg4
  z4 := Tryz.sizeOf4
  v4 := Tryz.zeroValue4
  t5 := Tryz.underlying5
  a5 := Tryz.isAgg5
  z5 := Tryz.sizeOf5
  v5 := Tryz.zeroValue5
  t9 := Tryz.underlying9
  a9 := Tryz.isAgg9
  z9 := Tryz.sizeOf9
  v9 := Tryz.zeroValue9
  t20 := Tryz.underlying20
  a20 := Tryz.isAgg20
  z20 := Tryz.sizeOf20
  v20 := Tryz.zeroValue20
  t21 := Tryz.underlying21
  a21 := Tryz.isAgg21
  z21 := Tryz.sizeOf21
  v21 := Tryz.zeroValue21
  t37 := Tryz.underlying103
  a37 := Tryz.isAgg103
  z37 := Tryz.sizeOf103
  v37 := Tryz.zeroValue103
  t46 := Tryz.underlying166
  a46 := Tryz.isAgg166
  z46 := Tryz.sizeOf166
  v46 := Tryz.zeroValue166
  t51 := Tryz.underlying191
  a51 := Tryz.isAgg191
  z51 := Tryz.sizeOf191
  v51 := Tryz.zeroValue191
  t53 := Tryz.underlying193
  a53 := Tryz.isAgg193
  z53 := Tryz.sizeOf193
  v53 := Tryz.zeroValue193
  t75 := Tryz.underlying117
  a75 := Tryz.isAgg117
  z75 := Tryz.sizeOf117
  v75 := Tryz.zeroValue117
  t76 := Tryz.underlying118
  a76 := Tryz.isAgg118
  z76 := Tryz.sizeOf118
  v76 := Tryz.zeroValue118
  t85 := Tryz.underlying196
  a85 := Tryz.isAgg196
  z85 := Tryz.sizeOf196
  v85 := Tryz.zeroValue196
  t127 := Tryz.underlying158
  a127 := Tryz.isAgg158
  z127 := Tryz.sizeOf158
  v127 := Tryz.zeroValue158
  t143 := Tryz.underlying231
  a143 := Tryz.isAgg231
  z143 := Tryz.sizeOf231
  v143 := Tryz.zeroValue231
  t145 := Tryz.underlying233
  a145 := Tryz.isAgg233
  z145 := Tryz.sizeOf233
  v145 := Tryz.zeroValue233
  t167 := Tryz.underlying195
  a167 := Tryz.isAgg195
  z167 := Tryz.sizeOf195
  v167 := Tryz.zeroValue195
  t168 := Tryz.underlying198
  a168 := Tryz.isAgg198
  z168 := Tryz.sizeOf198
  v168 := Tryz.zeroValue198
  t171 := Tryz.underlying203
  a171 := Tryz.isAgg203
  z171 := Tryz.sizeOf203
  v171 := Tryz.zeroValue203
  t173 := Tryz.underlying205
  a173 := Tryz.isAgg205
  z173 := Tryz.sizeOf205
  v173 := Tryz.zeroValue205
  t175 := Tryz.underlying218
  a175 := Tryz.isAgg218
  z175 := Tryz.sizeOf218
  v175 := Tryz.zeroValue218
  t210 := Tryz.underlying221
  a210 := Tryz.isAgg221
  z210 := Tryz.sizeOf221
  v210 := Tryz.zeroValue221
  t212 := Tryz.underlying224
  a212 := Tryz.isAgg224
  z212 := Tryz.sizeOf224
  v212 := Tryz.zeroValue224
  t213 := Tryz.underlying225
  a213 := Tryz.isAgg225
  z213 := Tryz.sizeOf225
  t232 := Tryz.underlying236
  a232 := Tryz.isAgg236
  z232 := Tryz.sizeOf236
  v232 := Tryz.zeroValue236
  t233 := Tryz.underlying237
  a233 := Tryz.isAgg237
  z233 := Tryz.sizeOf237
  v233 := Tryz.zeroValue237
  g15 := by kernel_rfl
  g16 := by kernel_rfl
  g17 := by kernel_rfl
  g18 := by kernel_rfl
  g19 := by kernel_rfl }
open Go.RowKit in
/-- strconv.Atoi: "Atoi is equivalent to ParseInt(s, 10, 0), converted to type int.": AT A DECIMAL NUMERAL OF AT MOST 18 BYTES: its value, and a nil error. The world behind the call: the one new row that the library's '[]byte(s)' lays. (LAID: no walk: one application.) -/
theorem Tryz.strconv_Atoi (s : ByteArray) (n : Int) (hl : s.size ≤ 18) (h : Lib.atoi s.data.toList = some n) (w : World) :
    Calls Tryz.prog 145 #[.string s] w fun e w' => e = .returned (.tuple #[.int .i64 n, .nilIface]) ∧ ∃ t, w' = Lib.bytesWorld w 5 t := Any.strconv_Atoi Tryz.lays172 s n hl h w
def Tryz.laysM171_ren : Go.Shelf.Ren := ⟨fun | 171 => 91 | 243 => 147 | 246 => 190 | 283 => 227 | 284 => 228 | 285 => 229 | 286 => 230 | 129 => 217 | 317 => 246 | 318 => 247 | 319 => 248 | 320 => 249 | 337 => 255 | 338 => 256 | n => n, fun | 3 => 3 | 9 => 9 | 2 => 2 | 4 => 4 | 171 => 203 | 0 => 0 | 53 => 193 | 37 => 103 | 5 => 5 | 173 => 205 | 212 => 224 | 51 => 191 | 20 => 20 | 213 => 225 | 46 => 166 | 232 => 236 | 233 => 237 | n => n, fun | 17 => 3 | 18 => 4 | 19 => 5 | n => n⟩
theorem Tryz.laysM171 : Go.Proofs.LaysM.n171 Tryz.prog Tryz.laysM171_ren := {
  mixed := by kernel_rfl
  f129 := Tryz.func217.trans (congrArg some (by kernel_rfl))
  f171 := Tryz.func91.trans (congrArg some (by kernel_rfl))
  f243 := Tryz.func147.trans (congrArg some (by kernel_rfl))
  f246 := Tryz.func190.trans (congrArg some (by kernel_rfl))
  f283 := Tryz.func227.trans (congrArg some (by kernel_rfl))
  f284 := Tryz.func228.trans (congrArg some (by kernel_rfl))
  f285 := Tryz.func229.trans (congrArg some (by kernel_rfl))
  f286 := Tryz.func230.trans (congrArg some (by kernel_rfl))
  f317 := Tryz.func246.trans (congrArg some (by kernel_rfl))
  f318 := Tryz.func247.trans (congrArg some (by kernel_rfl))
  f319 := Tryz.func248.trans (congrArg some (by kernel_rfl))
  f320 := Tryz.func249.trans (congrArg some (by kernel_rfl))
  f337 := Tryz.func255.trans (congrArg some (by kernel_rfl))
  f338 := Tryz.func256.trans (congrArg some (by kernel_rfl))
  t0 := Tryz.underlying0
  a0 := Tryz.isAgg0
  z0 := Tryz.sizeOf0
  v0 := Tryz.zeroValue0
  t2 := Tryz.underlying2
  a2 := Tryz.isAgg2
  z2 := Tryz.sizeOf2
  v2 := Tryz.zeroValue2
  t3 := Tryz.underlying3
  a3 := Tryz.isAgg3
  z3 := Tryz.sizeOf3
  v3 := Tryz.zeroValue3
  t4 := Tryz.underlying4
  a4 := Tryz.isAgg4
  z4 := Tryz.sizeOf4
  v4 := Tryz.zeroValue4
  t5 := Tryz.underlying5
  a5 := Tryz.isAgg5
  z5 := Tryz.sizeOf5
  v5 := Tryz.zeroValue5
  t9 := Tryz.underlying9
  a9 := Tryz.isAgg9
  z9 := Tryz.sizeOf9
  v9 := Tryz.zeroValue9
  t20 := Tryz.underlying20
  a20 := Tryz.isAgg20
  z20 := Tryz.sizeOf20
  v20 := Tryz.zeroValue20
  t37 := Tryz.underlying103
  a37 := Tryz.isAgg103
  z37 := Tryz.sizeOf103
  v37 := Tryz.zeroValue103
  t46 := Tryz.underlying166
  a46 := Tryz.isAgg166
  z46 := Tryz.sizeOf166
  v46 := Tryz.zeroValue166
  t51 := Tryz.underlying191
  a51 := Tryz.isAgg191
  z51 := Tryz.sizeOf191
  v51 := Tryz.zeroValue191
  t53 := Tryz.underlying193
  a53 := Tryz.isAgg193
  z53 := Tryz.sizeOf193
  v53 := Tryz.zeroValue193
  t171 := Tryz.underlying203
  a171 := Tryz.isAgg203
  z171 := Tryz.sizeOf203
  v171 := Tryz.zeroValue203
  t173 := Tryz.underlying205
  a173 := Tryz.isAgg205
  z173 := Tryz.sizeOf205
  v173 := Tryz.zeroValue205
  t212 := Tryz.underlying224
  a212 := Tryz.isAgg224
  z212 := Tryz.sizeOf224
  v212 := Tryz.zeroValue224
  t213 := Tryz.underlying225
  a213 := Tryz.isAgg225
  z213 := Tryz.sizeOf225
  t232 := Tryz.underlying236
  a232 := Tryz.isAgg236
  z232 := Tryz.sizeOf236
  v232 := Tryz.zeroValue236
  t233 := Tryz.underlying237
  a233 := Tryz.isAgg237
  z233 := Tryz.sizeOf237
  v233 := Tryz.zeroValue237
  g17 := by kernel_rfl
  g18 := by kernel_rfl
  g19 := by kernel_rfl
  i0 := by kernel_rfl
  i2 := by kernel_rfl
  i3 := by kernel_rfl
  i4 := by kernel_rfl
  i5 := by kernel_rfl
  i9 := by kernel_rfl
  i20 := by kernel_rfl
  i37 := by kernel_rfl
  i46 := by kernel_rfl
  i51 := by kernel_rfl
  i53 := by kernel_rfl
  i171 := by kernel_rfl
  i173 := by kernel_rfl
  i212 := by kernel_rfl
  i232 := by kernel_rfl
  i233 := by kernel_rfl
  m17 := by kernel_rfl
  m18 := by kernel_rfl
  m19 := by kernel_rfl }
open Go.RowKit Go.Sort Go.Lib in
/-- strconv.Itoa: "Itoa is equivalent to FormatInt(int64(i), 10).": i's DECIMAL NUMERAL ('Lib.itoa': a '-' where i is negative, then the digits), FOR EVERY int. The world behind the call: the world before it, new blocks behind the heap (the library's 'var a [24]byte'), draws. (LAID: no walk: one application.) -/
theorem Tryz.strconv_Itoa (n : Int) (h0 : -9223372036854775808 ≤ n) (h1 : n ≤ 9223372036854775807) (w : World) (htab : Lib.TabIs Tryz.prog w "internal/strconv.uint64pow10" .u64 Lib.pow10Tab) :
    Calls Tryz.prog 91 #[.int .i64 n] w fun e w' => e = .returned (.string ⟨(Lib.itoa n).toArray⟩) ∧ ∃ k os, w' = grow (w.drewN k) os := Any.strconv_Itoa Tryz.laysM171 n h0 h1 w htab
def Tryz.lays143_ren : Go.Shelf.Ren := ⟨fun | 143 => 140 | 219 => 182 | 217 => 204 | 225 => 218 | 224 => 219 | 267 => 220 | 266 => 235 | 314 => 242 | n => n, fun | 9 => 9 | 3 => 3 | 4 => 4 | 5 => 5 | 46 => 166 | 146 => 216 | 51 => 191 | n => n, fun | 1 => 0 | n => n⟩
theorem Tryz.lays143 : Go.Proofs.Lays.n143 Tryz.prog Tryz.lays143_ren := {
  mixed := by kernel_rfl
  f143 := Tryz.func140.trans (congrArg some (by kernel_rfl))
  f217 := Tryz.func204.trans (congrArg some (by kernel_rfl))
  f219 := Tryz.func182.trans (congrArg some (by kernel_rfl))
  f224 := Tryz.func219.trans (congrArg some (by kernel_rfl))
  f225 := Tryz.func218.trans (congrArg some (by kernel_rfl))
  f266 := Tryz.func235.trans (congrArg some (by kernel_rfl))
  f267 := Tryz.func220.trans (congrArg some (by kernel_rfl))
  f314 := Tryz.func242.trans (congrArg some (by kernel_rfl))
  t3 := Tryz.underlying3
  a3 := Tryz.isAgg3
  z3 := Tryz.sizeOf3
  v3 := Tryz.zeroValue3
  t4 := Tryz.underlying4
  a4 := Tryz.isAgg4
  z4 := Tryz.sizeOf4
  v4 := Tryz.zeroValue4
  t5 := Tryz.underlying5
  a5 := Tryz.isAgg5
  z5 := Tryz.sizeOf5
  v5 := Tryz.zeroValue5
  t9 := Tryz.underlying9
  a9 := Tryz.isAgg9
  z9 := Tryz.sizeOf9
  v9 := Tryz.zeroValue9
  t46 := Tryz.underlying166
  a46 := Tryz.isAgg166
  z46 := Tryz.sizeOf166
  v46 := Tryz.zeroValue166
  t51 := Tryz.underlying191
  a51 := Tryz.isAgg191
  z51 := Tryz.sizeOf191
  v51 := Tryz.zeroValue191
  t146 := Tryz.underlying216
  a146 := Tryz.isAgg216
  z146 := Tryz.sizeOf216
  v146 := Tryz.zeroValue216
  g1 := by kernel_rfl }
open Go.RowKit Go.Lib in
/-- strings.Index: "Index returns the index of the first instance of substr in s, or -1 if substr is not present in s.": AT A substr OF ONE BYTE c: IT RETURNS 'Lib.indexByte s c'; the world is as it was. (LAID: no walk: one application.) -/
theorem Tryz.strings_Index_one (s : ByteArray) (c : UInt8) (w : World) :
    Calls Tryz.prog 140 #[.string s, .string ⟨#[c]⟩] w fun e w' => e = .returned (.int .i64 (Lib.indexByte s.data.toList c)) ∧ w' = w := Any.strings_Index_one Tryz.lays143 s c w
def Tryz.lays144_ren : Go.Shelf.Ren := ⟨fun | 144 => 68 | 143 => 140 | 219 => 182 | 217 => 204 | 225 => 218 | 224 => 219 | 267 => 220 | 266 => 235 | 314 => 242 | n => n, fun | 9 => 9 | 4 => 4 | 3 => 3 | 5 => 5 | 46 => 166 | 146 => 216 | 51 => 191 | n => n, fun | 1 => 0 | n => n⟩
theorem Tryz.lays144 : Go.Proofs.Lays.n144 Tryz.prog Tryz.lays144_ren := {
  mixed := by kernel_rfl
  f143 := Tryz.func140.trans (congrArg some (by kernel_rfl))
  f144 := Tryz.func68.trans (congrArg some (by kernel_rfl))
  f217 := Tryz.func204.trans (congrArg some (by kernel_rfl))
  f219 := Tryz.func182.trans (congrArg some (by kernel_rfl))
  f224 := Tryz.func219.trans (congrArg some (by kernel_rfl))
  f225 := Tryz.func218.trans (congrArg some (by kernel_rfl))
  f266 := Tryz.func235.trans (congrArg some (by kernel_rfl))
  f267 := Tryz.func220.trans (congrArg some (by kernel_rfl))
  f314 := Tryz.func242.trans (congrArg some (by kernel_rfl))
  t3 := Tryz.underlying3
  a3 := Tryz.isAgg3
  z3 := Tryz.sizeOf3
  v3 := Tryz.zeroValue3
  t4 := Tryz.underlying4
  a4 := Tryz.isAgg4
  z4 := Tryz.sizeOf4
  v4 := Tryz.zeroValue4
  t5 := Tryz.underlying5
  a5 := Tryz.isAgg5
  z5 := Tryz.sizeOf5
  v5 := Tryz.zeroValue5
  t9 := Tryz.underlying9
  a9 := Tryz.isAgg9
  z9 := Tryz.sizeOf9
  v9 := Tryz.zeroValue9
  t46 := Tryz.underlying166
  a46 := Tryz.isAgg166
  z46 := Tryz.sizeOf166
  v46 := Tryz.zeroValue166
  t51 := Tryz.underlying191
  a51 := Tryz.isAgg191
  z51 := Tryz.sizeOf191
  v51 := Tryz.zeroValue191
  t146 := Tryz.underlying216
  a146 := Tryz.isAgg216
  z146 := Tryz.sizeOf216
  v146 := Tryz.zeroValue216
  g1 := by kernel_rfl }
open Go.RowKit Go.Lib in
/-- strings.Contains: "Contains reports whether substr is within s.": IT RETURNS 'Lib.contains s substr'; the world is as it was. (LAID: no walk: one application.) -/
theorem Tryz.strings_Contains (s sub : ByteArray) (m : Int) (w : World) (hs : s.size < 4294967281) (hm : w.cell? ⟨0, 0, none⟩ = some (.int .i64 m)) :
    Calls Tryz.prog 68 #[.string s, .string sub] w fun e w' => e = .returned (.bool (Lib.contains s.data.toList sub.data.toList)) ∧ w' = w := Any.strings_Contains Tryz.lays144 s sub m w hs hm
def Tryz.lays145_ren : Go.Shelf.Ren := ⟨fun | 145 => 82 | 220 => 144 | 219 => 182 | 217 => 204 | 225 => 218 | 224 => 219 | 267 => 220 | 266 => 235 | 314 => 242 | n => n, fun | 9 => 9 | 4 => 4 | 59 => 97 | 3 => 3 | 5 => 5 | 46 => 166 | 146 => 216 | 51 => 191 | n => n, fun | 1 => 0 | n => n⟩
theorem Tryz.lays145 : Go.Proofs.Lays.n145 Tryz.prog Tryz.lays145_ren := {
  mixed := by kernel_rfl
  f145 := Tryz.func82.trans (congrArg some (by kernel_rfl))
  f217 := Tryz.func204.trans (congrArg some (by kernel_rfl))
  f219 := Tryz.func182.trans (congrArg some (by kernel_rfl))
  f220 := Tryz.func144.trans (congrArg some (by kernel_rfl))
  f224 := Tryz.func219.trans (congrArg some (by kernel_rfl))
  f225 := Tryz.func218.trans (congrArg some (by kernel_rfl))
  f266 := Tryz.func235.trans (congrArg some (by kernel_rfl))
  f267 := Tryz.func220.trans (congrArg some (by kernel_rfl))
  f314 := Tryz.func242.trans (congrArg some (by kernel_rfl))
  t3 := Tryz.underlying3
  a3 := Tryz.isAgg3
  z3 := Tryz.sizeOf3
  v3 := Tryz.zeroValue3
  t4 := Tryz.underlying4
  a4 := Tryz.isAgg4
  z4 := Tryz.sizeOf4
  v4 := Tryz.zeroValue4
  t5 := Tryz.underlying5
  a5 := Tryz.isAgg5
  z5 := Tryz.sizeOf5
  v5 := Tryz.zeroValue5
  t9 := Tryz.underlying9
  a9 := Tryz.isAgg9
  z9 := Tryz.sizeOf9
  v9 := Tryz.zeroValue9
  t46 := Tryz.underlying166
  a46 := Tryz.isAgg166
  z46 := Tryz.sizeOf166
  v46 := Tryz.zeroValue166
  t51 := Tryz.underlying191
  a51 := Tryz.isAgg191
  z51 := Tryz.sizeOf191
  v51 := Tryz.zeroValue191
  t59 := Tryz.underlying97
  a59 := Tryz.isAgg97
  z59 := Tryz.sizeOf97
  v59 := Tryz.zeroValue97
  t146 := Tryz.underlying216
  a146 := Tryz.isAgg216
  z146 := Tryz.sizeOf216
  v146 := Tryz.zeroValue216
  g1 := by kernel_rfl }
open Go.RowKit Go.Lib in
/-- strings.Cut: "Cut slices s around the first instance of sep, returning the text before and after sep. The found result reports whether sep appears in s. If sep does not appear in s, cut returns s, "", false.": IT RETURNS 'Lib.cut s sep'; the world is as it was but for the count of draws. (LAID: no walk: one application.) -/
theorem Tryz.strings_Cut (s sep : ByteArray) (m : Int) (w : World) (hs : s.size < 4294967281) (hm : w.cell? ⟨0, 0, none⟩ = some (.int .i64 m)) :
    Calls Tryz.prog 82 #[.string s, .string sep] w fun e w' => e = .returned (.tuple #[.string ⟨(Lib.cut s.data.toList sep.data.toList).1.toArray⟩, .string ⟨(Lib.cut s.data.toList sep.data.toList).2.1.toArray⟩, .bool (Lib.cut s.data.toList sep.data.toList).2.2]) ∧ ∃ n, w' = w.drewN n := Any.strings_Cut Tryz.lays145 s sep m w hs hm
def Tryz.lays138_ren : Go.Shelf.Ren := ⟨fun | 138 => 251 | 195 => 257 | 218 => 259 | 143 => 140 | 219 => 182 | 217 => 204 | 225 => 218 | 224 => 219 | 267 => 220 | 266 => 235 | 314 => 242 | n => n, fun | 9 => 9 | 3 => 3 | 4 => 4 | 5 => 5 | 0 => 0 | 46 => 166 | 146 => 216 | 51 => 191 | n => n, fun | 1 => 0 | n => n⟩
theorem Tryz.lays138 : Go.Proofs.Lays.n138 Tryz.prog Tryz.lays138_ren := {
  mixed := by kernel_rfl
  f138 := Tryz.func251.trans (congrArg some (by kernel_rfl))
  f143 := Tryz.func140.trans (congrArg some (by kernel_rfl))
  f195 := Tryz.func257.trans (congrArg some (by kernel_rfl))
  f217 := Tryz.func204.trans (congrArg some (by kernel_rfl))
  f218 := Tryz.func259.trans (congrArg some (by kernel_rfl))
  f219 := Tryz.func182.trans (congrArg some (by kernel_rfl))
  f224 := Tryz.func219.trans (congrArg some (by kernel_rfl))
  f225 := Tryz.func218.trans (congrArg some (by kernel_rfl))
  f266 := Tryz.func235.trans (congrArg some (by kernel_rfl))
  f267 := Tryz.func220.trans (congrArg some (by kernel_rfl))
  f314 := Tryz.func242.trans (congrArg some (by kernel_rfl))
  t0 := Tryz.underlying0
  a0 := Tryz.isAgg0
  z0 := Tryz.sizeOf0
  v0 := Tryz.zeroValue0
  t3 := Tryz.underlying3
  a3 := Tryz.isAgg3
  z3 := Tryz.sizeOf3
  v3 := Tryz.zeroValue3
  t4 := Tryz.underlying4
  a4 := Tryz.isAgg4
  z4 := Tryz.sizeOf4
  v4 := Tryz.zeroValue4
  t5 := Tryz.underlying5
  a5 := Tryz.isAgg5
  z5 := Tryz.sizeOf5
  v5 := Tryz.zeroValue5
  t9 := Tryz.underlying9
  a9 := Tryz.isAgg9
  z9 := Tryz.sizeOf9
  v9 := Tryz.zeroValue9
  t46 := Tryz.underlying166
  a46 := Tryz.isAgg166
  z46 := Tryz.sizeOf166
  v46 := Tryz.zeroValue166
  t51 := Tryz.underlying191
  a51 := Tryz.isAgg191
  z51 := Tryz.sizeOf191
  v51 := Tryz.zeroValue191
  t146 := Tryz.underlying216
  a146 := Tryz.isAgg216
  z146 := Tryz.sizeOf216
  v146 := Tryz.zeroValue216
  g1 := by kernel_rfl }
open Go.RowKit Go.Lib in
/-- strings.Count AT A substr OF ONE BYTE ('hp'): "Count counts the number of non-overlapping instances of substr in s.": IT RETURNS 'Lib.countByte s (that byte)'; the world is as it was. ✋ NO CONTRACT HERE YET at an empty substr (utf8.RuneCountInString) or at a longer one (a loop over strings.Index). (LAID: no walk: one application.) -/
theorem Tryz.strings_Count_one (s : ByteArray) (c : UInt8) (w : World) :
    Calls Tryz.prog 251 #[.string s, .string ⟨#[c]⟩] w fun e w' => e = .returned (.int .i64 (Lib.countByte s.data.toList c)) ∧ w' = w := Any.strings_Count_one Tryz.lays138 s c w
def Tryz.laysM144_ren : Go.Shelf.Ren := ⟨fun | 144 => 68 | 143 => 140 | 219 => 182 | 217 => 204 | 225 => 218 | 224 => 219 | 267 => 220 | 266 => 235 | 314 => 242 | n => n, fun | 9 => 9 | 4 => 4 | 3 => 3 | 5 => 5 | 46 => 166 | 146 => 216 | 51 => 191 | n => n, fun | 1 => 0 | n => n⟩
theorem Tryz.laysM144 : Go.Proofs.LaysM.n144 Tryz.prog Tryz.laysM144_ren := {
  mixed := by kernel_rfl
  f143 := Tryz.func140.trans (congrArg some (by kernel_rfl))
  f144 := Tryz.func68.trans (congrArg some (by kernel_rfl))
  f217 := Tryz.func204.trans (congrArg some (by kernel_rfl))
  f219 := Tryz.func182.trans (congrArg some (by kernel_rfl))
  f224 := Tryz.func219.trans (congrArg some (by kernel_rfl))
  f225 := Tryz.func218.trans (congrArg some (by kernel_rfl))
  f266 := Tryz.func235.trans (congrArg some (by kernel_rfl))
  f267 := Tryz.func220.trans (congrArg some (by kernel_rfl))
  f314 := Tryz.func242.trans (congrArg some (by kernel_rfl))
  t3 := Tryz.underlying3
  a3 := Tryz.isAgg3
  z3 := Tryz.sizeOf3
  v3 := Tryz.zeroValue3
  t4 := Tryz.underlying4
  a4 := Tryz.isAgg4
  z4 := Tryz.sizeOf4
  v4 := Tryz.zeroValue4
  t5 := Tryz.underlying5
  a5 := Tryz.isAgg5
  z5 := Tryz.sizeOf5
  v5 := Tryz.zeroValue5
  t9 := Tryz.underlying9
  a9 := Tryz.isAgg9
  z9 := Tryz.sizeOf9
  v9 := Tryz.zeroValue9
  t46 := Tryz.underlying166
  a46 := Tryz.isAgg166
  z46 := Tryz.sizeOf166
  v46 := Tryz.zeroValue166
  t51 := Tryz.underlying191
  a51 := Tryz.isAgg191
  z51 := Tryz.sizeOf191
  v51 := Tryz.zeroValue191
  t146 := Tryz.underlying216
  a146 := Tryz.isAgg216
  z146 := Tryz.sizeOf216
  v146 := Tryz.zeroValue216
  g1 := by kernel_rfl
  i3 := by kernel_rfl
  i4 := by kernel_rfl
  i5 := by kernel_rfl
  i9 := by kernel_rfl
  i46 := by kernel_rfl
  i51 := by kernel_rfl
  i146 := by kernel_rfl
  m1 := by kernel_rfl
  s1_3 := fun w h => Go.Proofs.cell_of_shapedOpen_int (zero := #[.int .i64 0]) (t := 3) h (of_decide_eq_true (by kernel_rfl)) (by kernel_rfl) rfl (by kernel_rfl) (by kernel_rfl) Tryz.underlying3 }
def Tryz.lays206_ren : Go.Shelf.Ren := ⟨fun | 206 => 141 | n => n, fun | 9 => 9 | 4 => 4 | 3 => 3 | n => n, fun | n => n⟩
theorem Tryz.lays206 : Go.Proofs.Lays.n206 Tryz.prog Tryz.lays206_ren := {
  mixed := by kernel_rfl
  f206 := Tryz.func141.trans (congrArg some (by kernel_rfl))
  t3 := Tryz.underlying3
  a3 := Tryz.isAgg3
  z3 := Tryz.sizeOf3
  v3 := Tryz.zeroValue3
  t4 := Tryz.underlying4
  a4 := Tryz.isAgg4
  z4 := Tryz.sizeOf4
  v4 := Tryz.zeroValue4
  t9 := Tryz.underlying9
  a9 := Tryz.isAgg9
  z9 := Tryz.sizeOf9
  v9 := Tryz.zeroValue9 }
open Go.RowKit Go.Lib in
/-- internal/stringslite.HasPrefix (what strings.HasPrefix calls). (LAID: no walk: one application.) -/
theorem Tryz.stringslite_HasPrefix (s p : ByteArray) (w : World) :
    Calls Tryz.prog 141 #[.string s, .string p] w fun e w' => e = .returned (.bool (Lib.hasPrefix s.data.toList p.data.toList)) ∧ w' = w := Any.stringslite_HasPrefix Tryz.lays206 s p w
def Tryz.lays99_ren : Go.Shelf.Ren := ⟨fun | 99 => 71 | 206 => 141 | n => n, fun | 9 => 9 | 4 => 4 | 3 => 3 | n => n, fun | n => n⟩
theorem Tryz.lays99 : Go.Proofs.Lays.n99 Tryz.prog Tryz.lays99_ren := {
  mixed := by kernel_rfl
  f99 := Tryz.func71.trans (congrArg some (by kernel_rfl))
  f206 := Tryz.func141.trans (congrArg some (by kernel_rfl))
  t3 := Tryz.underlying3
  a3 := Tryz.isAgg3
  z3 := Tryz.sizeOf3
  v3 := Tryz.zeroValue3
  t4 := Tryz.underlying4
  a4 := Tryz.isAgg4
  z4 := Tryz.sizeOf4
  v4 := Tryz.zeroValue4
  t9 := Tryz.underlying9
  a9 := Tryz.isAgg9
  z9 := Tryz.sizeOf9
  v9 := Tryz.zeroValue9 }
open Go.RowKit Go.Lib in
/-- strings.HasPrefix: "HasPrefix reports whether the string s begins with prefix.": IT RETURNS 'Lib.hasPrefix s prefix'; the world is as it was. (LAID: no walk: one application.) -/
theorem Tryz.strings_HasPrefix (s p : ByteArray) (w : World) :
    Calls Tryz.prog 71 #[.string s, .string p] w fun e w' => e = .returned (.bool (Lib.hasPrefix s.data.toList p.data.toList)) ∧ w' = w := Any.strings_HasPrefix Tryz.lays99 s p w
def Tryz.lays221_ren : Go.Shelf.Ren := ⟨fun | 221 => 234 | 268 => 250 | 138 => 251 | 143 => 140 | 195 => 257 | 197 => 258 | 218 => 259 | 219 => 182 | 260 => 260 | 217 => 204 | 225 => 218 | 224 => 219 | 267 => 220 | 266 => 235 | 314 => 242 | n => n, fun | 9 => 9 | 3 => 3 | 31 => 22 | 4 => 4 | 0 => 0 | 105 => 234 | 21 => 21 | 5 => 5 | 46 => 166 | 119 => 238 | 139 => 241 | 138 => 240 | 146 => 216 | 51 => 191 | n => n, fun | 1 => 0 | 3 => 6 | 4 => 7 | n => n⟩
theorem Tryz.lays221 : Go.Proofs.Lays.n221 Tryz.prog Tryz.lays221_ren := {
  mixed := by kernel_rfl
  f138 := Tryz.func251.trans (congrArg some (by kernel_rfl))
  f143 := Tryz.func140.trans (congrArg some (by kernel_rfl))
  f195 := Tryz.func257.trans (congrArg some (by kernel_rfl))
  f197 := Tryz.func258.trans (congrArg some (by kernel_rfl))
  f217 := Tryz.func204.trans (congrArg some (by kernel_rfl))
  f218 := Tryz.func259.trans (congrArg some (by kernel_rfl))
  f219 := Tryz.func182.trans (congrArg some (by kernel_rfl))
  f221 := Tryz.func234.trans (congrArg some (by kernel_rfl))
  f224 := Tryz.func219.trans (congrArg some (by kernel_rfl))
  f225 := Tryz.func218.trans (congrArg some (by kernel_rfl))
  f260 := Tryz.func260.trans (congrArg some (by kernel_rfl))
  f266 := Tryz.func235.trans (congrArg some (by kernel_rfl))
  f267 := Tryz.func220.trans (congrArg some (by kernel_rfl))
  f268 := Tryz.func250.trans (congrArg some (by kernel_rfl))
  f314 := Tryz.func242.trans (congrArg some (by kernel_rfl))
  t0 := Tryz.underlying0
  a0 := Tryz.isAgg0
  z0 := Tryz.sizeOf0
  v0 := Tryz.zeroValue0
  t3 := Tryz.underlying3
  a3 := Tryz.isAgg3
  z3 := Tryz.sizeOf3
  v3 := Tryz.zeroValue3
  t4 := Tryz.underlying4
  a4 := Tryz.isAgg4
  z4 := Tryz.sizeOf4
  v4 := Tryz.zeroValue4
  t5 := Tryz.underlying5
  a5 := Tryz.isAgg5
  z5 := Tryz.sizeOf5
  v5 := Tryz.zeroValue5
  t9 := Tryz.underlying9
  a9 := Tryz.isAgg9
  z9 := Tryz.sizeOf9
  v9 := Tryz.zeroValue9
  t21 := Tryz.underlying21
  a21 := Tryz.isAgg21
  z21 := Tryz.sizeOf21
  v21 := Tryz.zeroValue21
  t31 := Tryz.underlying22
  a31 := Tryz.isAgg22
  z31 := Tryz.sizeOf22
  v31 := Tryz.zeroValue22
  t46 := Tryz.underlying166
  a46 := Tryz.isAgg166
  z46 := Tryz.sizeOf166
  v46 := Tryz.zeroValue166
  t51 := Tryz.underlying191
  a51 := Tryz.isAgg191
  z51 := Tryz.sizeOf191
  v51 := Tryz.zeroValue191
  t105 := Tryz.underlying234
  a105 := Tryz.isAgg234
  z105 := Tryz.sizeOf234
  v105 := Tryz.zeroValue234
  t119 := Tryz.underlying238
  a119 := Tryz.isAgg238
  z119 := Tryz.sizeOf238
  t138 := Tryz.underlying240
  a138 := Tryz.isAgg240
  z138 := Tryz.sizeOf240
  v138 := Tryz.zeroValue240
  t139 := Tryz.underlying241
  a139 := Tryz.isAgg241
  z139 := Tryz.sizeOf241
  v139 := Tryz.zeroValue241
  t146 := Tryz.underlying216
  a146 := Tryz.isAgg216
  z146 := Tryz.sizeOf216
  v146 := Tryz.zeroValue216
  g1 := by kernel_rfl
  g3 := by kernel_rfl
  g4 := by kernel_rfl }
def Tryz.lays146_ren : Go.Shelf.Ren := ⟨fun | 146 => 200 | 221 => 234 | 268 => 250 | 138 => 251 | 143 => 140 | 195 => 257 | 197 => 258 | 218 => 259 | 219 => 182 | 260 => 260 | 217 => 204 | 225 => 218 | 224 => 219 | 267 => 220 | 266 => 235 | 314 => 242 | n => n, fun | 9 => 9 | 31 => 22 | 3 => 3 | 4 => 4 | 0 => 0 | 105 => 234 | 21 => 21 | 5 => 5 | 46 => 166 | 119 => 238 | 139 => 241 | 138 => 240 | 146 => 216 | 51 => 191 | n => n, fun | 1 => 0 | 3 => 6 | 4 => 7 | n => n⟩
theorem Tryz.lays146 : Go.Proofs.Lays.n146 Tryz.prog Tryz.lays146_ren := {
  mixed := by kernel_rfl
  f138 := Tryz.func251.trans (congrArg some (by kernel_rfl))
  f143 := Tryz.func140.trans (congrArg some (by kernel_rfl))
  f146 := Tryz.func200.trans (congrArg some (by kernel_rfl))
  f195 := Tryz.func257.trans (congrArg some (by kernel_rfl))
  f197 := Tryz.func258.trans (congrArg some (by kernel_rfl))
  f217 := Tryz.func204.trans (congrArg some (by kernel_rfl))
  f218 := Tryz.func259.trans (congrArg some (by kernel_rfl))
  f219 := Tryz.func182.trans (congrArg some (by kernel_rfl))
  f221 := Tryz.func234.trans (congrArg some (by kernel_rfl))
  f224 := Tryz.func219.trans (congrArg some (by kernel_rfl))
  f225 := Tryz.func218.trans (congrArg some (by kernel_rfl))
  f260 := Tryz.func260.trans (congrArg some (by kernel_rfl))
  f266 := Tryz.func235.trans (congrArg some (by kernel_rfl))
  f267 := Tryz.func220.trans (congrArg some (by kernel_rfl))
  f268 := Tryz.func250.trans (congrArg some (by kernel_rfl))
  f314 := Tryz.func242.trans (congrArg some (by kernel_rfl))
  t0 := Tryz.underlying0
  a0 := Tryz.isAgg0
  z0 := Tryz.sizeOf0
  v0 := Tryz.zeroValue0
  t3 := Tryz.underlying3
  a3 := Tryz.isAgg3
  z3 := Tryz.sizeOf3
  v3 := Tryz.zeroValue3
  t4 := Tryz.underlying4
  a4 := Tryz.isAgg4
  z4 := Tryz.sizeOf4
  v4 := Tryz.zeroValue4
  t5 := Tryz.underlying5
  a5 := Tryz.isAgg5
  z5 := Tryz.sizeOf5
  v5 := Tryz.zeroValue5
  t9 := Tryz.underlying9
  a9 := Tryz.isAgg9
  z9 := Tryz.sizeOf9
  v9 := Tryz.zeroValue9
  t21 := Tryz.underlying21
  a21 := Tryz.isAgg21
  z21 := Tryz.sizeOf21
  v21 := Tryz.zeroValue21
  t31 := Tryz.underlying22
  a31 := Tryz.isAgg22
  z31 := Tryz.sizeOf22
  v31 := Tryz.zeroValue22
  t46 := Tryz.underlying166
  a46 := Tryz.isAgg166
  z46 := Tryz.sizeOf166
  v46 := Tryz.zeroValue166
  t51 := Tryz.underlying191
  a51 := Tryz.isAgg191
  z51 := Tryz.sizeOf191
  v51 := Tryz.zeroValue191
  t105 := Tryz.underlying234
  a105 := Tryz.isAgg234
  z105 := Tryz.sizeOf234
  v105 := Tryz.zeroValue234
  t119 := Tryz.underlying238
  a119 := Tryz.isAgg238
  z119 := Tryz.sizeOf238
  t138 := Tryz.underlying240
  a138 := Tryz.isAgg240
  z138 := Tryz.sizeOf240
  v138 := Tryz.zeroValue240
  t139 := Tryz.underlying241
  a139 := Tryz.isAgg241
  z139 := Tryz.sizeOf241
  v139 := Tryz.zeroValue241
  t146 := Tryz.underlying216
  a146 := Tryz.isAgg216
  z146 := Tryz.sizeOf216
  v146 := Tryz.zeroValue216
  g1 := by kernel_rfl
  g3 := by kernel_rfl
  g4 := by kernel_rfl }
open Go.RowKit Go.Lib in
/-- strings.Split. (LAID: no walk: one application.) -/
theorem Tryz.strings_Split (s sep : ByteArray) (m : Int) (w : World) (hs : s.size < 4294967281) (hm : w.cell? ⟨0, 0, none⟩ = some (.int .i64 m)) (h1 : 1 ≤ sep.size) :
    Calls Tryz.prog 200 #[.string s, .string sep] w fun e w' =>
      e = .returned (.slice (some ⟨w.heap.size, 0, none⟩) (Lib.countB s sep + 1) (Lib.countB s sep + 1)) ∧ w' = w.alloc (.cells ((Lib.splitB sep 0 (Lib.countB s sep) s).map Value.string).toArray 9) := Any.strings_Split Tryz.lays146 (by kernel_rfl) s sep m w hs hm h1
def Tryz.lays152_ren : Go.Shelf.Ren := ⟨fun | 152 => 186 | 137 => 167 | 119 => 226 | 224 => 219 | 225 => 218 | 217 => 204 | 266 => 235 | n => n, fun | 9 => 9 | 21 => 21 | 3 => 3 | 4 => 4 | 5 => 5 | 0 => 0 | 46 => 166 | n => n, fun | n => n⟩
theorem Tryz.lays152 : Go.Proofs.Lays.n152 Tryz.prog Tryz.lays152_ren := {
  mixed := by kernel_rfl
  f119 := Tryz.func226.trans (congrArg some (by kernel_rfl))
  f137 := Tryz.func167.trans (congrArg some (by kernel_rfl))
  f152 := Tryz.func186.trans (congrArg some (by kernel_rfl))
  f217 := Tryz.func204.trans (congrArg some (by kernel_rfl))
  f224 := Tryz.func219.trans (congrArg some (by kernel_rfl))
  f225 := Tryz.func218.trans (congrArg some (by kernel_rfl))
  f266 := Tryz.func235.trans (congrArg some (by kernel_rfl))
  t0 := Tryz.underlying0
  a0 := Tryz.isAgg0
  z0 := Tryz.sizeOf0
  v0 := Tryz.zeroValue0
  t3 := Tryz.underlying3
  a3 := Tryz.isAgg3
  z3 := Tryz.sizeOf3
  v3 := Tryz.zeroValue3
  t4 := Tryz.underlying4
  a4 := Tryz.isAgg4
  z4 := Tryz.sizeOf4
  v4 := Tryz.zeroValue4
  t5 := Tryz.underlying5
  a5 := Tryz.isAgg5
  z5 := Tryz.sizeOf5
  v5 := Tryz.zeroValue5
  t9 := Tryz.underlying9
  a9 := Tryz.isAgg9
  z9 := Tryz.sizeOf9
  v9 := Tryz.zeroValue9
  t21 := Tryz.underlying21
  a21 := Tryz.isAgg21
  z21 := Tryz.sizeOf21
  v21 := Tryz.zeroValue21
  t46 := Tryz.underlying166
  a46 := Tryz.isAgg166
  z46 := Tryz.sizeOf166
  v46 := Tryz.zeroValue166 }
open Go.RowKit Go.Lib in
theorem Tryz.strings_IndexRune_ascii (s : ByteArray) (r : Int) (w : World) (h0 : 0 ≤ r) (h1 : r < 128) :
    Calls Tryz.prog 186 #[.string s, .int .i32 r] w fun e w' => e = .returned (.int .i64 (Lib.indexByte s.data.toList r.toNat.toUInt8)) ∧ w' = w := Any.strings_IndexRune_ascii Tryz.lays152 s r w h0 h1
def Tryz.lays226_ren : Go.Shelf.Ren := ⟨fun | 226 => 187 | n => n, fun | 3 => 3 | 4 => 4 | n => n, fun | n => n⟩
theorem Tryz.lays226 : Go.Proofs.Lays.n226 Tryz.prog Tryz.lays226_ren := {
  mixed := by kernel_rfl
  f226 := Tryz.func187.trans (congrArg some (by kernel_rfl))
  t3 := Tryz.underlying3
  a3 := Tryz.isAgg3
  z3 := Tryz.sizeOf3
  v3 := Tryz.zeroValue3
  t4 := Tryz.underlying4
  a4 := Tryz.isAgg4
  z4 := Tryz.sizeOf4
  v4 := Tryz.zeroValue4 }
open Go.RowKit Go.Lib in
theorem Tryz.strings_shouldUseASCIISet (n : Int) (w : World) :
    Calls Tryz.prog 187 #[.int .i64 n] w fun e w' => e = .returned (.bool (decide (8 < n))) ∧ w' = w := Any.strings_shouldUseASCIISet Tryz.lays226 n w
def Tryz.lays153_ren : Go.Shelf.Ren := ⟨fun | 153 => 146 | 152 => 186 | 226 => 187 | 227 => 188 | 228 => 189 | 137 => 167 | 119 => 226 | 224 => 219 | 225 => 218 | 217 => 204 | 266 => 235 | n => n, fun | 9 => 9 | 3 => 3 | 4 => 4 | 5 => 5 | 21 => 21 | 117 => 173 | 116 => 172 | 0 => 0 | 46 => 166 | 124 => 202 | n => n, fun | n => n⟩
theorem Tryz.lays153 : Go.Proofs.Lays.n153 Tryz.prog Tryz.lays153_ren := {
  mixed := by kernel_rfl
  f119 := Tryz.func226.trans (congrArg some (by kernel_rfl))
  f137 := Tryz.func167.trans (congrArg some (by kernel_rfl))
  f152 := Tryz.func186.trans (congrArg some (by kernel_rfl))
  f153 := Tryz.func146.trans (congrArg some (by kernel_rfl))
  f217 := Tryz.func204.trans (congrArg some (by kernel_rfl))
  f224 := Tryz.func219.trans (congrArg some (by kernel_rfl))
  f225 := Tryz.func218.trans (congrArg some (by kernel_rfl))
  f226 := Tryz.func187.trans (congrArg some (by kernel_rfl))
  f227 := Tryz.func188.trans (congrArg some (by kernel_rfl))
  f228 := Tryz.func189.trans (congrArg some (by kernel_rfl))
  f266 := Tryz.func235.trans (congrArg some (by kernel_rfl))
  t0 := Tryz.underlying0
  a0 := Tryz.isAgg0
  z0 := Tryz.sizeOf0
  v0 := Tryz.zeroValue0
  t3 := Tryz.underlying3
  a3 := Tryz.isAgg3
  z3 := Tryz.sizeOf3
  v3 := Tryz.zeroValue3
  t4 := Tryz.underlying4
  a4 := Tryz.isAgg4
  z4 := Tryz.sizeOf4
  v4 := Tryz.zeroValue4
  t5 := Tryz.underlying5
  a5 := Tryz.isAgg5
  z5 := Tryz.sizeOf5
  v5 := Tryz.zeroValue5
  t9 := Tryz.underlying9
  a9 := Tryz.isAgg9
  z9 := Tryz.sizeOf9
  v9 := Tryz.zeroValue9
  t21 := Tryz.underlying21
  a21 := Tryz.isAgg21
  z21 := Tryz.sizeOf21
  v21 := Tryz.zeroValue21
  t46 := Tryz.underlying166
  a46 := Tryz.isAgg166
  z46 := Tryz.sizeOf166
  v46 := Tryz.zeroValue166
  t116 := Tryz.underlying172
  a116 := Tryz.isAgg172
  z116 := Tryz.sizeOf172
  t117 := Tryz.underlying173
  a117 := Tryz.isAgg173
  z117 := Tryz.sizeOf173
  v117 := Tryz.zeroValue173
  t124 := Tryz.underlying202
  a124 := Tryz.isAgg202
  z124 := Tryz.sizeOf202
  v124 := Tryz.zeroValue202 }
open Go.RowKit Go.Lib in
/-- chars is empty. (LAID: no walk: one application.) -/
theorem Tryz.strings_IndexAny_none (s chars : ByteArray) (w : World) (h0 : chars.size = 0) :
    Calls Tryz.prog 146 #[.string s, .string chars] w fun e w' => e = .returned (.int .i64 (Lib.indexAny s.data.toList chars.data.toList)) ∧ w' = w := Any.strings_IndexAny_none Tryz.lays153 s chars w h0
open Go.RowKit Go.Lib in
/-- chars is one ASCII byte. (LAID: no walk: one application.) -/
theorem Tryz.strings_IndexAny_one (s chars : ByteArray) (w : World) (h1 : chars.size = 1) (hascii : ∀ (j : Nat) b, chars.data.toList[j]? = some b → b.toNat < 128) :
    Calls Tryz.prog 146 #[.string s, .string chars] w fun e w' => e = .returned (.int .i64 (Lib.indexAny s.data.toList chars.data.toList)) ∧ w' = w := Any.strings_IndexAny_one Tryz.lays153 s chars w h1 hascii
open Go.RowKit Go.Lib in
theorem Tryz.strings_IndexAny_long (hv116 : ∀ w, (zeroValue 172).run Tryz.prog w = .ok (.agg (Array.replicate 256 (.bool false))) w) (s chars : ByteArray) (w : World) (h2 : 2 ≤ chars.size) (h8 : 8 < s.size) (hs : s.size < 4294967281) (hcs : chars.size < 4294967281) (hascii : ∀ (j : Nat) b, chars.data.toList[j]? = some b → b.toNat < 128) :
    Calls Tryz.prog 146 #[.string s, .string chars] w fun e w' => e = .returned (.int .i64 (Lib.indexAny s.data.toList chars.data.toList)) ∧ w' = ((w.alloc (.cells (Lib.setCells chars.data.toList) 172)).alloc (.cells (Lib.setCells chars.data.toList) 172)) := Any.strings_IndexAny_long Tryz.lays153 hv116 (by kernel_rfl) s chars w h2 h8 hs hcs hascii
def Tryz.lays150_ren : Go.Shelf.Ren := ⟨fun | 150 => 85 | 153 => 146 | 152 => 186 | 226 => 187 | 227 => 188 | 228 => 189 | 137 => 167 | 119 => 226 | 224 => 219 | 225 => 218 | 217 => 204 | 266 => 235 | n => n, fun | 9 => 9 | 4 => 4 | 3 => 3 | 5 => 5 | 21 => 21 | 117 => 173 | 116 => 172 | 0 => 0 | 46 => 166 | 124 => 202 | n => n, fun | n => n⟩
theorem Tryz.lays150 : Go.Proofs.Lays.n150 Tryz.prog Tryz.lays150_ren := {
  mixed := by kernel_rfl
  f119 := Tryz.func226.trans (congrArg some (by kernel_rfl))
  f137 := Tryz.func167.trans (congrArg some (by kernel_rfl))
  f150 := Tryz.func85.trans (congrArg some (by kernel_rfl))
  f152 := Tryz.func186.trans (congrArg some (by kernel_rfl))
  f153 := Tryz.func146.trans (congrArg some (by kernel_rfl))
  f217 := Tryz.func204.trans (congrArg some (by kernel_rfl))
  f224 := Tryz.func219.trans (congrArg some (by kernel_rfl))
  f225 := Tryz.func218.trans (congrArg some (by kernel_rfl))
  f226 := Tryz.func187.trans (congrArg some (by kernel_rfl))
  f227 := Tryz.func188.trans (congrArg some (by kernel_rfl))
  f228 := Tryz.func189.trans (congrArg some (by kernel_rfl))
  f266 := Tryz.func235.trans (congrArg some (by kernel_rfl))
  t0 := Tryz.underlying0
  a0 := Tryz.isAgg0
  z0 := Tryz.sizeOf0
  v0 := Tryz.zeroValue0
  t3 := Tryz.underlying3
  a3 := Tryz.isAgg3
  z3 := Tryz.sizeOf3
  v3 := Tryz.zeroValue3
  t4 := Tryz.underlying4
  a4 := Tryz.isAgg4
  z4 := Tryz.sizeOf4
  v4 := Tryz.zeroValue4
  t5 := Tryz.underlying5
  a5 := Tryz.isAgg5
  z5 := Tryz.sizeOf5
  v5 := Tryz.zeroValue5
  t9 := Tryz.underlying9
  a9 := Tryz.isAgg9
  z9 := Tryz.sizeOf9
  v9 := Tryz.zeroValue9
  t21 := Tryz.underlying21
  a21 := Tryz.isAgg21
  z21 := Tryz.sizeOf21
  v21 := Tryz.zeroValue21
  t46 := Tryz.underlying166
  a46 := Tryz.isAgg166
  z46 := Tryz.sizeOf166
  v46 := Tryz.zeroValue166
  t116 := Tryz.underlying172
  a116 := Tryz.isAgg172
  z116 := Tryz.sizeOf172
  t117 := Tryz.underlying173
  a117 := Tryz.isAgg173
  z117 := Tryz.sizeOf173
  v117 := Tryz.zeroValue173
  t124 := Tryz.underlying202
  a124 := Tryz.isAgg202
  z124 := Tryz.sizeOf202
  v124 := Tryz.zeroValue202 }
open Go.RowKit Go.Lib in
/-- strings.ContainsAny ON ASCII BYTES. (LAID: no walk: one application.) -/
theorem Tryz.strings_ContainsAny (hv116 : ∀ w, (zeroValue 172).run Tryz.prog w = .ok (.agg (Array.replicate 256 (.bool false))) w) (s chars : ByteArray) (w : World) (hs : s.size < 4294967281) (hcs : chars.size < 4294967281) (has : ∀ (j : Nat) b, s.data.toList[j]? = some b → b.toNat < 128) (hac : ∀ (j : Nat) b, chars.data.toList[j]? = some b → b.toNat < 128) :
    Calls Tryz.prog 85 #[.string s, .string chars] w fun e w' => e = .returned (.bool (Lib.containsAny s.data.toList chars.data.toList)) ∧ Below w.heap.size w w' := Any.strings_ContainsAny Tryz.lays150 hv116 (by kernel_rfl) s chars w hs hcs has hac
end Go.Proofs


/- strings.IndexRune, IndexAny and ContainsAny where the characters sought are ASCII and the text is any. -/
namespace Go.Proofs.YtbhfbbfjdklfgaaGreatDoor.Q
open Go.Shelf Go.RowKit Go.Lib Go.Proofs.YtbhfbbfjdklfgaaGreatDoorW.PrintWords Go.Proofs.YtbhfbbfjdklfgaaGreatDoorW.PrintLast
section
variable {P : Program} {ρ : Ren}
theorem ib_none : ∀ (l : List UInt8) (c : UInt8), c ∉ l → Lib.indexByte l c = -1
  | [], _, _ => rfl
  | b :: r, c, h => by
    simp only [List.mem_cons, not_or] at h
    rw [Lib.indexByte, if_neg (by simpa using fun e => h.1 e.symm), ib_none r c h.2]; rfl
set_option maxHeartbeats 8000000 in
set_option maxRecDepth 1000000 in
theorem IndexRune_high (L : Lays.n152 P ρ) (s : ByteArray) (r : Int) (w : World) (h128 : 128 ≤ r) (hs : ∀ b ∈ s.data.toList, b.toNat < 128) (hz : s.size < 4294967281) :
    Calls P (ρ.f 152) #[.string s, .int .i32 r] w fun e w' => e = .returned (.int .i64 (-1)) ∧ Below w.heap.size w w' := by
  have mixed := L.mixed
  have t3 := L.t3; have a3 := L.a3; have z3 := L.z3; have v3 := L.v3
  have t4 := L.t4; have a4 := L.a4; have z4 := L.z4; have v4 := L.v4
  have t5 := L.t5; have a5 := L.a5; have z5 := L.z5; have v5 := L.v5
  have t9 := L.t9; have a9 := L.a9; have z9 := L.z9; have v9 := L.v9
  have t21 := L.t21; have a21 := L.a21; have z21 := L.z21; have v21 := L.v21
  have e137 : ∀ args w, (callFunc (ρ.f 137) args).run P w = .ok (.enter (ρ.f 137) args) w := enters_of L.f137 (by kernel_rfl) rfl
  have e119 : ∀ args w, (callFunc (ρ.f 119) args).run P w = .ok (.enter (ρ.f 119) args) w := enters_of L.f119 (by kernel_rfl) rfl
  have hn1 : ¬ r < 128 := by omega
  have h0 : (0 : Int) ≤ r := by omega
  by_cases hbad : r = 65533
  · subst hbad
    have HS : Aside (∀ b ∈ s.data.toList, b.toNat < 128) := hs
    clear hs
    go_enter L.f152, Body.n152_ntmps ρ
    go_wp2
    go_loopg [5, 6] s.size (fun g _ _ wx => ∃ i : Nat, i + g = s.size ∧ wx = w.iter s i)
    case atStart => exact ⟨0, by omega, rfl⟩
    case round =>
      obtain ⟨i, hig, rfl⟩ := hrel
      cases gk with
      | zero =>
        obtain rfl : i = s.size := by omega
        have hnx := run_next_end (P := P) w s s.size
        go_wp2
        go_ret
        exact ⟨rfl, (Below.refl _ _).alloc (Nat.le_refl _) _⟩
      | succ g =>
        have hi : i < s.size := by omega
        obtain ⟨x, hx⟩ : ∃ x : UInt8, s[i]'hi = x := ⟨_, rfl⟩
        have hx128 : x.toNat < 128 := HS.out x (by rw [← hx]; exact List.mem_of_getElem? (Lib.data_getElem? s i hi))
        have hnx := fun ty => run_next_ascii (P := P) w s i ty hi (by rw [hx]; exact hx128)
        rw [hx] at hnx
        clear hx
        have hne : ¬ ((x.toNat : Int) = 65533) := by omega
        go_wp2
        go_roundg g
        case measure => omega
        case rel => exact ⟨i + 1, by omega, rfl⟩
  by_cases hv : Lib.validRune r = true
  · obtain ⟨e2, e4, elast⟩ := encode_facts r (by rw [show Utf8.valid r = Lib.validRune r from validRune_eq r]; exact hv) h128
    obtain ⟨rs, hrs⟩ : ∃ rs, rs = Utf8.encode r := ⟨_, rfl⟩
    rw [← hrs] at e2 e4 elast
    have hconv : ∀ w : World, (convert (ρ.t 21) (ρ.t 9) (.int .i32 r)).run P w = .ok (.string rs) w := fun w => by rw [hrs]; exact run_convert_int_string w _ _ _ _ (by rw [t21]; rfl) t9
    go_enter L.f152, Body.n152_ntmps ρ
    go_wp2_with (first | (go_at_fn (ρ.f 119); refine (Any.utf8_ValidRune { L with } _ _).mono ?_; rintro e w' ⟨rfl, hw⟩; rw [hw, hv]) | (simp only [hconv]))
    have HS : Aside (∀ b ∈ s.data.toList, b.toNat < 128) := hs
    have hl0 : rs.size - 1 < rs.size := by omega
    obtain ⟨c, hc⟩ : ∃ c : UInt8, rs[rs.size - 1]'hl0 = c := ⟨_, rfl⟩
    have hc128 := elast hl0
    rw [hc] at hc128
    obtain ⟨q, hq⟩ : ∃ q, rs.size = q + 1 := ⟨rs.size - 1, by omega⟩
    have HC : Aside (rs[rs.size - 1]'hl0 = c) := hc
    clear hs elast hc hrs
    have hlb : IntKind.i64.wrap ((rs.size : Int) - 1) = (q : Int) := by rw [IntKind.wrap_i64, hq]; omega
    go_step3
    go_wp2_with (simp only [hconv])
    go_loopg [9, 10] 1 (fun _ v9 v10 wx => v9 = .int .i64 (q : Int) ∧ v10 = .int .i64 0 ∧ wx = w)
    case atStart => exact ⟨rfl, rfl, rfl⟩
    case round =>
      obtain ⟨rfl, rfl, rfl⟩ := hrel
      by_cases hqs : q < s.size
      · obtain ⟨x, hx⟩ : ∃ x : UInt8, s[q]'hqs = x := ⟨_, rfl⟩
        have hx128 : x.toNat < 128 := HS.out x (by rw [← hx]; exact List.mem_of_getElem? (Lib.data_getElem? s q hqs))
        have hc' : rs[q]'(by omega) = c := by have := HC.out; simp only [hq, Nat.add_sub_cancel] at this; exact this
        have hne : ¬ (x.toNat = c.toNat) := by omega
        go_wp2
        go_step3
        go_wp2
        go_region_o
        have hneb : ((x.toNat : Int) != (c.toNat : Int)) = true := by rw [bne_iff_ne]; omega
        have hib : ∀ e, Lib.indexByte (s.extract (q + 1) e).data.toList ((c.toNat : Int)).toNat.toUInt8 = -1 := fun e => by
          rw [show ((c.toNat : Int)).toNat.toUInt8 = c by simp]
          exact ib_none _ _ (fun hm => by have := HS.out c (mem_extract hm); omega)
        go_wp2
        have hw1 : IntKind.i64.wrap ((q : Int) + 1) = (q : Int) + 1 := by rw [IntKind.wrap_i64]; omega
        have hle1 : (q : Int) + 1 ≤ (s.size : Int) := by omega
        have hge1 : (0 : Int) ≤ (q : Int) + 1 := by omega
        have htn1 : ((q : Int) + 1).toNat = q + 1 := by omega
        go_region_with_o (go_at_fn (ρ.f 137); refine (Any.strings_IndexByte { L with } _ _ _).mono ?_; rintro e w' ⟨rfl, hw⟩; rw [hw, hib])
        go_wp2
        simp only [Exit.noGoto_ret, go_sem]
        go_ret
        exact ⟨rfl, ((Below.refl _ _).drew).drew⟩
      · go_wp2
        simp only [Exit.noGoto_ret, go_sem]
        go_ret
        exact ⟨rfl, Below.refl _ _⟩
  · have hv' : Lib.validRune r = false := by simpa using hv
    go_enter L.f152, Body.n152_ntmps ρ
    go_wp2_with (go_at_fn (ρ.f 119); refine (Any.utf8_ValidRune { L with } _ _).mono ?_; rintro e w' ⟨rfl, hw⟩; rw [hw, hv'])
    go_ret
    exact ⟨rfl, Below.refl _ _⟩
theorem ascii_has {chars : ByteArray} (hc : ∀ b ∈ chars.data.toList, b.toNat < 128) {b : UInt8} (hb : 128 ≤ b.toNat) : chars.data.toList.contains b = false := by
  rw [← Bool.not_eq_true, List.contains_iff_mem]
  exact fun h => by have := hc b h; omega
theorem noAny_rune {s chars : ByteArray} (hc : ∀ b ∈ chars.data.toList, b.toNat < 128) {i : Nat} (hi : i < s.size) (hno : Lib.NoAny s.data.toList chars.data.toList i) (h128 : 128 ≤ (s[i]'hi).toNat) :
    Lib.NoAny s.data.toList chars.data.toList (i + (Utf8.decode s i).2) ∧ i + (Utf8.decode s i).2 ≤ s.size := by
  have hd := Lib.decode_N s i
  have hk := Lib.decodeN_conts (s.data.toList.length - i) (s.data.toList.getD i 0).toNat (s.data.toList.getD (i + 1) 0).toNat (s.data.toList.getD (i + 2) 0).toNat (s.data.toList.getD (i + 3) 0).toNat
  rw [← hd] at hk
  obtain ⟨k1, k2, k3, k4⟩ := hk
  have hl : s.data.toList.length = s.size := (Lib.size_eq s).symm
  have h1 := (decode_high s i hi h128).2
  refine ⟨fun j b hj hb => ?_, ?_⟩
  · by_cases hlt : j < i
    · exact hno j b hlt hb
    · refine ascii_has hc ?_
      have hg : ∀ d, j = i + d → (s.data.toList.getD (i + d) 0).toNat = b.toNat := fun d hd => by rw [← hd, List.getD, hb]; rfl
      have hx : s.data.toList[i]? = some (s[i]'hi) := Lib.data_getElem? s i hi
      by_cases e0 : j = i
      · rw [e0, hx] at hb
        rw [← Option.some.inj hb]; exact h128
      by_cases e1 : j = i + 1
      · have := hg 1 e1; have := k1 (by omega); omega
      by_cases e2 : j = i + 2
      · have := hg 2 e2; have := k2 (by omega); omega
      by_cases e3 : j = i + 3
      · have := hg 3 e3; have := k3 (by omega); omega
      omega
  · rw [hl] at k1 k2 k3
    have : (Utf8.decode s i).2 = 1 ∨ (Utf8.decode s i).2 = 2 ∨ (Utf8.decode s i).2 = 3 ∨ (Utf8.decode s i).2 = 4 := by omega
    rcases this with h | h | h | h
    · omega
    · have := k1 (by omega); omega
    · have := k2 (by omega); omega
    · have := k3 (by omega); omega
set_option maxHeartbeats 8000000 in
set_option maxRecDepth 1000000 in
theorem IndexAny_short_any (L : Lays.n153 P ρ) (s chars : ByteArray) (w : World) (h2 : 2 ≤ chars.size) (h8 : s.size ≤ 8) (hc : ∀ b ∈ chars.data.toList, b.toNat < 128) (hcs : chars.size < 4294967281) :
    Calls P (ρ.f 153) #[.string s, .string chars] w fun e w' => e = .returned (.int .i64 (Lib.indexAny s.data.toList chars.data.toList)) ∧ Below w.heap.size w w' := by
  have HA : Aside (∀ b ∈ chars.data.toList, b.toNat < 128) := hc
  clear hc
  have hemp : chars.toList.isEmpty = false := by
    rw [Lib.toList_data]
    cases h : chars.data.toList with
    | nil => have := Lib.size_eq chars; rw [h, List.length_nil] at this; omega
    | cons _ _ => rfl
  have hn1 : ((chars.size : Int) == 1) = false := beq_eq_false_iff_ne.2 (by omega)
  have h8z : decide ((8 : Int) < (s.size : Int)) = false := decide_eq_false (by omega)
  have t3 := L.t3; have a3 := L.a3; have z3 := L.z3; have v3 := L.v3
  have t4 := L.t4; have a4 := L.a4; have z4 := L.z4; have v4 := L.v4
  have t5 := L.t5; have a5 := L.a5; have z5 := L.z5; have v5 := L.v5
  have t9 := L.t9; have a9 := L.a9; have z9 := L.z9; have v9 := L.v9
  have t21 := L.t21; have a21 := L.a21; have z21 := L.z21; have v21 := L.v21
  have e152 : ∀ args w, (callFunc (ρ.f 152) args).run P w = .ok (.enter (ρ.f 152) args) w := enters_of L.f152 (by kernel_rfl) rfl
  have e226 : ∀ args w, (callFunc (ρ.f 226) args).run P w = .ok (.enter (ρ.f 226) args) w := enters_of L.f226 (by kernel_rfl) rfl
  go_enter L.f153, Body.n153_ntmps ρ
  go_wp2_with (go_at_fn (ρ.f 226); refine (Any.strings_shouldUseASCIISet { L with } _ _).mono ?_; rintro e w' ⟨rfl, hw⟩; rw [hw, h8z])
  go_loopg [9, 10] s.size (fun g _ _ wx => ∃ i : Nat, i ≤ s.size ∧ s.size ≤ i + g ∧ Aside (Below w.heap.size w wx) ∧ Aside (wx.heap[w.heap.size]? = some (.stringIter s i)) ∧ Aside (Lib.NoAny s.data.toList chars.data.toList i))
  case atStart => exact ⟨0, by omega, by omega, (show Below _ _ _ from (Below.refl _ _).alloc (Nat.le_refl _) _), World.iter_heap w s 0, Lib.NoAny.zero _ _⟩
  case round =>
    obtain ⟨i, hil, hig, HB, HI, HN⟩ := hrel
    by_cases hi : i < s.size
    · obtain ⟨x, hx⟩ : ∃ x : UInt8, s[i]'hi = x := ⟨_, rfl⟩
      have hxl : s.data.toList[i]? = some x := by rw [← hx]; exact Lib.data_getElem? s i hi
      have hnx := fun ty => run_next_any_at (P := P) wr w.heap.size s i ty HI.out hi
      obtain ⟨W1, hW1⟩ : ∃ W1, W1 = wr.iterAt w.heap.size s (i + (Utf8.decode s i).2) := ⟨_, rfl⟩
      have HB1 : Aside (Below w.heap.size w W1) := by rw [hW1]; exact below_iterAt HB.out (Nat.le_refl _) _ _
      have HI1 : Aside (W1.heap[w.heap.size]? = some (.stringIter s (i + (Utf8.decode s i).2))) := by rw [hW1]; exact iterAt_heap _ _ _ _ _ HI.out
      rw [← hW1] at hnx
      by_cases h128 : x.toNat < 128
      · have hdec : Utf8.decode s i = (x.toNat, 1) := by rw [decode_ascii s i hi (by rw [hx]; exact h128), hx]
        rw [hdec] at hnx HI1
        have Hx : Aside (s.data.toList[i]? = some x) := hxl
        clear hxl hx hW1 hdec
        have hcon := Lib.contains_iff_indexByte chars.data.toList x
        have hback : ((x.toNat : Int)).toNat.toUInt8 = x := by simp
        cases hin : chars.data.toList.contains x
        · rw [hin] at hcon
          have hlt : ¬ ((0 : Int) ≤ Lib.indexByte chars.data.toList x) := of_decide_eq_false hcon.symm
          clear hcon
          go_wp2_with (go_at_fn (ρ.f 152); refine (Any.strings_IndexRune_ascii { L with } _ _ _ (by omega) (by omega)).mono ?_; rintro e w' ⟨rfl, hw⟩; rw [hw, hback])
          go_roundg (s.size - (i + 1))
          case measure => omega
          case rel => exact ⟨i + 1, by omega, by omega, HB1, HI1, HN.out.succ Hx.out hin⟩
        · rw [hin] at hcon
          have hge : (0 : Int) ≤ Lib.indexByte chars.data.toList x := of_decide_eq_true hcon.symm
          clear hcon
          go_wp2_with (go_at_fn (ρ.f 152); refine (Any.strings_IndexRune_ascii { L with } _ _ _ (by omega) (by omega)).mono ?_; rintro e w' ⟨rfl, hw⟩; rw [hw, hback])
          go_ret
          exact ⟨by rw [Lib.indexAny_hit HN.out Hx.out hin]; rfl, HB1.out⟩
      · have hhigh := decode_high s i hi (by rw [hx]; omega)
        have hnr := noAny_rune HA.out hi HN.out (by rw [hx]; omega)
        obtain ⟨c, hcd⟩ : ∃ c, c = (Utf8.decode s i).1 := ⟨_, rfl⟩
        obtain ⟨n, hnd⟩ : ∃ n, n = (Utf8.decode s i).2 := ⟨_, rfl⟩
        rw [← hcd] at hnx hhigh
        rw [← hnd] at hhigh hnr HI1
        clear hW1 hcd hnd hx hxl
        obtain ⟨hc128, hn1'⟩ := hhigh
        obtain ⟨hnr1, hnr2⟩ := hnr
        have HNR : Aside (Lib.NoAny s.data.toList chars.data.toList (i + n)) := hnr1
        clear hnr1
        go_wp2_with (go_at_fn (ρ.f 152); refine (IndexRune_high { L with } _ _ _ (by omega) HA.out hcs).mono ?_; rintro e w' ⟨rfl, hw⟩)
        go_roundg (s.size - (i + n))
        case measure => omega
        case rel => exact ⟨i + n, by omega, by omega, HB1.out.trans (hw.mono HB1.out.size), (hw.block _ ((Array.getElem?_eq_some_iff.1 HI1.out).1)).trans HI1.out, HNR⟩
    · obtain rfl : i = s.size := by omega
      have hnx := fun ty => run_next_end_at (P := P) wr w.heap.size s s.size ty HI.out (by omega)
      go_wp2
      go_ret
      exact ⟨by rw [Lib.indexAny_none (by rw [← Lib.size_eq]; exact HN.out)]; rfl, HB.out⟩
theorem IndexAny_any (L : Lays.n153 P ρ) (h116 : (P.info? (ρ.t 116)).map (fun i => (i.zero, i.size)) = some (some (.agg (Array.replicate 256 (.bool false))), 256)) (s chars : ByteArray) (w : World) (hs : s.size < 4294967281) (hcs : chars.size < 4294967281) (hc : ∀ b ∈ chars.data.toList, b.toNat < 128) :
    Calls P (ρ.f 153) #[.string s, .string chars] w fun e w' => e = .returned (.int .i64 (Lib.indexAny s.data.toList chars.data.toList)) ∧ Below w.heap.size w w' := by
  have hac : ∀ (j : Nat) b, chars.data.toList[j]? = some b → b.toNat < 128 := fun j b h => hc b (List.mem_of_getElem? h)
  by_cases h0 : chars.size = 0
  · exact (Any.strings_IndexAny_none L s chars w h0).mono fun e w' ⟨h1, h2⟩ => ⟨h1, h2 ▸ Below.refl _ _⟩
  by_cases h1 : chars.size = 1
  · exact (Any.strings_IndexAny_one L s chars w h1 hac).mono fun e w' ⟨h1, h2⟩ => ⟨h1, h2 ▸ Below.refl _ _⟩
  by_cases h8 : s.size ≤ 8
  · exact IndexAny_short_any L s chars w (by omega) h8 hc hcs
  · refine (Any.strings_IndexAny_long L (zero_of_info h116).1 (zero_of_info h116).2 s chars w (by omega) (by omega) hs hcs hac).mono fun e w' ⟨h1, h2⟩ => ⟨h1, ?_⟩
    rw [h2]
    exact ((Below.refl _ _).alloc (Nat.le_refl _) _).alloc (by simp) _
set_option maxHeartbeats 1000000 in
theorem ContainsAny_any (L : Lays.n150 P ρ) (h116 : (P.info? (ρ.t 116)).map (fun i => (i.zero, i.size)) = some (some (.agg (Array.replicate 256 (.bool false))), 256)) (s chars : ByteArray) (w : World) (hs : s.size < 4294967281) (hcs : chars.size < 4294967281) (hc : ∀ b ∈ chars.data.toList, b.toNat < 128) :
    Calls P (ρ.f 150) #[.string s, .string chars] w fun e w' => e = .returned (.bool (Lib.containsAny s.data.toList chars.data.toList)) ∧ Below w.heap.size w w' := by
  have c := IndexAny_any { L with } h116 s chars w hs hcs hc
  have t3 := L.t3; have a3 := L.a3; have z3 := L.z3; have v3 := L.v3
  have t4 := L.t4; have a4 := L.a4; have z4 := L.z4; have v4 := L.v4
  have t9 := L.t9; have a9 := L.a9; have z9 := L.z9; have v9 := L.v9
  have e153 : ∀ args w, (callFunc (ρ.f 153) args).run P w = .ok (.enter (ρ.f 153) args) w := enters_of L.f153 (by kernel_rfl) rfl
  go_enter L.f150, Body.n150_ntmps ρ
  go_wp2_with (go_at_fn (ρ.f 153); refine c.mono ?_; rintro e w' ⟨rfl, hw⟩)
  go_ret
  exact ⟨rfl, hw⟩
end
end Go.Proofs.YtbhfbbfjdklfgaaGreatDoor.Q


/- Contracts of packages strings and strconv that ask for package variables (internal/bytealg.MaxLen, internal/strconv.uint64pow10), and how that premise stays. -/
namespace Go.Proofs.YtbhfbbfjdklfgaaGreatDoor.Q
open Go.RowKit Go.Proofs.YtbhfbbfjdklfgaaGreatDoorW.PrintWords Go.Proofs.YtbhfbbfjdklfgaaGreatDoorW.PrintLast
/-- The one variable holds some number, the other one its table. -/
def GV (w : World) : Prop := (∃ m : Int, w.cell? ⟨0, 0, none⟩ = some (.int .i64 m)) ∧ Lib.TabIs Tryz.prog w "internal/strconv.uint64pow10" .u64 Lib.pow10Tab
theorem tabG : ∃ g, Tryz.prog.globalNamed "internal/strconv.uint64pow10" = some g := Option.isSome_iff_exists.1 (show (Tryz.prog.globalNamed "internal/strconv.uint64pow10").isSome = true by kernel_rfl)
theorem GV.below {w w1 : World} (h : GV w) (hb : Below w.heap.size w w1) : GV w1 := by
  obtain ⟨⟨m, hm⟩, ht⟩ := h
  obtain ⟨g, hg⟩ := tabG
  exact ⟨⟨m, (hb.cell (World.block_lt_of_cell? _ _ hm)).trans hm⟩, Go.Joins.tab_stays hg ht hb (Nat.le_refl _)⟩
theorem tabIs_of_mem {P : Program} {W : World} {name : String} {k : IntKind} {zs : List Int} {l : List (String × DataW Unit)} {g : Nat} {t e : TypeId} {n : Nat}
    (hg : P.globalNamed name = some g) (hty : (P.globals[g]?).map (·.type) = some t) (ht : P.underlying t = some (.array n e)) (he : P.underlying e = some (.int k)) (hce : P.cellsOf e = 1) (hct : P.cellsOf t = n)
    (h : laidMet P l W) (hm : (name, Lib.tabData k zs) ∈ l) : Lib.TabIs P W name k zs := by
  obtain ⟨g', t', cs, fuel, p, hg', ht', hvar, hd⟩ := Lib.laidMet.reads h hm
  obtain rfl := Option.some.inj (hg.symm.trans hg')
  obtain rfl := Option.some.inj (hty.symm.trans ht')
  unfold Lib.TabIs
  rw [hvar, ← Lib.cells_of_tab ht he hce hct hd]
theorem pow_data : (Rows.laid_internal_strconv_uint64pow10 : DataW Unit) = Lib.tabData .u64 Lib.pow10Tab := rfl
theorem GV.shaped {w : World} (h : w.ShapedOpen Tryz.prog) {l : List (String × DataW Unit)} (hl : laidMet Tryz.prog l w) (hm : ("internal/strconv.uint64pow10", Rows.laid_internal_strconv_uint64pow10) ∈ l) : GV w := by
  refine ⟨Tryz.laysM144.s1_3 w h, ?_⟩
  rw [pow_data] at hm
  exact tabIs_of_mem (t := 224) (e := 193) (n := 20) (Option.some_get (x := Tryz.prog.globalNamed "internal/strconv.uint64pow10") (by kernel_rfl)).symm (by kernel_rfl) Tryz.underlying224 Tryz.underlying193 (by kernel_rfl) (by kernel_rfl) hl hm
def strings_Contains2.f (a0 a1 : ByteArray) : Option Bool := if a0.size < 4294967281 then some (Lib.contains a0.data.toList a1.data.toList) else none
theorem strings_Contains2.calls (a0 a1 : ByteArray) (r : Bool) (w : World) (hgv : GV w) (h : strings_Contains2.f a0 a1 = some r) :
    Calls Tryz.prog 68 #[.string a0, .string a1] w fun e w' => e = .returned (.bool r) ∧ Drawn0 w w' := by
  unfold strings_Contains2.f at h
  split at h
  · rename_i hs
    obtain rfl := Option.some.inj h
    obtain ⟨⟨m, hm⟩, _⟩ := hgv
    refine (Tryz.strings_Contains a0 a1 m w hs hm).mono ?_
    rintro e w' ⟨rfl, rfl⟩
    exact ⟨rfl, Drawn0.refl _⟩
  · cases h
def strings_Cut.f (a0 a1 : ByteArray) : Option (ByteArray × ByteArray × Bool) := if a0.size < 4294967281 then some (⟨(Lib.cut a0.data.toList a1.data.toList).1.toArray⟩, ⟨(Lib.cut a0.data.toList a1.data.toList).2.1.toArray⟩, (Lib.cut a0.data.toList a1.data.toList).2.2) else none
theorem strings_Cut.calls (a0 a1 : ByteArray) (r1 r2 : ByteArray) (r3 : Bool) (w : World) (hgv : GV w) (h : strings_Cut.f a0 a1 = some (r1, r2, r3)) :
    Calls Tryz.prog 82 #[.string a0, .string a1] w fun e w' => e = .returned (.tuple #[.string r1, .string r2, .bool r3]) ∧ Drawn0 w w' := by
  unfold strings_Cut.f at h
  split at h
  · rename_i hs
    obtain ⟨rfl, h2⟩ := Prod.mk.inj (Option.some.inj h)
    obtain ⟨rfl, rfl⟩ := Prod.mk.inj h2
    obtain ⟨⟨m, hm⟩, _⟩ := hgv
    refine (Tryz.strings_Cut a0 a1 m w hs hm).mono ?_
    rintro e w' ⟨rfl, n, rfl⟩
    exact ⟨rfl, ⟨n, rfl⟩⟩
  · cases h
def strings_ContainsAny.f (a0 a1 : ByteArray) : Option Bool := if a0.size < 4294967281 then (if a1.size < 4294967281 then (if a1.data.toList.all (fun b => decide (b.toNat < 128)) = true then some (Lib.containsAny a0.data.toList a1.data.toList) else none) else none) else none
theorem strings_ContainsAny.calls (a0 a1 : ByteArray) (r : Bool) (w : World) (h : strings_ContainsAny.f a0 a1 = some r) :
    Calls Tryz.prog 85 #[.string a0, .string a1] w fun e w' => e = .returned (.bool r) ∧ Below w.heap.size w w' := by
  unfold strings_ContainsAny.f at h
  split at h
  · split at h
    · split at h
      · rename_i h1 h2 h3
        obtain rfl := Option.some.inj h
        exact ContainsAny_any Tryz.lays150 (by kernel_rfl) a0 a1 w h1 h2 (fun b hb => by have := List.all_eq_true.1 h3 b hb; simpa using this)
      · cases h
    · cases h
  · cases h
theorem below_more {w : World} (k : Nat) (os : Array Obj) : Below w.heap.size w (Go.Sort.grow (w.drewN k) os) :=
  ⟨rfl, rfl, rfl, by simp [Go.Sort.grow, World.drewN], fun b hb => by simp [Go.Sort.grow, World.drewN, Array.getElem?_append, hb]⟩
def strconv_Itoa.f (a0 : Int) : Option ByteArray := if -9223372036854775808 ≤ a0 then (if a0 ≤ 9223372036854775807 then some ⟨(Lib.itoa a0).toArray⟩ else none) else none
theorem strconv_Itoa.calls (a0 : Int) (r : ByteArray) (w : World) (hgv : GV w) (h : strconv_Itoa.f a0 = some r) :
    Calls Tryz.prog 91 #[.int .i64 a0] w fun e w' => e = .returned (.string r) ∧ Below w.heap.size w w' := by
  unfold strconv_Itoa.f at h
  split at h
  · split at h
    · rename_i h1 h2
      obtain rfl := Option.some.inj h
      refine (Tryz.strconv_Itoa a0 h1 h2 w hgv.2).mono ?_
      rintro e w' ⟨rfl, k, os, rfl⟩
      exact ⟨rfl, below_more k os⟩
    · cases h
  · cases h
end Go.Proofs.YtbhfbbfjdklfgaaGreatDoor.Q
section
namespace Go.Proofs.YtbhfbbfjdklfgaaGreatDoor.Q
variable {H : Type} {enc : TypeId × Value → H}

/-- The wrap of a row that lists variables, the world's shape kept. -/
theorem returnsInHanded_and_shaped {a : Assume} {C : Checked} {os : Os} {f : FuncId} {fn : Func} {s : ChangeSpec} {conds : List PathCond} {apart fresh handsOn again : Bool} {X : World → Array Value → Prop}
    (hX : ∀ (w w' : World) (args : Array Value), w.heap = w'.heap → X w args → X w' args)
    (own : ownKnob C.prog.godebug = none) (started : os.Started) (noInit : C.prog.inits.idxOf? f = none) (hfn : C.prog.funcs[f]? = some fn)
    (witness : ∃ (w : World) (tape : Tape) (i : Input), w.os = os ∧ (w.forCall tape i).Shaped C.prog ∧ i.vars = [] ∧ Input.okWide C.prog (w.forCall tape i) .any w.heap.size f i ∧
      ((s.pre enc C.prog fn conds apart (w.forCall tape i).memory i.args ∧ X (w.forCall tape i).memory i.args) ∧ sizedMet enc C.prog fn (OpenSpec.ofChange s) apart (w.forCall tape i).memory i.args) ∧ a.holds C.prog (lone (Frame.enter C.prog f i.args .normal) [] (w.forCall tape i)))
    (contract : ∀ (W : World) (base : Nat) (args : Array Value) (ds gs : List (DataW H)) (before : List MemPlace),
      (∀ (j : Nat) t v, fn.params[j]? = some t → args[j]? = some v → Value.okWide C.prog W .any base t v) →
      DataW.Whole enc C.prog fn.params.toList s.vars apart W args.toList ds gs before →
      conds.all (PathCond.test C.prog ⟨fn.params.toList, ds, s.plain.varTypes C.prog, gs⟩) = true →
      (DataW.weightsEach C.prog (fn.params.toList ++ s.plain.varTypes C.prog) (ds ++ gs)).all (· ≤ reachBytes) = true → X W args → W.ShapedOpen C.prog →
      Calls C.prog f args W fun e W' => ∃ v, e = .returned v ∧ s.post enc C.prog fn apart fresh handsOn again W args v W') :
    ReturnsInHanded a C os f .any (fun w args => (s.pre enc C.prog fn conds apart w args ∧ X w args) ∧ sizedMet enc C.prog fn (OpenSpec.ofChange s) apart w args) (s.post enc C.prog fn apart fresh handsOn again) := by
  refine returnsInHanded_of_calls own started noInit witness ?_
  intro w tape i _ hsh _ hok hpre hholds
  obtain ⟨_, _, _, fn', hfn', _, _, _, _, hval⟩ := hok
  have e : fn' = fn := Option.some.inj (hfn'.symm.trans hfn)
  subst e
  obtain ⟨⟨⟨ds, gs, before, hw, hc⟩, hx⟩, hz⟩ := hpre
  have hw' := DataW.Whole.of_heap (w' := w.forCall tape i) (by rfl) hw
  refine (contract (w.forCall tape i) w.heap.size i.args ds gs before hval hw' hc (hz.weights hw) (hX _ _ _ (by rfl) hx) hsh).mono fun e W' ⟨v, he, hp⟩ => ?_
  subst he
  exact ChangeSpec.post_blind hp
end Go.Proofs.YtbhfbbfjdklfgaaGreatDoor.Q
end


/- Both under one name. -/


namespace Go.Proofs.YtbhfbbfjdklfgaaGreatDoor.Q
open Go.RowKit Go.Proofs.YtbhfbbfjdklfgaaGreatDoorW.PrintWords Go.Proofs.YtbhfbbfjdklfgaaGreatDoorW.PrintLast Go.Proofs.YtbhfbbfjdklfgaaGreatDoorW.PrintMore
attribute [local go_sem] max2_int min2_int max_two min_two max_three min_three max_four min_four   -- for this text's walks alone

def graftageref06_Same.l0 : Nat → List ByteArray → List ByteArray → Int → Option (Bool)
 | 0, _, _, _ => none
 | k + 1, x0, x1, x5 => if x5 < (x0.length : Int) then (if 0 ≤ x5 then (if x5 < (x1.length : Int) then (if (rdOf ByteArray.empty x0 x5).toList = (rdOf ByteArray.empty x1 x5).toList then (graftageref06_Same.l0 k x0 x1 (wrap64 (x5 + 1))) else (some false)) else (none)) else (none)) else (some true)
def graftageref06_Same.f (k : Nat) (l0 : List ByteArray) (l1 : List ByteArray) : Option (Bool) := if (l0.length : Int) = (l1.length : Int) then (graftageref06_Same.l0 k l0 l1 0) else (some false)
set_option maxHeartbeats 8000000 in
set_option maxRecDepth 100000 in
theorem graftageref06_Same.calls (k : Nat) (A0 : Option Addr) (c0 : Nat) (l0 : List ByteArray) (A1 : Option Addr) (c1 : Nat) (l1 : List ByteArray) (r : Bool) (w : World) (hr0 : Kd.C Kd.string w A0 l0.length l0) (hc0 : l0.length ≤ c0) (hr1 : Kd.C Kd.string w A1 l1.length l1) (hc1 : l1.length ≤ c1) (h : graftageref06_Same.f k l0 l1 = some r) :
  Calls Tryz.prog 38 #[.slice A0 l0.length c0, .slice A1 l1.length c1] w fun e w' => e = .returned (.bool r) ∧ Drawn0 w w' := by
 have HR0 := Aside0.mk hr0; have HC0 := Aside0.mk hc0; clear hr0 hc0; have HR1 := Aside0.mk hr1; have HC1 := Aside0.mk hc1; clear hr1 hc1; unfold graftageref06_Same.f at h; have H := h; clear h; by_cases c3 : (l0.length : Int) = (l1.length : Int); rotate_left
 ·rw [if_neg c3] at H; have c3b0 := beq_eq_false_iff_ne.mpr c3; have c3b1 := bne_iff_ne.mpr c3; have c3b2 : (l0.length == l1.length) = false := by first | simpa using c3 | (simp at c3 ⊢; omega)
  obtain rfl := Option.some.inj H; go_enter Tryz.func38, Tryz.ntmps38; go_wp2
  repeat (go_quiet (fail); try go_wp2)
  go_ret
  exact ⟨z1_, z2_⟩
 rw [if_pos c3] at H; have c3b0 := beq_iff_eq.mpr c3; have c3b1 := bne_eq_false_iff_eq.mpr c3; have c3b2 : (l0.length == l1.length) = true := by first | simpa using c3 | (simp at c3 ⊢; omega)
 clear c3; have H' := Aside0.mk H; clear H; go_enter Tryz.func38, Tryz.ntmps38; go_wp2
 repeat (go_quiet (fail); try go_wp2)
 go_loopg [5] k (fun kq v5 w' => ∃ (x5_1 : Int), v5 = .int .i64 x5_1 ∧ Aside0 (graftageref06_Same.l0 kq l0 l1 x5_1 = some r) ∧ Aside0 (kq ≤ k) ∧ Drawn0 w w')
 case atStart => exact ⟨(0), z1_, H', ⟨Nat.le_refl _⟩, z2_⟩
 case round =>
  clear H'; try clear c1
  try clear p2
  try clear c3
  try clear c3b0
  try clear c3b1
  try clear c3b2
  obtain ⟨x5_1, rfl, HA, HK1, ⟨m1, rfl⟩⟩ := hrel
  cases gk with
  | zero => exact absurd HA.out (by simp [graftageref06_Same.l0])
  | succ k1 =>
   have H := HA.out; clear HA; simp only [graftageref06_Same.l0] at H; by_cases c4 : x5_1 < (l0.length : Int); rotate_left
   ·rw [if_neg c4] at H; have c4b0 := decide_eq_false c4; clear c4; obtain rfl := Option.some.inj H; go_wp2
    repeat (go_quiet (fail); try go_wp2)
    go_ret
    exact ⟨z1_, z2_⟩
   rw [if_pos c4] at H; have c4b0 := decide_eq_true c4; clear c4; by_cases c5 : 0 ≤ x5_1; rotate_left
   ·rw [if_neg c5] at H; exact absurd H (by simp)
   rw [if_pos c5] at H; have c5b0 := decide_eq_true c5; clear c5; by_cases c6 : x5_1 < (l1.length : Int); rotate_left
   ·rw [if_neg c6] at H; exact absurd H (by simp)
   rw [if_pos c6] at H; have c6b0 := decide_eq_true c6; clear c6; by_cases c7 : (rdOf ByteArray.empty l0 x5_1).toList = (rdOf ByteArray.empty l1 x5_1).toList; rotate_left
   ·rw [if_neg c7] at H; have c7b0 := beq_eq_false_iff_ne.mpr c7; have c7b1 := bne_iff_ne.mpr c7; obtain rfl := Option.some.inj H; have p101 : 0 ≤ (x5_1 : Int) := of_decide_eq_true z0_; have q101 : x5_1 < (l0.length : Int) := of_decide_eq_true z0_; obtain ⟨ad101, e101, hx101_0⟩ := Kd.at_string HR0.out x5_1 p101 q101
    cases e101
    replace p101 := eq_true p101; replace q101 := eq_true q101; have p102 : 0 ≤ (x5_1 : Int) := of_decide_eq_true z0_; have q102 : x5_1 < (l1.length : Int) := of_decide_eq_true z0_; obtain ⟨ad102, e102, hx102_0⟩ := Kd.at_string HR1.out x5_1 p102 q102
    cases e102
    replace p102 := eq_true p102; replace q102 := eq_true q102; go_wp2
    repeat (go_quiet (fail); try go_wp2)
    go_ret
    exact ⟨z1_, z2_⟩
   rw [if_pos c7] at H; have c7b0 := beq_iff_eq.mpr c7; have c7b1 := bne_eq_false_iff_eq.mpr c7; clear c7; have H' := Aside0.mk H; clear H; have p101 : 0 ≤ (x5_1 : Int) := of_decide_eq_true z0_; have q101 : x5_1 < (l0.length : Int) := of_decide_eq_true z0_; obtain ⟨ad101, e101, hx101_0⟩ := Kd.at_string HR0.out x5_1 p101 q101
   cases e101
   replace p101 := eq_true p101; replace q101 := eq_true q101; have p102 : 0 ≤ (x5_1 : Int) := of_decide_eq_true z0_; have q102 : x5_1 < (l1.length : Int) := of_decide_eq_true z0_; obtain ⟨ad102, e102, hx102_0⟩ := Kd.at_string HR1.out x5_1 p102 q102
   cases e102
   replace p102 := eq_true p102; replace q102 := eq_true q102; go_wp2
   repeat (go_quiet (fail); try go_wp2)
   go_roundg k1
   case measure => have := HK1.out; omega
   case rel => exact ⟨(wrap64 (x5_1 + 1)), z1_, H', ⟨by have := HK1.out; omega⟩, z2_⟩

end Go.Proofs.YtbhfbbfjdklfgaaGreatDoor.Q


namespace Go.Proofs.YtbhfbbfjdklfgaaGreatDoor.Q
open Go.RowKit Go.Proofs.YtbhfbbfjdklfgaaGreatDoorW.PrintWords Go.Proofs.YtbhfbbfjdklfgaaGreatDoorW.PrintLast Go.Proofs.YtbhfbbfjdklfgaaGreatDoorW.PrintMore
attribute [local go_sem] max2_int min2_int max_two min_two max_three min_three max_four min_four   -- for this text's walks alone

attribute [local go_sem high] eqA24
def graftageref16_Same.f (k : Nat) (a0_0 : ByteArray) (l0_1 : List ByteArray) (a0_2 : ByteArray) (a0_3 : ByteArray) (a0_4 : Int) (a0_5 : Int) (a0_6 : ByteArray) (a0_7 : ByteArray) (a0_8 : Int) (a0_9 : Int) (a0_10 : ByteArray) (a1_0 : ByteArray) (l1_1 : List ByteArray) (a1_2 : ByteArray) (a1_3 : ByteArray) (a1_4 : Int) (a1_5 : Int) (a1_6 : ByteArray) (a1_7 : ByteArray) (a1_8 : Int) (a1_9 : Int) (a1_10 : ByteArray) : Option (Bool) := if a0_0.toList = a1_0.toList then (if (a0_2.toList == a1_2.toList && (a0_3.toList == a1_3.toList && (a0_4 == a1_4 && (a0_5 == a1_5)))) = true then (if (a0_6.toList == a1_6.toList && (a0_7.toList == a1_7.toList && (a0_8 == a1_8 && (a0_9 == a1_9)))) = true then (if a0_10.toList = a1_10.toList then ((graftageref06_Same.f k l0_1 l1_1).bind fun t103 => (some t103)) else (some false)) else (some false)) else (some false)) else (some false)
set_option maxHeartbeats 8000000 in
set_option maxRecDepth 100000 in
theorem graftageref16_Same.calls (k : Nat) (a0_0 : ByteArray) (A0_1 : Option Addr) (c0_1 : Nat) (l0_1 : List ByteArray) (a0_2 : ByteArray) (a0_3 : ByteArray) (a0_4 : Int) (a0_5 : Int) (a0_6 : ByteArray) (a0_7 : ByteArray) (a0_8 : Int) (a0_9 : Int) (a0_10 : ByteArray) (a1_0 : ByteArray) (A1_1 : Option Addr) (c1_1 : Nat) (l1_1 : List ByteArray) (a1_2 : ByteArray) (a1_3 : ByteArray) (a1_4 : Int) (a1_5 : Int) (a1_6 : ByteArray) (a1_7 : ByteArray) (a1_8 : Int) (a1_9 : Int) (a1_10 : ByteArray) (r : Bool) (w : World) (hr0_1 : Kd.C Kd.string w A0_1 l0_1.length l0_1) (hc0_1 : l0_1.length ≤ c0_1) (hr1_1 : Kd.C Kd.string w A1_1 l1_1.length l1_1) (hc1_1 : l1_1.length ≤ c1_1) (h : graftageref16_Same.f k a0_0 l0_1 a0_2 a0_3 a0_4 a0_5 a0_6 a0_7 a0_8 a0_9 a0_10 a1_0 l1_1 a1_2 a1_3 a1_4 a1_5 a1_6 a1_7 a1_8 a1_9 a1_10 = some r) :
  Calls Tryz.prog 21 #[.agg #[.string a0_0, .slice A0_1 l0_1.length c0_1, .string a0_2, .string a0_3, .int .i64 a0_4, .int .i64 a0_5, .string a0_6, .string a0_7, .int .i64 a0_8, .int .i64 a0_9, .string a0_10], .agg #[.string a1_0, .slice A1_1 l1_1.length c1_1, .string a1_2, .string a1_3, .int .i64 a1_4, .int .i64 a1_5, .string a1_6, .string a1_7, .int .i64 a1_8, .int .i64 a1_9, .string a1_10]] w fun e w' => e = .returned (.bool r) ∧ Below w.heap.size w w' := by
 have hu26 := Tryz.underlying26; have hu24 := Tryz.underlying24; have HR0_1 := Aside0.mk hr0_1; have HC0_1 := Aside0.mk hc0_1; clear hr0_1 hc0_1; have HR1_1 := Aside0.mk hr1_1; have HC1_1 := Aside0.mk hc1_1; clear hr1_1 hc1_1; have HB := Aside0.mk (Below.refl w.heap.size w); unfold graftageref16_Same.f at h; have H := h; clear h; by_cases c3 : a0_0.toList = a1_0.toList; rotate_left
 ·rw [if_neg c3] at H; have c3b0 := beq_eq_false_iff_ne.mpr c3; have c3b1 := bne_iff_ne.mpr c3; obtain rfl := Option.some.inj H; go_enter Tryz.func21, Tryz.ntmps21; go_wp2_with (first | ((with_reducible refine gate_dst (N := 2) rfl ?_); refine be_ (cs := #[.string a0_0, .slice A0_1 l0_1.length c0_1, .string a0_2, .string a0_3, .int .i64 a0_4, .int .i64 a0_5, .string a0_6, .string a0_7, .int .i64 a0_8, .int .i64 a0_9, .string a0_10]) (t := 26) ?_; intro gb101 hg w28 hbox hb; have BK101 := Aside0.mk (hbox); have GW101 := ag_ hg HB; have GE101 := ag_ hg HB; replace HB := ah_ HB hb; clear hb hbox hg) | ((with_reducible refine gate_dst (N := 3) rfl ?_); refine be_ (cs := #[.string a1_0, .slice A1_1 l1_1.length c1_1, .string a1_2, .string a1_3, .int .i64 a1_4, .int .i64 a1_5, .string a1_6, .string a1_7, .int .i64 a1_8, .int .i64 a1_9, .string a1_10]) (t := 26) ?_; intro gb102 hg w29 hbox hb; have BK102 := Aside0.mk (hbox); have GW102 := Aside0.mk ((by rw [hg]; exact (below_size (hs_)) : w.heap.size ≤ gb102)); have GE102 := Aside0.mk ((by rw [hg]; exact (below_size (hs_)) : w.heap.size ≤ gb102)); replace HB := Aside0.mk (below_step (hs_) hb); have NB101_102 := Aside0.mk (nl2_ hg BK101.out); have NB102_101 := Aside0.mk (ng2_ hg BK101.out); replace BK101 := ab_ BK101 hb; clear hb hbox hg; have hnb30 := NB101_102.out; have hnc30 := NB102_101.out; obtain ⟨Z31_0, Z31_1, Z31_2, Z31_3, Z31_4, Z31_5, Z31_6, Z31_7, Z31_8, Z31_9, Z31_10, F31_0, F31_1, F31_2, F31_3, F31_4, F31_5, F31_6, F31_7, F31_8, F31_9, F31_10⟩ := bc11 BK101.out; obtain ⟨Z32_0, Z32_1, Z32_2, Z32_3, Z32_4, Z32_5, Z32_6, Z32_7, Z32_8, Z32_9, Z32_10, F32_0, F32_1, F32_2, F32_3, F32_4, F32_5, F32_6, F32_7, F32_8, F32_9, F32_10⟩ := bc11 BK102.out)); go_ret
  exact ⟨z3_, hs_⟩
 rw [if_pos c3] at H; have c3b0 := beq_iff_eq.mpr c3; have c3b1 := bne_eq_false_iff_eq.mpr c3; clear c3; by_cases c4 : (a0_2.toList == a1_2.toList && (a0_3.toList == a1_3.toList && (a0_4 == a1_4 && (a0_5 == a1_5)))) = true; rotate_left
 ·rw [if_neg c4] at H; have c4b0 : (a0_2.toList == a1_2.toList && (a0_3.toList == a1_3.toList && (a0_4 == a1_4 && (a0_5 == a1_5)))) = false := by simpa using c4
  (try (have c4b1 : decide (a0_2.toList = a1_2.toList && (a0_3.toList == a1_3.toList && (a0_4 == a1_4 && (a0_5 == a1_5)))) = false := by simpa using c4))
  (try (have c4b2 : (a0_2.toList == a1_2.toList && (a0_3.toList == a1_3.toList && (a0_4 == a1_4 && (a0_5 == a1_5)))) = false := by simpa using c4))
  (try (have c4b3 : ¬ (a0_2.toList = a1_2.toList && (a0_3.toList == a1_3.toList && (a0_4 == a1_4 && (a0_5 == a1_5)))) := by simpa using c4))
  clear c4; obtain rfl := Option.some.inj H; go_enter Tryz.func21, Tryz.ntmps21; go_wp2_with (first | ((with_reducible refine gate_dst (N := 2) rfl ?_); refine be_ (cs := #[.string a0_0, .slice A0_1 l0_1.length c0_1, .string a0_2, .string a0_3, .int .i64 a0_4, .int .i64 a0_5, .string a0_6, .string a0_7, .int .i64 a0_8, .int .i64 a0_9, .string a0_10]) (t := 26) ?_; intro gb101 hg w23 hbox hb; have BK101 := Aside0.mk (hbox); have GW101 := ag_ hg HB; have GE101 := ag_ hg HB; replace HB := ah_ HB hb; clear hb hbox hg) | ((with_reducible refine gate_dst (N := 3) rfl ?_); refine be_ (cs := #[.string a1_0, .slice A1_1 l1_1.length c1_1, .string a1_2, .string a1_3, .int .i64 a1_4, .int .i64 a1_5, .string a1_6, .string a1_7, .int .i64 a1_8, .int .i64 a1_9, .string a1_10]) (t := 26) ?_; intro gb102 hg w24 hbox hb; have BK102 := Aside0.mk (hbox); have GW102 := Aside0.mk ((by rw [hg]; exact (below_size (hs_)) : w.heap.size ≤ gb102)); have GE102 := Aside0.mk ((by rw [hg]; exact (below_size (hs_)) : w.heap.size ≤ gb102)); replace HB := Aside0.mk (below_step (hs_) hb); have NB101_102 := Aside0.mk (nl2_ hg BK101.out); have NB102_101 := Aside0.mk (ng2_ hg BK101.out); replace BK101 := ab_ BK101 hb; clear hb hbox hg; have hnb25 := NB101_102.out; have hnc25 := NB102_101.out; obtain ⟨Z26_0, Z26_1, Z26_2, Z26_3, Z26_4, Z26_5, Z26_6, Z26_7, Z26_8, Z26_9, Z26_10, F26_0, F26_1, F26_2, F26_3, F26_4, F26_5, F26_6, F26_7, F26_8, F26_9, F26_10⟩ := bc11 BK101.out; obtain ⟨Z27_0, Z27_1, Z27_2, Z27_3, Z27_4, Z27_5, Z27_6, Z27_7, Z27_8, Z27_9, Z27_10, F27_0, F27_1, F27_2, F27_3, F27_4, F27_5, F27_6, F27_7, F27_8, F27_9, F27_10⟩ := bc11 BK102.out)); go_ret
  exact ⟨z3_, hs_⟩
 rw [if_pos c4] at H; have c4b0 : (a0_2.toList == a1_2.toList && (a0_3.toList == a1_3.toList && (a0_4 == a1_4 && (a0_5 == a1_5)))) = true := c4; (try (have c4b1 : decide (a0_2.toList = a1_2.toList && (a0_3.toList == a1_3.toList && (a0_4 == a1_4 && (a0_5 == a1_5)))) = true := by simpa using c4))
 (try (have c4b2 : (a0_2.toList == a1_2.toList && (a0_3.toList == a1_3.toList && (a0_4 == a1_4 && (a0_5 == a1_5)))) = true := by simpa using c4))
 clear c4; by_cases c5 : (a0_6.toList == a1_6.toList && (a0_7.toList == a1_7.toList && (a0_8 == a1_8 && (a0_9 == a1_9)))) = true; rotate_left
 ·rw [if_neg c5] at H; have c5b0 : (a0_6.toList == a1_6.toList && (a0_7.toList == a1_7.toList && (a0_8 == a1_8 && (a0_9 == a1_9)))) = false := by simpa using c5
  (try (have c5b1 : decide (a0_6.toList = a1_6.toList && (a0_7.toList == a1_7.toList && (a0_8 == a1_8 && (a0_9 == a1_9)))) = false := by simpa using c5))
  (try (have c5b2 : (a0_6.toList == a1_6.toList && (a0_7.toList == a1_7.toList && (a0_8 == a1_8 && (a0_9 == a1_9)))) = false := by simpa using c5))
  (try (have c5b3 : ¬ (a0_6.toList = a1_6.toList && (a0_7.toList == a1_7.toList && (a0_8 == a1_8 && (a0_9 == a1_9)))) := by simpa using c5))
  clear c5; obtain rfl := Option.some.inj H; go_enter Tryz.func21, Tryz.ntmps21; go_wp2_with (first | ((with_reducible refine gate_dst (N := 2) rfl ?_); refine be_ (cs := #[.string a0_0, .slice A0_1 l0_1.length c0_1, .string a0_2, .string a0_3, .int .i64 a0_4, .int .i64 a0_5, .string a0_6, .string a0_7, .int .i64 a0_8, .int .i64 a0_9, .string a0_10]) (t := 26) ?_; intro gb101 hg w18 hbox hb; have BK101 := Aside0.mk (hbox); have GW101 := ag_ hg HB; have GE101 := ag_ hg HB; replace HB := ah_ HB hb; clear hb hbox hg) | ((with_reducible refine gate_dst (N := 3) rfl ?_); refine be_ (cs := #[.string a1_0, .slice A1_1 l1_1.length c1_1, .string a1_2, .string a1_3, .int .i64 a1_4, .int .i64 a1_5, .string a1_6, .string a1_7, .int .i64 a1_8, .int .i64 a1_9, .string a1_10]) (t := 26) ?_; intro gb102 hg w19 hbox hb; have BK102 := Aside0.mk (hbox); have GW102 := Aside0.mk ((by rw [hg]; exact (below_size (hs_)) : w.heap.size ≤ gb102)); have GE102 := Aside0.mk ((by rw [hg]; exact (below_size (hs_)) : w.heap.size ≤ gb102)); replace HB := Aside0.mk (below_step (hs_) hb); have NB101_102 := Aside0.mk (nl2_ hg BK101.out); have NB102_101 := Aside0.mk (ng2_ hg BK101.out); replace BK101 := ab_ BK101 hb; clear hb hbox hg; have hnb20 := NB101_102.out; have hnc20 := NB102_101.out; obtain ⟨Z21_0, Z21_1, Z21_2, Z21_3, Z21_4, Z21_5, Z21_6, Z21_7, Z21_8, Z21_9, Z21_10, F21_0, F21_1, F21_2, F21_3, F21_4, F21_5, F21_6, F21_7, F21_8, F21_9, F21_10⟩ := bc11 BK101.out; obtain ⟨Z22_0, Z22_1, Z22_2, Z22_3, Z22_4, Z22_5, Z22_6, Z22_7, Z22_8, Z22_9, Z22_10, F22_0, F22_1, F22_2, F22_3, F22_4, F22_5, F22_6, F22_7, F22_8, F22_9, F22_10⟩ := bc11 BK102.out)); go_ret
  exact ⟨z3_, hs_⟩
 rw [if_pos c5] at H; have c5b0 : (a0_6.toList == a1_6.toList && (a0_7.toList == a1_7.toList && (a0_8 == a1_8 && (a0_9 == a1_9)))) = true := c5; (try (have c5b1 : decide (a0_6.toList = a1_6.toList && (a0_7.toList == a1_7.toList && (a0_8 == a1_8 && (a0_9 == a1_9)))) = true := by simpa using c5))
 (try (have c5b2 : (a0_6.toList == a1_6.toList && (a0_7.toList == a1_7.toList && (a0_8 == a1_8 && (a0_9 == a1_9)))) = true := by simpa using c5))
 clear c5; by_cases c6 : a0_10.toList = a1_10.toList; rotate_left
 ·rw [if_neg c6] at H; have c6b0 := beq_eq_false_iff_ne.mpr c6; have c6b1 := bne_iff_ne.mpr c6; obtain rfl := Option.some.inj H; go_enter Tryz.func21, Tryz.ntmps21; go_wp2_with (first | ((with_reducible refine gate_dst (N := 2) rfl ?_); refine be_ (cs := #[.string a0_0, .slice A0_1 l0_1.length c0_1, .string a0_2, .string a0_3, .int .i64 a0_4, .int .i64 a0_5, .string a0_6, .string a0_7, .int .i64 a0_8, .int .i64 a0_9, .string a0_10]) (t := 26) ?_; intro gb101 hg w13 hbox hb; have BK101 := Aside0.mk (hbox); have GW101 := ag_ hg HB; have GE101 := ag_ hg HB; replace HB := ah_ HB hb; clear hb hbox hg) | ((with_reducible refine gate_dst (N := 3) rfl ?_); refine be_ (cs := #[.string a1_0, .slice A1_1 l1_1.length c1_1, .string a1_2, .string a1_3, .int .i64 a1_4, .int .i64 a1_5, .string a1_6, .string a1_7, .int .i64 a1_8, .int .i64 a1_9, .string a1_10]) (t := 26) ?_; intro gb102 hg w14 hbox hb; have BK102 := Aside0.mk (hbox); have GW102 := Aside0.mk ((by rw [hg]; exact (below_size (hs_)) : w.heap.size ≤ gb102)); have GE102 := Aside0.mk ((by rw [hg]; exact (below_size (hs_)) : w.heap.size ≤ gb102)); replace HB := Aside0.mk (below_step (hs_) hb); have NB101_102 := Aside0.mk (nl2_ hg BK101.out); have NB102_101 := Aside0.mk (ng2_ hg BK101.out); replace BK101 := ab_ BK101 hb; clear hb hbox hg; have hnb15 := NB101_102.out; have hnc15 := NB102_101.out; obtain ⟨Z16_0, Z16_1, Z16_2, Z16_3, Z16_4, Z16_5, Z16_6, Z16_7, Z16_8, Z16_9, Z16_10, F16_0, F16_1, F16_2, F16_3, F16_4, F16_5, F16_6, F16_7, F16_8, F16_9, F16_10⟩ := bc11 BK101.out; obtain ⟨Z17_0, Z17_1, Z17_2, Z17_3, Z17_4, Z17_5, Z17_6, Z17_7, Z17_8, Z17_9, Z17_10, F17_0, F17_1, F17_2, F17_3, F17_4, F17_5, F17_6, F17_7, F17_8, F17_9, F17_10⟩ := bc11 BK102.out)); go_ret
  exact ⟨z3_, hs_⟩
 rw [if_pos c6] at H; have c6b0 := beq_iff_eq.mpr c6; have c6b1 := bne_eq_false_iff_eq.mpr c6; clear c6; replace H := Option.bind_eq_some_iff.mp H; obtain ⟨t103, A70, H⟩ := H; have A7 := Aside0.mk A70; clear A70; obtain rfl := Option.some.inj H; go_enter Tryz.func21, Tryz.ntmps21; go_wp2_with (first | ((with_reducible refine gate_dst (N := 2) rfl ?_); refine be_ (cs := #[.string a0_0, .slice A0_1 l0_1.length c0_1, .string a0_2, .string a0_3, .int .i64 a0_4, .int .i64 a0_5, .string a0_6, .string a0_7, .int .i64 a0_8, .int .i64 a0_9, .string a0_10]) (t := 26) ?_; intro gb101 hg w8 hbox hb; have BK101 := Aside0.mk (hbox); have GW101 := ag_ hg HB; have GE101 := ag_ hg HB; replace HB := ah_ HB hb; clear hb hbox hg) | ((with_reducible refine gate_dst (N := 3) rfl ?_); refine be_ (cs := #[.string a1_0, .slice A1_1 l1_1.length c1_1, .string a1_2, .string a1_3, .int .i64 a1_4, .int .i64 a1_5, .string a1_6, .string a1_7, .int .i64 a1_8, .int .i64 a1_9, .string a1_10]) (t := 26) ?_; intro gb102 hg w9 hbox hb; have BK102 := Aside0.mk (hbox); have GW102 := Aside0.mk ((by rw [hg]; exact (below_size (hs_)) : w.heap.size ≤ gb102)); have GE102 := Aside0.mk ((by rw [hg]; exact (below_size (hs_)) : w.heap.size ≤ gb102)); replace HB := Aside0.mk (below_step (hs_) hb); have NB101_102 := Aside0.mk (nl2_ hg BK101.out); have NB102_101 := Aside0.mk (ng2_ hg BK101.out); replace BK101 := ab_ BK101 hb; clear hb hbox hg; have hnb10 := NB101_102.out; have hnc10 := NB102_101.out; obtain ⟨Z11_0, Z11_1, Z11_2, Z11_3, Z11_4, Z11_5, Z11_6, Z11_7, Z11_8, Z11_9, Z11_10, F11_0, F11_1, F11_2, F11_3, F11_4, F11_5, F11_6, F11_7, F11_8, F11_9, F11_10⟩ := bc11 BK101.out; obtain ⟨Z12_0, Z12_1, Z12_2, Z12_3, Z12_4, Z12_5, Z12_6, Z12_7, Z12_8, Z12_9, Z12_10, F12_0, F12_1, F12_2, F12_3, F12_4, F12_5, F12_6, F12_7, F12_8, F12_9, F12_10⟩ := bc11 BK102.out) | (go_at_call 38; (with_reducible refine (graftageref06_Same.calls k _ _ l0_1 _ _ l1_1 t103 _ ?side1 ?side2 ?side3 ?side4 A7.out).mono ?_); (case side1 => repeat (first | exact (Kd.C_below HR0_1.out HB.out) | (with_reducible refine Kd.C_alloc ?_ _) | (with_reducible refine Kd.C_drewN ?_ _) | (with_reducible refine Kd.C_drew ?_))); (case side2 => exact HC0_1.out); (case side3 => repeat (first | exact (Kd.C_below HR1_1.out HB.out) | (with_reducible refine Kd.C_alloc ?_ _) | (with_reducible refine Kd.C_drewN ?_ _) | (with_reducible refine Kd.C_drew ?_))); (case side4 => exact HC1_1.out); rintro e w' ⟨rfl, ⟨nd, rfl⟩⟩)); go_ret
 exact ⟨z3_, hs_⟩


def graftageref16_zero.l0 : Nat → ByteArray → Int → Option (Bool)
 | 0, _, _ => none
 | k + 1, x0, x3 => if x3 < (x0.size : Int) then (if 0 ≤ x3 then (if (bt x0 x3) = 0 then (some true) else (graftageref16_zero.l0 k x0 (wrap64 (x3 + 1)))) else (none)) else (some false)
def graftageref16_zero.f (k : Nat) (a0 : ByteArray) : Option (Bool) := graftageref16_zero.l0 k a0 0
set_option maxHeartbeats 8000000 in
set_option maxRecDepth 100000 in
theorem graftageref16_zero.calls (k : Nat) (a0 : ByteArray) (r : Bool) (w : World) (h : graftageref16_zero.f k a0 = some r) :
  Calls Tryz.prog 69 #[.string a0] w fun e w' => e = .returned (.bool r) ∧ Drawn0 w w' := by
 unfold graftageref16_zero.f at h; have H := h; clear h; have H' := Aside0.mk H; clear H; go_enter Tryz.func69, Tryz.ntmps69; go_wp2
 go_loopg [3] k (fun kq v3 w' => ∃ (x3_1 : Int), v3 = .int .i64 x3_1 ∧ Aside0 (graftageref16_zero.l0 kq a0 x3_1 = some r) ∧ Aside0 (kq ≤ k) ∧ Drawn0 w w')
 case atStart => exact ⟨(0), z1_, H', ⟨Nat.le_refl _⟩, z2_⟩
 case round =>
  clear H'; obtain ⟨x3_1, rfl, HA, HK1, ⟨m1, rfl⟩⟩ := hrel
  cases gk with
  | zero => exact absurd HA.out (by simp [graftageref16_zero.l0])
  | succ k1 =>
   have H := HA.out; clear HA; simp only [graftageref16_zero.l0] at H; by_cases c2 : x3_1 < (a0.size : Int); rotate_left
   ·rw [if_neg c2] at H; have c2b0 := decide_eq_false c2; clear c2; obtain rfl := Option.some.inj H; go_wp2
    go_ret
    exact ⟨z1_, z2_⟩
   rw [if_pos c2] at H; have c2b0 := decide_eq_true c2; clear c2; by_cases c3 : 0 ≤ x3_1; rotate_left
   ·rw [if_neg c3] at H; exact absurd H (by simp)
   rw [if_pos c3] at H; have c3b0 := decide_eq_true c3; clear c3; by_cases c5 : (bt a0 x3_1) = 0
   ·rw [if_pos c5] at H; have c5b0 := beq_iff_eq.mpr c5; have c5b1 := bne_eq_false_iff_eq.mpr c5; clear c5; obtain rfl := Option.some.inj H; have p4 : 0 ≤ (x3_1 : Int) := of_decide_eq_true z0_; have q4 : x3_1 < (a0.size : Int) := of_decide_eq_true z0_; have hx4 := bt_at a0 x3_1; replace p4 := eq_true p4; replace q4 := eq_true q4; go_wp2
    go_ret
    exact ⟨z1_, z2_⟩
   rw [if_neg c5] at H; have c5b0 := beq_eq_false_iff_ne.mpr c5; have c5b1 := bne_iff_ne.mpr c5; have H' := Aside0.mk H; clear H; have p4 : 0 ≤ (x3_1 : Int) := of_decide_eq_true z0_; have q4 : x3_1 < (a0.size : Int) := of_decide_eq_true z0_; have hx4 := bt_at a0 x3_1; replace p4 := eq_true p4; replace q4 := eq_true q4; go_wp2
   go_roundg k1
   case measure => have := HK1.out; omega
   case rel => exact ⟨(wrap64 (x3_1 + 1)), z1_, H', ⟨by have := HK1.out; omega⟩, z2_⟩


mutual
def graftageref16_named.j0 : Nat → ByteArray → Bool → Option (Bool)
 | 0, _, _ => none
 | k + 1, x0, x24 => if x24 = true then (some false) else (graftageref16_named.l0 k x0 0)
def graftageref16_named.l0 : Nat → ByteArray → Int → Option (Bool)
 | 0, _, _ => none
 | k + 1, x0, x3 => if x3 < (x0.size : Int) then (if 0 ≤ x3 then (if (bt x0 x3) < 32 then (some false) else (if (bt x0 x3) = 60 then (some false) else (if (bt x0 x3) = 62 then (some false) else (graftageref16_named.l0 k x0 (wrap64 (x3 + 1)))))) else (none)) else (some true)
end
def graftageref16_named.f (k : Nat) (a0 : ByteArray) : Option (Bool) := if (a0.size : Int) < 1 then (graftageref16_named.j0 k a0 true) else (if (a0.size : Int) > 64 then (graftageref16_named.j0 k a0 true) else (if 0 < (a0.size : Int) then (if (bt a0 0) = 32 then (graftageref16_named.j0 k a0 true) else (if 0 ≤ (wrap64 ((a0.size : Int) - 1)) then (if (wrap64 ((a0.size : Int) - 1)) < (a0.size : Int) then (graftageref16_named.j0 k a0 ((bt a0 (wrap64 ((a0.size : Int) - 1))) == 32)) else (none)) else (none))) else (none)))
set_option maxHeartbeats 8000000 in
set_option maxRecDepth 100000 in
theorem graftageref16_named.calls (k : Nat) (a0 : ByteArray) (r : Bool) (w : World) (h : graftageref16_named.f k a0 = some r) :
  Calls Tryz.prog 92 #[.string a0] w fun e w' => e = .returned (.bool r) ∧ Drawn0 w w' := by
 unfold graftageref16_named.f at h; have H := h; clear h; have HC2 := Aside0.mk H; clear H; go_enter Tryz.func92, Tryz.ntmps92; go_upto_region 1 with (fail)
 go_cut [24] (fun v24 wc => ∃ (kq : Nat) (x24_1 : Bool), v24 = .bool x24_1 ∧ Aside0 (graftageref16_named.j0 kq a0 x24_1 = some r) ∧ Aside0 (kq ≤ k) ∧ Drawn0 w wc)
 case first =>
  have H := HC2.out; clear HC2; by_cases c3 : (a0.size : Int) < 1
  ·rw [if_pos c3] at H; have c3b0 := decide_eq_true c3; have c3b1 : decide (a0.size < 1) = true := decide_eq_true (by omega); clear c3; (first | rw [c3b0] | (simp only [i64_w, i32_w]; rw [c3b0]) | skip); have H' := Aside0.mk H; clear H; go_wp2
   go_meet
   case rel => exact ⟨_, (true), z1_, H', ⟨z4_⟩, z2_⟩
  rw [if_neg c3] at H; have c3b0 := decide_eq_false c3; have c3b1 : decide (a0.size < 1) = false := decide_eq_false (by omega); clear c3; (first | rw [c3b0] | (simp only [i64_w, i32_w]; rw [c3b0]) | skip); by_cases c4 : (a0.size : Int) > 64
  ·rw [if_pos c4] at H; have c4b0 := decide_eq_true c4; have c4b1 : decide (64 < a0.size) = true := decide_eq_true (by omega); clear c4; have H' := Aside0.mk H; clear H; go_wp2
   go_meet
   case rel => exact ⟨_, (true), z1_, H', ⟨z4_⟩, z2_⟩
  rw [if_neg c4] at H; have c4b0 := decide_eq_false c4; have c4b1 : decide (64 < a0.size) = false := decide_eq_false (by omega); clear c4; by_cases c5 : 0 < (a0.size : Int); rotate_left
  ·rw [if_neg c5] at H; exact absurd H (by simp)
  rw [if_pos c5] at H; have c5b0 := decide_eq_true c5; have c5b1 : decide (0 < a0.size) = true := decide_eq_true (by omega); clear c5; by_cases c7 : (bt a0 0) = 32
  ·rw [if_pos c7] at H; have c7b0 := beq_iff_eq.mpr c7; have c7b1 := bne_eq_false_iff_eq.mpr c7; clear c7; have H' := Aside0.mk H; clear H; have p6 : 0 ≤ (0 : Int) := (by omega); have q6 : 0 < a0.size := (by have : (0 : Int) < (a0.size : Int) := of_decide_eq_true z0_; omega)
   have hx6 : ∀ h : 0 < a0.size, ((a0[0]'h).toNat : Int) = bt a0 0 := bt_at a0 0; clear p6; have qi6 : (0 < (a0.size : Int)) = True := eq_true (of_decide_eq_true z0_); replace q6 := eq_true q6; go_wp2
   go_meet
   case rel => exact ⟨_, (true), z1_, H', ⟨z4_⟩, z2_⟩
  rw [if_neg c7] at H; have c7b0 := beq_eq_false_iff_ne.mpr c7; have c7b1 := bne_iff_ne.mpr c7; obtain ⟨ji8, hji8⟩ : ∃ j_ : Int, (wrap64 ((a0.size : Int) - 1)) = j_ := ⟨_, rfl⟩; replace H : (if 0 ≤ (ji8) then (if (ji8) < (a0.size : Int) then (graftageref16_named.j0 k a0 ((bt a0 (ji8)) == 32)) else (none)) else (none)) = some r := by first | (rw [hji8] at H; exact H) | (simp only [hji8] at H ⊢; exact H)
  have hji8w : (IntKind.i64.wrap ((a0.size : Int) - 1)) = ji8 := (i64_w _).trans hji8; by_cases c9 : 0 ≤ (ji8); rotate_left
  ·rw [if_neg c9] at H; exact absurd H (by simp)
  rw [if_pos c9] at H; have c9b0 := decide_eq_true c9; clear c9; by_cases c10 : (ji8) < (a0.size : Int); rotate_left
  ·rw [if_neg c10] at H; exact absurd H (by simp)
  rw [if_pos c10] at H; have c10b0 := decide_eq_true c10; clear c10; have H' := Aside0.mk H; clear H; have p6 : 0 ≤ (0 : Int) := (by omega); have q6 : 0 < a0.size := (by have : (0 : Int) < (a0.size : Int) := of_decide_eq_true z0_; omega)
  have hx6 : ∀ h : 0 < a0.size, ((a0[0]'h).toNat : Int) = bt a0 0 := bt_at a0 0; clear p6; have qi6 : (0 < (a0.size : Int)) = True := eq_true (of_decide_eq_true z0_); replace q6 := eq_true q6; have p11 : 0 ≤ ((ji8) : Int) := of_decide_eq_true z0_; have q11 : (ji8) < (a0.size : Int) := of_decide_eq_true z0_; have hx11 := bt_at a0 (ji8); replace p11 := eq_true p11; replace q11 := eq_true q11; go_wp2
  go_meet
  case rel => exact ⟨_, (((bt a0 (ji8)) == 32)), (by first | rfl | (simp; done) | (simp only [← hji8] <;> (first | rfl | simp)) | (simp [*]; done)), H', ⟨z4_⟩, z2_⟩
 case rest =>
  clear HC2; try clear c1
  try clear p1
  try clear q1
  try clear hx1
  try clear p2
  try clear c3
  try clear c3b0
  try clear c3b1
  try clear c4
  try clear c4b0
  try clear c4b1
  try clear c5
  try clear c5b0
  try clear c5b1
  try clear p6
  try clear q6
  try clear hx6
  try clear qi6
  try clear c7
  try clear c7b0
  try clear c7b1
  try clear c9
  try clear c9b0
  try clear c10
  try clear c10b0
  try clear p11
  try clear q11
  try clear hx11
  try clear p11
  try clear p6
  try clear q11
  try clear q6
  obtain ⟨kq, x24_1, rfl, HA, HJ1, ⟨mc1, rfl⟩⟩ := hcut
  cases kq with
  | zero => exact absurd HA.out (by simp [graftageref16_named.j0])
  | succ kj1 =>
   have H := HA.out; clear HA; simp only [graftageref16_named.j0] at H; by_cases c12 : x24_1 = true
   ·subst c12; rw [if_pos rfl] at H; obtain rfl := Option.some.inj H; go_wp2
    go_ret
    exact ⟨z1_, z2_⟩
   replace c12 := Bool.eq_false_iff.mpr c12; subst c12; rw [if_neg nft_] at H; have H' := Aside0.mk H; clear H; go_wp2
   go_loopg [3] kj1 (fun kq v3 w' => ∃ (x3_2 : Int), v3 = .int .i64 x3_2 ∧ Aside0 (graftageref16_named.l0 kq a0 x3_2 = some r) ∧ Aside0 (kq ≤ kj1) ∧ Drawn0 w w')
   case atStart => exact ⟨(0), z1_, H', ⟨Nat.le_refl _⟩, z2_⟩
   case round =>
    clear H'; try clear c1
    try clear p1
    try clear q1
    try clear hx1
    try clear p2
    try clear c3
    try clear c3b0
    try clear c3b1
    try clear c4
    try clear c4b0
    try clear c4b1
    try clear c5
    try clear c5b0
    try clear c5b1
    try clear p6
    try clear q6
    try clear hx6
    try clear qi6
    try clear c7
    try clear c7b0
    try clear c7b1
    try clear c9
    try clear c9b0
    try clear c10
    try clear c10b0
    try clear p11
    try clear q11
    try clear hx11
    try clear c12
    try clear p1
    try clear p11
    try clear p2
    try clear p6
    try clear q1
    try clear q11
    try clear q6
    obtain ⟨x3_2, rfl, HA, HK2, ⟨m2, rfl⟩⟩ := hrel
    cases gk with
    | zero => exact absurd HA.out (by simp [graftageref16_named.l0])
    | succ k2 =>
     have H := HA.out; clear HA; simp only [graftageref16_named.l0] at H; by_cases c13 : x3_2 < (a0.size : Int); rotate_left
     ·rw [if_neg c13] at H; have c13b0 := decide_eq_false c13; clear c13; obtain rfl := Option.some.inj H; go_wp2
      go_ret
      exact ⟨z1_, z2_⟩
     rw [if_pos c13] at H; have c13b0 := decide_eq_true c13; clear c13; by_cases c14 : 0 ≤ x3_2; rotate_left
     ·rw [if_neg c14] at H; exact absurd H (by simp)
     rw [if_pos c14] at H; have c14b0 := decide_eq_true c14; clear c14; by_cases c16 : (bt a0 x3_2) < 32
     ·rw [if_pos c16] at H; have c16b0 := decide_eq_true c16; clear c16; obtain rfl := Option.some.inj H; have p15 : 0 ≤ (x3_2 : Int) := of_decide_eq_true z0_; have q15 : x3_2 < (a0.size : Int) := of_decide_eq_true z0_; have hx15 := bt_at a0 x3_2; replace p15 := eq_true p15; replace q15 := eq_true q15; go_wp2
      go_ret
      exact ⟨z1_, z2_⟩
     rw [if_neg c16] at H; have c16b0 := decide_eq_false c16; clear c16; by_cases c18 : (bt a0 x3_2) = 60
     ·rw [if_pos c18] at H; have c18b0 := beq_iff_eq.mpr c18; have c18b1 := bne_eq_false_iff_eq.mpr c18; clear c18; obtain rfl := Option.some.inj H; have p15 : 0 ≤ (x3_2 : Int) := of_decide_eq_true z0_; have q15 : x3_2 < (a0.size : Int) := of_decide_eq_true z0_; have hx15 := bt_at a0 x3_2; replace p15 := eq_true p15; replace q15 := eq_true q15; have p17 : 0 ≤ (x3_2 : Int) := of_decide_eq_true z0_; have q17 : x3_2 < (a0.size : Int) := of_decide_eq_true z0_; have hx17 := bt_at a0 x3_2; replace p17 := eq_true p17; replace q17 := eq_true q17; go_wp2
      go_ret
      exact ⟨z1_, z2_⟩
     rw [if_neg c18] at H; have c18b0 := beq_eq_false_iff_ne.mpr c18; have c18b1 := bne_iff_ne.mpr c18; by_cases c20 : (bt a0 x3_2) = 62
     ·rw [if_pos c20] at H; have c20b0 := beq_iff_eq.mpr c20; have c20b1 := bne_eq_false_iff_eq.mpr c20; clear c20; obtain rfl := Option.some.inj H; have p15 : 0 ≤ (x3_2 : Int) := of_decide_eq_true z0_; have q15 : x3_2 < (a0.size : Int) := of_decide_eq_true z0_; have hx15 := bt_at a0 x3_2; replace p15 := eq_true p15; replace q15 := eq_true q15; have p17 : 0 ≤ (x3_2 : Int) := of_decide_eq_true z0_; have q17 : x3_2 < (a0.size : Int) := of_decide_eq_true z0_; have hx17 := bt_at a0 x3_2; replace p17 := eq_true p17; replace q17 := eq_true q17; have p19 : 0 ≤ (x3_2 : Int) := of_decide_eq_true z0_; have q19 : x3_2 < (a0.size : Int) := of_decide_eq_true z0_; have hx19 := bt_at a0 x3_2; replace p19 := eq_true p19; replace q19 := eq_true q19; go_wp2
      go_ret
      exact ⟨z1_, z2_⟩
     rw [if_neg c20] at H; have c20b0 := beq_eq_false_iff_ne.mpr c20; have c20b1 := bne_iff_ne.mpr c20; have H' := Aside0.mk H; clear H; have p15 : 0 ≤ (x3_2 : Int) := of_decide_eq_true z0_; have q15 : x3_2 < (a0.size : Int) := of_decide_eq_true z0_; have hx15 := bt_at a0 x3_2; replace p15 := eq_true p15; replace q15 := eq_true q15; have p17 : 0 ≤ (x3_2 : Int) := of_decide_eq_true z0_; have q17 : x3_2 < (a0.size : Int) := of_decide_eq_true z0_; have hx17 := bt_at a0 x3_2; replace p17 := eq_true p17; replace q17 := eq_true q17; have p19 : 0 ≤ (x3_2 : Int) := of_decide_eq_true z0_; have q19 : x3_2 < (a0.size : Int) := of_decide_eq_true z0_; have hx19 := bt_at a0 x3_2; replace p19 := eq_true p19; replace q19 := eq_true q19; go_wp2
     go_roundg k2
     case measure => have := HJ1.out; have := HK2.out; omega
     case rel => exact ⟨(wrap64 (x3_2 + 1)), z1_, H', ⟨by have := HJ1.out; have := HK2.out; omega⟩, z2_⟩


def graftageref16_Person.f (k : Nat) (a0_0 : ByteArray) (a0_1 : ByteArray) (a0_2 : Int) (a0_3 : Int) : Option (Bool) := (graftageref16_named.f k a0_0).bind fun t105 => (if t105 = true then ((graftageref16_named.f k a0_1).bind fun t106 => (if t106 = true then (if a0_2 ≥ 0 then (if a0_2 ≤ 1099511627776 then (if a0_3 ≥ (-840) then (some (decide (a0_3 ≤ 840))) else (some false)) else (some false)) else (some false)) else (some false))) else (some false))
set_option maxHeartbeats 8000000 in
set_option maxRecDepth 100000 in
theorem graftageref16_Person.calls (k : Nat) (a0_0 : ByteArray) (a0_1 : ByteArray) (a0_2 : Int) (a0_3 : Int) (r : Bool) (w : World) (h : graftageref16_Person.f k a0_0 a0_1 a0_2 a0_3 = some r) :
  Calls Tryz.prog 32 #[.agg #[.string a0_0, .string a0_1, .int .i64 a0_2, .int .i64 a0_3]] w fun e w' => e = .returned (.bool r) ∧ Below w.heap.size w w' := by
 have hu24 := Tryz.underlying24; have HB := Aside0.mk (Below.refl w.heap.size w); unfold graftageref16_Person.f at h; have H := h; clear h; replace H := Option.bind_eq_some_iff.mp H; obtain ⟨t105, A20, H⟩ := H; have A2 := Aside0.mk A20; clear A20; by_cases c3 : t105 = true; rotate_left
 ·replace c3 := Bool.eq_false_iff.mpr c3; subst c3; rw [if_neg nft_] at H; obtain rfl := Option.some.inj H; go_enter Tryz.func32, Tryz.ntmps32; go_wp2_with (first | ((with_reducible refine gate_dst (N := 1) rfl ?_); refine be_ (cs := #[.string a0_0, .string a0_1, .int .i64 a0_2, .int .i64 a0_3]) (t := 24) ?_; intro gb104 hg w19 hbox hb; have BK104 := Aside0.mk (hbox); have GW104 := ag_ hg HB; have GE104 := ag_ hg HB; replace HB := ah_ HB hb; clear hb hbox hg; obtain ⟨Z20_0, Z20_1, Z20_2, Z20_3, F20_0, F20_1, F20_2, F20_3⟩ := bc4 BK104.out) | ((with_reducible refine gate_callee (f := 92) rfl ?_); refine gl_ (some 5) Tryz.func92 #[.string a0_0] ?_; (with_reducible refine (graftageref16_named.calls k a0_0 false _ A2.out).mono ?_); rintro e w' ⟨rfl, ⟨nd, rfl⟩⟩; refine ⟨_, rfl, ?_⟩)); go_ret
  exact ⟨z3_, hs_⟩
 subst c3; rw [if_pos rfl] at H; replace H := Option.bind_eq_some_iff.mp H; obtain ⟨t106, A40, H⟩ := H; have A4 := Aside0.mk A40; clear A40; by_cases c5 : t106 = true; rotate_left
 ·replace c5 := Bool.eq_false_iff.mpr c5; subst c5; rw [if_neg nft_] at H; obtain rfl := Option.some.inj H; go_enter Tryz.func32, Tryz.ntmps32; have tk9_ : True := trivial; have tk10_ : True := trivial; go_wp2_with (first | ((with_reducible refine gate_dst (N := 1) rfl ?_); refine be_ (cs := #[.string a0_0, .string a0_1, .int .i64 a0_2, .int .i64 a0_3]) (t := 24) ?_; intro gb104 hg w17 hbox hb; have BK104 := Aside0.mk (hbox); have GW104 := ag_ hg HB; have GE104 := ag_ hg HB; replace HB := ah_ HB hb; clear hb hbox hg; obtain ⟨Z18_0, Z18_1, Z18_2, Z18_3, F18_0, F18_1, F18_2, F18_3⟩ := bc4 BK104.out) | (have _t := tk9_; (with_reducible refine gate_callee (f := 92) rfl ?_); refine gl_ (some 5) Tryz.func92 #[.string a0_0] ?_; (with_reducible refine (graftageref16_named.calls k a0_0 true _ A2.out).mono ?_); rintro e w' ⟨rfl, ⟨nd, rfl⟩⟩; refine ⟨_, rfl, ?_⟩; clear tk9_) | (go_at_call 92; have _t := tk10_; (with_reducible refine (graftageref16_named.calls k a0_1 false _ A4.out).mono ?_); rintro e w' ⟨rfl, ⟨nd, rfl⟩⟩; clear tk10_)); go_ret
  exact ⟨z3_, hs_⟩
 subst c5; rw [if_pos rfl] at H; by_cases c6 : a0_2 ≥ 0; rotate_left
 ·rw [if_neg c6] at H; have c6b0 := decide_eq_false c6; clear c6; obtain rfl := Option.some.inj H; go_enter Tryz.func32, Tryz.ntmps32; have tk7_ : True := trivial; have tk8_ : True := trivial; go_wp2_with (first | ((with_reducible refine gate_dst (N := 1) rfl ?_); refine be_ (cs := #[.string a0_0, .string a0_1, .int .i64 a0_2, .int .i64 a0_3]) (t := 24) ?_; intro gb104 hg w15 hbox hb; have BK104 := Aside0.mk (hbox); have GW104 := ag_ hg HB; have GE104 := ag_ hg HB; replace HB := ah_ HB hb; clear hb hbox hg; obtain ⟨Z16_0, Z16_1, Z16_2, Z16_3, F16_0, F16_1, F16_2, F16_3⟩ := bc4 BK104.out) | (have _t := tk7_; (with_reducible refine gate_callee (f := 92) rfl ?_); refine gl_ (some 5) Tryz.func92 #[.string a0_0] ?_; (with_reducible refine (graftageref16_named.calls k a0_0 true _ A2.out).mono ?_); rintro e w' ⟨rfl, ⟨nd, rfl⟩⟩; refine ⟨_, rfl, ?_⟩; clear tk7_) | (go_at_call 92; have _t := tk8_; (with_reducible refine (graftageref16_named.calls k a0_1 true _ A4.out).mono ?_); rintro e w' ⟨rfl, ⟨nd, rfl⟩⟩; clear tk8_)); go_ret
  exact ⟨z3_, hs_⟩
 rw [if_pos c6] at H; have c6b0 := decide_eq_true c6; clear c6; by_cases c7 : a0_2 ≤ 1099511627776; rotate_left
 ·rw [if_neg c7] at H; have c7b0 := decide_eq_false c7; clear c7; obtain rfl := Option.some.inj H; go_enter Tryz.func32, Tryz.ntmps32; have tk5_ : True := trivial; have tk6_ : True := trivial; go_wp2_with (first | ((with_reducible refine gate_dst (N := 1) rfl ?_); refine be_ (cs := #[.string a0_0, .string a0_1, .int .i64 a0_2, .int .i64 a0_3]) (t := 24) ?_; intro gb104 hg w13 hbox hb; have BK104 := Aside0.mk (hbox); have GW104 := ag_ hg HB; have GE104 := ag_ hg HB; replace HB := ah_ HB hb; clear hb hbox hg; obtain ⟨Z14_0, Z14_1, Z14_2, Z14_3, F14_0, F14_1, F14_2, F14_3⟩ := bc4 BK104.out) | (have _t := tk5_; (with_reducible refine gate_callee (f := 92) rfl ?_); refine gl_ (some 5) Tryz.func92 #[.string a0_0] ?_; (with_reducible refine (graftageref16_named.calls k a0_0 true _ A2.out).mono ?_); rintro e w' ⟨rfl, ⟨nd, rfl⟩⟩; refine ⟨_, rfl, ?_⟩; clear tk5_) | (go_at_call 92; have _t := tk6_; (with_reducible refine (graftageref16_named.calls k a0_1 true _ A4.out).mono ?_); rintro e w' ⟨rfl, ⟨nd, rfl⟩⟩; clear tk6_)); go_ret
  exact ⟨z3_, hs_⟩
 rw [if_pos c7] at H; have c7b0 := decide_eq_true c7; clear c7; by_cases c8 : a0_3 ≥ (-840)
 ·rw [if_pos c8] at H; have c8b0 := decide_eq_true c8; clear c8; obtain rfl := Option.some.inj H; go_enter Tryz.func32, Tryz.ntmps32; have tk1_ : True := trivial; have tk2_ : True := trivial; go_wp2_with (first | ((with_reducible refine gate_dst (N := 1) rfl ?_); refine be_ (cs := #[.string a0_0, .string a0_1, .int .i64 a0_2, .int .i64 a0_3]) (t := 24) ?_; intro gb104 hg w9 hbox hb; have BK104 := Aside0.mk (hbox); have GW104 := ag_ hg HB; have GE104 := ag_ hg HB; replace HB := ah_ HB hb; clear hb hbox hg; obtain ⟨Z10_0, Z10_1, Z10_2, Z10_3, F10_0, F10_1, F10_2, F10_3⟩ := bc4 BK104.out) | (have _t := tk1_; (with_reducible refine gate_callee (f := 92) rfl ?_); refine gl_ (some 5) Tryz.func92 #[.string a0_0] ?_; (with_reducible refine (graftageref16_named.calls k a0_0 true _ A2.out).mono ?_); rintro e w' ⟨rfl, ⟨nd, rfl⟩⟩; refine ⟨_, rfl, ?_⟩; clear tk1_) | (go_at_call 92; have _t := tk2_; (with_reducible refine (graftageref16_named.calls k a0_1 true _ A4.out).mono ?_); rintro e w' ⟨rfl, ⟨nd, rfl⟩⟩; clear tk2_)); go_ret
  exact ⟨z3_, hs_⟩
 rw [if_neg c8] at H; have c8b0 := decide_eq_false c8; clear c8; obtain rfl := Option.some.inj H; go_enter Tryz.func32, Tryz.ntmps32; have tk3_ : True := trivial; have tk4_ : True := trivial; go_wp2_with (first | ((with_reducible refine gate_dst (N := 1) rfl ?_); refine be_ (cs := #[.string a0_0, .string a0_1, .int .i64 a0_2, .int .i64 a0_3]) (t := 24) ?_; intro gb104 hg w11 hbox hb; have BK104 := Aside0.mk (hbox); have GW104 := ag_ hg HB; have GE104 := ag_ hg HB; replace HB := ah_ HB hb; clear hb hbox hg; obtain ⟨Z12_0, Z12_1, Z12_2, Z12_3, F12_0, F12_1, F12_2, F12_3⟩ := bc4 BK104.out) | (have _t := tk3_; (with_reducible refine gate_callee (f := 92) rfl ?_); refine gl_ (some 5) Tryz.func92 #[.string a0_0] ?_; (with_reducible refine (graftageref16_named.calls k a0_0 true _ A2.out).mono ?_); rintro e w' ⟨rfl, ⟨nd, rfl⟩⟩; refine ⟨_, rfl, ?_⟩; clear tk3_) | (go_at_call 92; have _t := tk4_; (with_reducible refine (graftageref16_named.calls k a0_1 true _ A4.out).mono ?_); rintro e w' ⟨rfl, ⟨nd, rfl⟩⟩; clear tk4_)); go_ret
 exact ⟨z3_, hs_⟩


def graftageref02_Digit.j0 : Nat → Int → Bool → Option (Int)
 | 0, _, _ => none
 | k + 1, x0, x8 => if x8 = true then (some ((x0 - 48) % 256)) else (if x0 ≥ 97 then (if x0 ≤ 102 then (some (((x0 - 97) % 256) + 10)) else (some (-1))) else (some (-1)))
def graftageref02_Digit.f (k : Nat) (a0 : Int) : Option (Int) := if a0 ≥ 48 then (graftageref02_Digit.j0 k a0 (decide (a0 ≤ 57))) else (graftageref02_Digit.j0 k a0 false)
theorem graftageref02_Digit.mono_l : ∀ k, (∀ y0 y1, LeO (graftageref02_Digit.j0 k y0 y1) (graftageref02_Digit.j0 (k + 1) y0 y1))
 | 0 => fun _ _ r h => by simp [graftageref02_Digit.j0] at h
 | k + 1 => by
  have ih0 := graftageref02_Digit.mono_l k
  ·intro y0 y1
   unfold graftageref02_Digit.j0
   have m0_ := @ih0
   exact mz_
theorem graftageref02_Digit.mono : ∀ a0 k, LeO (graftageref02_Digit.f k a0) (graftageref02_Digit.f (k + 1) a0) := by
 intro a0 k; have ih0 := graftageref02_Digit.mono_l k; unfold graftageref02_Digit.f; have m0_ := @ih0; exact mz_
set_option maxHeartbeats 8000000 in
set_option maxRecDepth 100000 in
theorem graftageref02_Digit.calls (k : Nat) (a0 : Int) (r : Int) (w : World) (h : graftageref02_Digit.f k a0 = some r) :
  Calls Tryz.prog 180 #[.int .u8 a0] w fun e w' => e = .returned (.int .i64 r) ∧ Drawn0 w w' := by
 unfold graftageref02_Digit.f at h; have H := h; clear h; have HC2 := Aside0.mk H; clear H; go_enter Tryz.func180, Tryz.ntmps180; go_upto_region 1 with (fail)
 go_cut [8] (fun v8 wc => ∃ (kq : Nat) (x8_1 : Bool), v8 = .bool x8_1 ∧ Aside0 (graftageref02_Digit.j0 kq a0 x8_1 = some r) ∧ Aside0 (kq ≤ k) ∧ Drawn0 w wc)
 case first =>
  have H := HC2.out; clear HC2; by_cases c3 : a0 ≥ 48; rotate_left
  ·rw [if_neg c3] at H; have c3b0 := decide_eq_false c3; clear c3; (first | rw [c3b0] | (simp only [i64_w, i32_w]; rw [c3b0]) | skip); have H' := Aside0.mk H; clear H; go_wp2
   go_meet
   case rel => exact ⟨_, (false), z1_, H', ⟨z4_⟩, z2_⟩
  rw [if_pos c3] at H; have c3b0 := decide_eq_true c3; clear c3; (first | rw [c3b0] | (simp only [i64_w, i32_w]; rw [c3b0]) | skip); have H' := Aside0.mk H; clear H; go_wp2
  go_meet
  case rel => exact ⟨_, (decide (a0 ≤ 57)), z1_, H', ⟨z4_⟩, z2_⟩
 case rest =>
  clear HC2; try clear c1
  try clear p2
  try clear c3
  try clear c3b0
  obtain ⟨kq, x8_1, rfl, HA, HJ1, ⟨mc1, rfl⟩⟩ := hcut
  cases kq with
  | zero => exact absurd HA.out (by simp [graftageref02_Digit.j0])
  | succ kj1 =>
   have H := HA.out; clear HA; simp only [graftageref02_Digit.j0] at H; by_cases c4 : x8_1 = true
   ·subst c4; rw [if_pos rfl] at H; obtain rfl := Option.some.inj H; go_wp2
    go_ret
    exact ⟨z1_, z2_⟩
   replace c4 := Bool.eq_false_iff.mpr c4; subst c4; rw [if_neg nft_] at H; by_cases c5 : a0 ≥ 97; rotate_left
   ·rw [if_neg c5] at H; have c5b0 := decide_eq_false c5; clear c5; obtain rfl := Option.some.inj H; go_wp2
    go_ret
    exact ⟨z1_, z2_⟩
   rw [if_pos c5] at H; have c5b0 := decide_eq_true c5; clear c5; by_cases c6 : a0 ≤ 102
   ·rw [if_pos c6] at H; have c6b0 := decide_eq_true c6; clear c6; obtain rfl := Option.some.inj H; go_wp2
    go_ret
    exact ⟨z1_, z2_⟩
   rw [if_neg c6] at H; have c6b0 := decide_eq_false c6; clear c6; obtain rfl := Option.some.inj H; go_wp2
   go_ret
   exact ⟨z1_, z2_⟩


def graftageref02_digits.l0 : Nat → ByteArray → Int → Option (Bool)
 | 0, _, _ => none
 | k + 1, x0, x3 => if x3 < (x0.size : Int) then (if 0 ≤ x3 then ((graftageref02_Digit.f k (bt x0 x3)).bind fun t172 => (if t172 < 0 then (some false) else (graftageref02_digits.l0 k x0 (wrap64 (x3 + 1))))) else (none)) else (some true)
def graftageref02_digits.f (k : Nat) (a0 : ByteArray) : Option (Bool) := graftageref02_digits.l0 k a0 0
theorem graftageref02_digits.mono_l : ∀ k, (∀ y0 y1, LeO (graftageref02_digits.l0 k y0 y1) (graftageref02_digits.l0 (k + 1) y0 y1))
 | 0 => fun _ _ r h => by simp [graftageref02_digits.l0] at h
 | k + 1 => by
  have ih0 := graftageref02_digits.mono_l k
  ·intro y0 y1
   unfold graftageref02_digits.l0
   have m0_ := @ih0
   have m1_ := @graftageref02_Digit.mono
   exact mz_
theorem graftageref02_digits.mono : ∀ a0 k, LeO (graftageref02_digits.f k a0) (graftageref02_digits.f (k + 1) a0) := by
 intro a0 k; have ih0 := graftageref02_digits.mono_l k; unfold graftageref02_digits.f; have m0_ := @ih0; have m1_ := @graftageref02_Digit.mono; exact mz_
set_option maxHeartbeats 8000000 in
set_option maxRecDepth 100000 in
theorem graftageref02_digits.calls (k : Nat) (a0 : ByteArray) (r : Bool) (w : World) (h : graftageref02_digits.f k a0 = some r) :
  Calls Tryz.prog 136 #[.string a0] w fun e w' => e = .returned (.bool r) ∧ Drawn0 w w' := by
 unfold graftageref02_digits.f at h; have H := h; clear h; have H' := Aside0.mk H; clear H; go_enter Tryz.func136, Tryz.ntmps136; go_wp2
 go_loopg [3] k (fun kq v3 w' => ∃ (x3_1 : Int), v3 = .int .i64 x3_1 ∧ Aside0 (graftageref02_digits.l0 kq a0 x3_1 = some r) ∧ Aside0 (kq ≤ k) ∧ Drawn0 w w')
 case atStart => exact ⟨(0), z1_, H', ⟨Nat.le_refl _⟩, z2_⟩
 case round =>
  clear H'; try clear c1
  obtain ⟨x3_1, rfl, HA, HK1, ⟨m1, rfl⟩⟩ := hrel
  cases gk with
  | zero => exact absurd HA.out (by simp [graftageref02_digits.l0])
  | succ k1 =>
   have H := HA.out; clear HA; simp only [graftageref02_digits.l0] at H; by_cases c2 : x3_1 < (a0.size : Int); rotate_left
   ·rw [if_neg c2] at H; have c2b0 := decide_eq_false c2; clear c2; obtain rfl := Option.some.inj H; go_wp2
    go_ret
    exact ⟨z1_, z2_⟩
   rw [if_pos c2] at H; have c2b0 := decide_eq_true c2; clear c2; by_cases c3 : 0 ≤ x3_1; rotate_left
   ·rw [if_neg c3] at H; exact absurd H (by simp)
   rw [if_pos c3] at H; have c3b0 := decide_eq_true c3; clear c3; replace H := Option.bind_eq_some_iff.mp H; obtain ⟨t172, A50, H⟩ := H; have A5 := Aside0.mk A50; clear A50; by_cases c6 : t172 < 0
   ·rw [if_pos c6] at H; have c6b0 := decide_eq_true c6; clear c6; obtain rfl := Option.some.inj H; have p4 : 0 ≤ (x3_1 : Int) := of_decide_eq_true z0_; have q4 : x3_1 < (a0.size : Int) := of_decide_eq_true z0_; have hx4 := bt_at a0 x3_1; replace p4 := eq_true p4; replace q4 := eq_true q4; go_wp2_with (first | ((with_reducible refine gate_callee (f := 180) rfl ?_); refine gl_ (some 13) Tryz.func180 #[.int .u8 (bt a0 x3_1)] ?_; (with_reducible refine (graftageref02_Digit.calls k1 (bt a0 x3_1) t172 _ A5.out).mono ?_); rintro e w' ⟨rfl, ⟨nd, rfl⟩⟩; refine ⟨_, rfl, ?_⟩)); go_ret
    exact ⟨z1_, z2_⟩
   rw [if_neg c6] at H; have c6b0 := decide_eq_false c6; clear c6; have H' := Aside0.mk H; clear H; have p4 : 0 ≤ (x3_1 : Int) := of_decide_eq_true z0_; have q4 : x3_1 < (a0.size : Int) := of_decide_eq_true z0_; have hx4 := bt_at a0 x3_1; replace p4 := eq_true p4; replace q4 := eq_true q4; go_wp2_with (first | ((with_reducible refine gate_callee (f := 180) rfl ?_); refine gl_ (some 13) Tryz.func180 #[.int .u8 (bt a0 x3_1)] ?_; (with_reducible refine (graftageref02_Digit.calls k1 (bt a0 x3_1) t172 _ A5.out).mono ?_); rintro e w' ⟨rfl, ⟨nd, rfl⟩⟩; refine ⟨_, rfl, ?_⟩)); go_roundg k1
   case measure => have := HK1.out; omega
   case rel => exact ⟨(wrap64 (x3_1 + 1)), z1_, H', ⟨by have := HK1.out; omega⟩, z2_⟩


def graftageref02_Is.f (k : Nat) (a0 : ByteArray) : Option (Bool) := if (a0.size : Int) = 40 then ((graftageref02_digits.f k a0).bind fun t132 => (some t132)) else (some false)
set_option maxHeartbeats 8000000 in
set_option maxRecDepth 100000 in
theorem graftageref02_Is.calls (k : Nat) (a0 : ByteArray) (r : Bool) (w : World) (h : graftageref02_Is.f k a0 = some r) :
  Calls Tryz.prog 61 #[.string a0] w fun e w' => e = .returned (.bool r) ∧ Drawn0 w w' := by
 unfold graftageref02_Is.f at h; have H := h; clear h; by_cases c2 : (a0.size : Int) = 40; rotate_left
 ·rw [if_neg c2] at H; have c2b0 := beq_eq_false_iff_ne.mpr c2; have c2b1 := bne_iff_ne.mpr c2; obtain rfl := Option.some.inj H; go_enter Tryz.func61, Tryz.ntmps61; go_wp2
  go_ret
  exact ⟨z1_, z2_⟩
 rw [if_pos c2] at H; have c2b0 := beq_iff_eq.mpr c2; have c2b1 := bne_eq_false_iff_eq.mpr c2; clear c2; replace H := Option.bind_eq_some_iff.mp H; obtain ⟨t132, A30, H⟩ := H; have A3 := Aside0.mk A30; clear A30; obtain rfl := Option.some.inj H; go_enter Tryz.func61, Tryz.ntmps61; go_wp2_with (first | (go_at_call 136; (with_reducible refine (graftageref02_digits.calls k a0 t132 _ A3.out).mono ?_); rintro e w' ⟨rfl, ⟨nd, rfl⟩⟩)); go_ret
 exact ⟨z1_, z2_⟩


mutual
def graftageref16_Check.j0 : Nat → Bool → ByteArray → List ByteArray → ByteArray → ByteArray → Int → Int → ByteArray → ByteArray → Int → Int → ByteArray → Option (Int)
 | 0, _, _, _, _, _, _, _, _, _, _, _, _ => none
 | k + 1, x3, x102000, x102001, x102002, x102003, x102004, x102005, x102006, x102007, x102008, x102009, x102010 => graftageref16_Check.l0 k x3 0 x102000 x102001 x102002 x102003 x102004 x102005 x102006 x102007 x102008 x102009 x102010
def graftageref16_Check.l0 : Nat → Bool → Int → ByteArray → List ByteArray → ByteArray → ByteArray → Int → Int → ByteArray → ByteArray → Int → Int → ByteArray → Option (Int)
 | 0, _, _, _, _, _, _, _, _, _, _, _, _, _ => none
 | k + 1, x3, x4, x102000, x102001, x102002, x102003, x102004, x102005, x102006, x102007, x102008, x102009, x102010 => if x4 < (x102001.length : Int) then (if x3 = true then (graftageref16_Check.l0 k true (wrap64 (x4 + 1)) x102000 x102001 x102002 x102003 x102004 x102005 x102006 x102007 x102008 x102009 x102010) else (if 0 ≤ x4 then ((graftageref02_Is.f k (rdOf ByteArray.empty x102001 x4)).bind fun t107 => (graftageref16_Check.l0 k (!t107) (wrap64 (x4 + 1)) x102000 x102001 x102002 x102003 x102004 x102005 x102006 x102007 x102008 x102009 x102010)) else (none))) else (if x3 = true then (some 1) else (if (x102010.size : Int) > 4096 then (graftageref16_Check.j2 k true x102000 x102001 x102002 x102003 x102004 x102005 x102006 x102007 x102008 x102009 x102010) else (graftageref16_Check.j2 k (decide ((x102001.length : Int) > 8)) x102000 x102001 x102002 x102003 x102004 x102005 x102006 x102007 x102008 x102009 x102010)))
def graftageref16_Check.j2 : Nat → Bool → ByteArray → List ByteArray → ByteArray → ByteArray → Int → Int → ByteArray → ByteArray → Int → Int → ByteArray → Option (Int)
 | 0, _, _, _, _, _, _, _, _, _, _, _, _ => none
 | k + 1, x55, x102000, x102001, x102002, x102003, x102004, x102005, x102006, x102007, x102008, x102009, x102010 => if x55 = true then (some 4) else (graftageref16_Check.l1 k 0 x102000 x102001 x102002 x102003 x102004 x102005 x102006 x102007 x102008 x102009 x102010)
def graftageref16_Check.l1 : Nat → Int → ByteArray → List ByteArray → ByteArray → ByteArray → Int → Int → ByteArray → ByteArray → Int → Int → ByteArray → Option (Int)
 | 0, _, _, _, _, _, _, _, _, _, _, _, _ => none
 | k + 1, x5, x102000, x102001, x102002, x102003, x102004, x102005, x102006, x102007, x102008, x102009, x102010 => if x5 < (x102001.length : Int) then (graftageref16_Check.l2 k x5 0 x102000 x102001 x102002 x102003 x102004 x102005 x102006 x102007 x102008 x102009 x102010) else (some 0)
def graftageref16_Check.l2 : Nat → Int → Int → ByteArray → List ByteArray → ByteArray → ByteArray → Int → Int → ByteArray → ByteArray → Int → Int → ByteArray → Option (Int)
 | 0, _, _, _, _, _, _, _, _, _, _, _, _, _ => none
 | k + 1, x5, x6, x102000, x102001, x102002, x102003, x102004, x102005, x102006, x102007, x102008, x102009, x102010 => if x6 < x5 then (if 0 ≤ x5 then (if x5 < (x102001.length : Int) then (if 0 ≤ x6 then (if x6 < (x102001.length : Int) then (if (rdOf ByteArray.empty x102001 x5).toList = (rdOf ByteArray.empty x102001 x6).toList then (some 6) else (graftageref16_Check.l2 k x5 (wrap64 (x6 + 1)) x102000 x102001 x102002 x102003 x102004 x102005 x102006 x102007 x102008 x102009 x102010)) else (none)) else (none)) else (none)) else (none)) else (graftageref16_Check.l1 k (wrap64 (x5 + 1)) x102000 x102001 x102002 x102003 x102004 x102005 x102006 x102007 x102008 x102009 x102010)
end
def graftageref16_Check.f (k : Nat) (a0_0 : ByteArray) (l0_1 : List ByteArray) (a0_2 : ByteArray) (a0_3 : ByteArray) (a0_4 : Int) (a0_5 : Int) (a0_6 : ByteArray) (a0_7 : ByteArray) (a0_8 : Int) (a0_9 : Int) (a0_10 : ByteArray) : Option (Int) := (graftageref02_Is.f k a0_0).bind fun t102 => (if t102 = true then ((graftageref16_Person.f k a0_2 a0_3 a0_4 a0_5).bind fun t103 => (if t103 = true then ((graftageref16_Person.f k a0_6 a0_7 a0_8 a0_9).bind fun t104 => (if t104 = true then ((graftageref16_zero.f k a0_10).bind fun t105 => (graftageref16_Check.j0 k t105 a0_0 l0_1 a0_2 a0_3 a0_4 a0_5 a0_6 a0_7 a0_8 a0_9 a0_10)) else (graftageref16_Check.j0 k true a0_0 l0_1 a0_2 a0_3 a0_4 a0_5 a0_6 a0_7 a0_8 a0_9 a0_10))) else (graftageref16_Check.j0 k true a0_0 l0_1 a0_2 a0_3 a0_4 a0_5 a0_6 a0_7 a0_8 a0_9 a0_10))) else (graftageref16_Check.j0 k true a0_0 l0_1 a0_2 a0_3 a0_4 a0_5 a0_6 a0_7 a0_8 a0_9 a0_10))
set_option maxHeartbeats 8000000 in
set_option maxRecDepth 100000 in
theorem graftageref16_Check.calls (k : Nat) (a0_0 : ByteArray) (A0_1 : Option Addr) (c0_1 : Nat) (l0_1 : List ByteArray) (a0_2 : ByteArray) (a0_3 : ByteArray) (a0_4 : Int) (a0_5 : Int) (a0_6 : ByteArray) (a0_7 : ByteArray) (a0_8 : Int) (a0_9 : Int) (a0_10 : ByteArray) (r : Int) (w : World) (hr0_1 : Kd.C Kd.string w A0_1 l0_1.length l0_1) (hc0_1 : l0_1.length ≤ c0_1) (h : graftageref16_Check.f k a0_0 l0_1 a0_2 a0_3 a0_4 a0_5 a0_6 a0_7 a0_8 a0_9 a0_10 = some r) :
  Calls Tryz.prog 19 #[.agg #[.string a0_0, .slice A0_1 l0_1.length c0_1, .string a0_2, .string a0_3, .int .i64 a0_4, .int .i64 a0_5, .string a0_6, .string a0_7, .int .i64 a0_8, .int .i64 a0_9, .string a0_10]] w fun e w' => e = .returned (.int .i64 r) ∧ Below w.heap.size w w' := by
 have hu26 := Tryz.underlying26; have hu24 := Tryz.underlying24; have HR0_1 := Aside0.mk hr0_1; have HC0_1 := Aside0.mk hc0_1; clear hr0_1 hc0_1; have HB := Aside0.mk (Below.refl w.heap.size w); unfold graftageref16_Check.f at h; have H := h; clear h; have HC2 := Aside0.mk H; clear H; go_enter Tryz.func19, Tryz.ntmps19; go_upto_region 1 with (first | ((with_reducible refine gate_dst (N := 1) rfl ?_); (try (refine gate_guard (by rfl) ?_; dsimp only)); refine be_ (cs := #[.string a0_0, .slice A0_1 l0_1.length c0_1, .string a0_2, .string a0_3, .int .i64 a0_4, .int .i64 a0_5, .string a0_6, .string a0_7, .int .i64 a0_8, .int .i64 a0_9, .string a0_10]) (t := 26) ?_; intro gb101 hg w3 hbox hb; have BK101 := Aside0.mk (hbox); have GW101 := ag_ hg HB; have GE101 := ag_ hg HB; replace HB := ah_ HB hb; clear hb hbox hg)); repeat (go_quiet (first | ((with_reducible refine gate_dst (N := 1) rfl ?_); (try (refine gate_guard (by rfl) ?_; dsimp only)); refine be_ (cs := #[.string a0_0, .slice A0_1 l0_1.length c0_1, .string a0_2, .string a0_3, .int .i64 a0_4, .int .i64 a0_5, .string a0_6, .string a0_7, .int .i64 a0_8, .int .i64 a0_9, .string a0_10]) (t := 26) ?_; intro gb101 hg w3 hbox hb; have BK101 := Aside0.mk (hbox); have GW101 := ag_ hg HB; have GE101 := ag_ hg HB; replace HB := ah_ HB hb; clear hb hbox hg)); go_upto_region 1 with (first | ((with_reducible refine gate_dst (N := 1) rfl ?_); (try (refine gate_guard (by rfl) ?_; dsimp only)); refine be_ (cs := #[.string a0_0, .slice A0_1 l0_1.length c0_1, .string a0_2, .string a0_3, .int .i64 a0_4, .int .i64 a0_5, .string a0_6, .string a0_7, .int .i64 a0_8, .int .i64 a0_9, .string a0_10]) (t := 26) ?_; intro gb101 hg w3 hbox hb; have BK101 := Aside0.mk (hbox); have GW101 := ag_ hg HB; have GE101 := ag_ hg HB; replace HB := ah_ HB hb; clear hb hbox hg))); (try simp only [Act.put, List.setIfInBounds_toArray, List.set_cons_zero, List.set_cons_succ])
 go_cut [3] (fun v3 wc => ∃ (kq : Nat) (x3_1 : Bool), v3 = .bool x3_1 ∧ Aside0 (graftageref16_Check.j0 kq x3_1 a0_0 l0_1 a0_2 a0_3 a0_4 a0_5 a0_6 a0_7 a0_8 a0_9 a0_10 = some r) ∧ Aside0 (kq ≤ k) ∧ Aside0 (wc.heap[gb101]? = some (.cells #[.string a0_0, (.slice A0_1 l0_1.length c0_1), .string a0_2, .string a0_3, .int .i64 a0_4, .int .i64 a0_5, .string a0_6, .string a0_7, .int .i64 a0_8, .int .i64 a0_9, .string a0_10] 26 (0, 0))) ∧ Aside0 (Below w.heap.size w wc))
 case first =>
  have H := HC2.out; clear HC2; replace H := Option.bind_eq_some_iff.mp H; obtain ⟨t102, A40, H⟩ := H; have A4 := Aside0.mk A40; clear A40; by_cases c5 : t102 = true; rotate_left
  ·replace c5 := Bool.eq_false_iff.mpr c5; subst c5; rw [if_neg nft_] at H; have H' := Aside0.mk H; clear H; obtain ⟨Z22_0, Z22_1, Z22_2, Z22_3, Z22_4, Z22_5, Z22_6, Z22_7, Z22_8, Z22_9, Z22_10, F22_0, F22_1, F22_2, F22_3, F22_4, F22_5, F22_6, F22_7, F22_8, F22_9, F22_10⟩ := bc11 BK101.out; go_wp2_with (first | (go_at_call 61; (with_reducible refine (graftageref02_Is.calls k a0_0 false _ A4.out).mono ?_); rintro e w' ⟨rfl, ⟨nd, rfl⟩⟩; (try first | exact ⟨rfl, _, World.drewN_drewN _ _ _⟩ | exact ⟨rfl, _, Eq.trans (World.drewN_drewN _ _ _) (congrArg (World.drewN _) (Nat.add_assoc _ _ _))⟩)))
   repeat (go_quiet (first | (go_at_call 61; (with_reducible refine (graftageref02_Is.calls k a0_0 false _ A4.out).mono ?_); rintro e w' ⟨rfl, ⟨nd, rfl⟩⟩; (try first | exact ⟨rfl, _, World.drewN_drewN _ _ _⟩ | exact ⟨rfl, _, Eq.trans (World.drewN_drewN _ _ _) (congrArg (World.drewN _) (Nat.add_assoc _ _ _))⟩))); try go_wp2_with (first | (go_at_call 61; (with_reducible refine (graftageref02_Is.calls k a0_0 false _ A4.out).mono ?_); rintro e w' ⟨rfl, ⟨nd, rfl⟩⟩; (try first | exact ⟨rfl, _, World.drewN_drewN _ _ _⟩ | exact ⟨rfl, _, Eq.trans (World.drewN_drewN _ _ _) (congrArg (World.drewN _) (Nat.add_assoc _ _ _))⟩))))
   go_meet
   case rel => exact ⟨_, (true), z1_, H', ⟨z4_⟩, ⟨bk_ BK101.out⟩, ⟨hs_⟩⟩
  subst c5; rw [if_pos rfl] at H; replace H := Option.bind_eq_some_iff.mp H; obtain ⟨t103, A60, H⟩ := H; have A6 := Aside0.mk A60; clear A60; by_cases c7 : t103 = true; rotate_left
  ·replace c7 := Bool.eq_false_iff.mpr c7; subst c7; rw [if_neg nft_] at H; have H' := Aside0.mk H; clear H; obtain ⟨Z20_0, Z20_1, Z20_2, Z20_3, Z20_4, Z20_5, Z20_6, Z20_7, Z20_8, Z20_9, Z20_10, F20_0, F20_1, F20_2, F20_3, F20_4, F20_5, F20_6, F20_7, F20_8, F20_9, F20_10⟩ := bc11 BK101.out; go_wp2_with (first | (go_at_call 61; (with_reducible refine (graftageref02_Is.calls k a0_0 true _ A4.out).mono ?_); rintro e w' ⟨rfl, ⟨nd, rfl⟩⟩; (try first | exact ⟨rfl, _, World.drewN_drewN _ _ _⟩ | exact ⟨rfl, _, Eq.trans (World.drewN_drewN _ _ _) (congrArg (World.drewN _) (Nat.add_assoc _ _ _))⟩)) | (go_at_call 32; (with_reducible refine (graftageref16_Person.calls k a0_2 a0_3 a0_4 a0_5 false _ A6.out).mono ?_); rintro e w21 ⟨rfl, hb⟩; replace BK101 := ab_ BK101 hb; replace HB := Aside0.mk (below_step (hs_) hb); (try clear hb); (try clear hb2); (try clear hk); (try clear hi)))
   repeat (go_quiet (first | (go_at_call 61; (with_reducible refine (graftageref02_Is.calls k a0_0 true _ A4.out).mono ?_); rintro e w' ⟨rfl, ⟨nd, rfl⟩⟩; (try first | exact ⟨rfl, _, World.drewN_drewN _ _ _⟩ | exact ⟨rfl, _, Eq.trans (World.drewN_drewN _ _ _) (congrArg (World.drewN _) (Nat.add_assoc _ _ _))⟩)) | (go_at_call 32; (with_reducible refine (graftageref16_Person.calls k a0_2 a0_3 a0_4 a0_5 false _ A6.out).mono ?_); rintro e w21 ⟨rfl, hb⟩; replace BK101 := ab_ BK101 hb; replace HB := Aside0.mk (below_step (hs_) hb); (try clear hb); (try clear hb2); (try clear hk); (try clear hi))); try go_wp2_with (first | (go_at_call 61; (with_reducible refine (graftageref02_Is.calls k a0_0 true _ A4.out).mono ?_); rintro e w' ⟨rfl, ⟨nd, rfl⟩⟩; (try first | exact ⟨rfl, _, World.drewN_drewN _ _ _⟩ | exact ⟨rfl, _, Eq.trans (World.drewN_drewN _ _ _) (congrArg (World.drewN _) (Nat.add_assoc _ _ _))⟩)) | (go_at_call 32; (with_reducible refine (graftageref16_Person.calls k a0_2 a0_3 a0_4 a0_5 false _ A6.out).mono ?_); rintro e w21 ⟨rfl, hb⟩; replace BK101 := ab_ BK101 hb; replace HB := Aside0.mk (below_step (hs_) hb); (try clear hb); (try clear hb2); (try clear hk); (try clear hi))))
   go_meet
   case rel => exact ⟨_, (true), z1_, H', ⟨z4_⟩, ⟨bk_ BK101.out⟩, ⟨hs_⟩⟩
  subst c7; rw [if_pos rfl] at H; replace H := Option.bind_eq_some_iff.mp H; obtain ⟨t104, A80, H⟩ := H; have A8 := Aside0.mk A80; clear A80; by_cases c9 : t104 = true; rotate_left
  ·replace c9 := Bool.eq_false_iff.mpr c9; subst c9; rw [if_neg nft_] at H; have H' := Aside0.mk H; clear H; obtain ⟨Z16_0, Z16_1, Z16_2, Z16_3, Z16_4, Z16_5, Z16_6, Z16_7, Z16_8, Z16_9, Z16_10, F16_0, F16_1, F16_2, F16_3, F16_4, F16_5, F16_6, F16_7, F16_8, F16_9, F16_10⟩ := bc11 BK101.out; have tk3_ : True := trivial; have tk4_ : True := trivial; go_wp2_with (first | (go_at_call 61; (with_reducible refine (graftageref02_Is.calls k a0_0 true _ A4.out).mono ?_); rintro e w' ⟨rfl, ⟨nd, rfl⟩⟩; (try first | exact ⟨rfl, _, World.drewN_drewN _ _ _⟩ | exact ⟨rfl, _, Eq.trans (World.drewN_drewN _ _ _) (congrArg (World.drewN _) (Nat.add_assoc _ _ _))⟩)) | (go_at_call 32; have _t := tk3_; (with_reducible refine (graftageref16_Person.calls k a0_2 a0_3 a0_4 a0_5 true _ A6.out).mono ?_); rintro e w17 ⟨rfl, hb⟩; replace BK101 := ab_ BK101 hb; replace HB := Aside0.mk (below_step (hs_) hb); (try clear hb); (try clear hb2); (try clear hk); (try clear hi); obtain ⟨Z18_0, Z18_1, Z18_2, Z18_3, Z18_4, Z18_5, Z18_6, Z18_7, Z18_8, Z18_9, Z18_10, F18_0, F18_1, F18_2, F18_3, F18_4, F18_5, F18_6, F18_7, F18_8, F18_9, F18_10⟩ := bc11 BK101.out; clear tk3_) | (go_at_call 32; have _t := tk4_; (with_reducible refine (graftageref16_Person.calls k a0_6 a0_7 a0_8 a0_9 false _ A8.out).mono ?_); rintro e w19 ⟨rfl, hb⟩; replace BK101 := ab_ BK101 hb; replace HB := Aside0.mk (below_step (hs_) hb); (try clear hb); (try clear hb2); (try clear hk); (try clear hi); clear tk4_)); repeat (go_quiet (first | (go_at_call 61; (with_reducible refine (graftageref02_Is.calls k a0_0 true _ A4.out).mono ?_); rintro e w' ⟨rfl, ⟨nd, rfl⟩⟩; (try first | exact ⟨rfl, _, World.drewN_drewN _ _ _⟩ | exact ⟨rfl, _, Eq.trans (World.drewN_drewN _ _ _) (congrArg (World.drewN _) (Nat.add_assoc _ _ _))⟩)) | (go_at_call 32; (with_reducible refine (graftageref16_Person.calls k a0_2 a0_3 a0_4 a0_5 true _ A6.out).mono ?_); rintro e w17 ⟨rfl, hb⟩; replace BK101 := ab_ BK101 hb; replace HB := Aside0.mk (below_step (hs_) hb); (try clear hb); (try clear hb2); (try clear hk); (try clear hi); obtain ⟨Z18_0, Z18_1, Z18_2, Z18_3, Z18_4, Z18_5, Z18_6, Z18_7, Z18_8, Z18_9, Z18_10, F18_0, F18_1, F18_2, F18_3, F18_4, F18_5, F18_6, F18_7, F18_8, F18_9, F18_10⟩ := bc11 BK101.out) | (go_at_call 32; (with_reducible refine (graftageref16_Person.calls k a0_6 a0_7 a0_8 a0_9 false _ A8.out).mono ?_); rintro e w19 ⟨rfl, hb⟩; replace BK101 := ab_ BK101 hb; replace HB := Aside0.mk (below_step (hs_) hb); (try clear hb); (try clear hb2); (try clear hk); (try clear hi))); try go_wp2_with (first | (go_at_call 61; (with_reducible refine (graftageref02_Is.calls k a0_0 true _ A4.out).mono ?_); rintro e w' ⟨rfl, ⟨nd, rfl⟩⟩; (try first | exact ⟨rfl, _, World.drewN_drewN _ _ _⟩ | exact ⟨rfl, _, Eq.trans (World.drewN_drewN _ _ _) (congrArg (World.drewN _) (Nat.add_assoc _ _ _))⟩)) | (go_at_call 32; (with_reducible refine (graftageref16_Person.calls k a0_2 a0_3 a0_4 a0_5 true _ A6.out).mono ?_); rintro e w17 ⟨rfl, hb⟩; replace BK101 := ab_ BK101 hb; replace HB := Aside0.mk (below_step (hs_) hb); (try clear hb); (try clear hb2); (try clear hk); (try clear hi); obtain ⟨Z18_0, Z18_1, Z18_2, Z18_3, Z18_4, Z18_5, Z18_6, Z18_7, Z18_8, Z18_9, Z18_10, F18_0, F18_1, F18_2, F18_3, F18_4, F18_5, F18_6, F18_7, F18_8, F18_9, F18_10⟩ := bc11 BK101.out) | (go_at_call 32; (with_reducible refine (graftageref16_Person.calls k a0_6 a0_7 a0_8 a0_9 false _ A8.out).mono ?_); rintro e w19 ⟨rfl, hb⟩; replace BK101 := ab_ BK101 hb; replace HB := Aside0.mk (below_step (hs_) hb); (try clear hb); (try clear hb2); (try clear hk); (try clear hi))))
   go_meet
   case rel => exact ⟨_, (true), z1_, H', ⟨z4_⟩, ⟨bk_ BK101.out⟩, ⟨hs_⟩⟩
  subst c9; rw [if_pos rfl] at H; replace H := Option.bind_eq_some_iff.mp H; obtain ⟨t105, A100, H⟩ := H; have A10 := Aside0.mk A100; clear A100; have H' := Aside0.mk H; clear H; obtain ⟨Z11_0, Z11_1, Z11_2, Z11_3, Z11_4, Z11_5, Z11_6, Z11_7, Z11_8, Z11_9, Z11_10, F11_0, F11_1, F11_2, F11_3, F11_4, F11_5, F11_6, F11_7, F11_8, F11_9, F11_10⟩ := bc11 BK101.out; have tk1_ : True := trivial; have tk2_ : True := trivial; go_wp2_with (first | (go_at_call 61; (with_reducible refine (graftageref02_Is.calls k a0_0 true _ A4.out).mono ?_); rintro e w' ⟨rfl, ⟨nd, rfl⟩⟩; (try first | exact ⟨rfl, _, World.drewN_drewN _ _ _⟩ | exact ⟨rfl, _, Eq.trans (World.drewN_drewN _ _ _) (congrArg (World.drewN _) (Nat.add_assoc _ _ _))⟩)) | (go_at_call 32; have _t := tk1_; (with_reducible refine (graftageref16_Person.calls k a0_2 a0_3 a0_4 a0_5 true _ A6.out).mono ?_); rintro e w12 ⟨rfl, hb⟩; replace BK101 := ab_ BK101 hb; replace HB := Aside0.mk (below_step (hs_) hb); (try clear hb); (try clear hb2); (try clear hk); (try clear hi); obtain ⟨Z13_0, Z13_1, Z13_2, Z13_3, Z13_4, Z13_5, Z13_6, Z13_7, Z13_8, Z13_9, Z13_10, F13_0, F13_1, F13_2, F13_3, F13_4, F13_5, F13_6, F13_7, F13_8, F13_9, F13_10⟩ := bc11 BK101.out; clear tk1_) | (go_at_call 32; have _t := tk2_; (with_reducible refine (graftageref16_Person.calls k a0_6 a0_7 a0_8 a0_9 true _ A8.out).mono ?_); rintro e w14 ⟨rfl, hb⟩; replace BK101 := ab_ BK101 hb; replace HB := Aside0.mk (below_step (hs_) hb); (try clear hb); (try clear hb2); (try clear hk); (try clear hi); obtain ⟨Z15_0, Z15_1, Z15_2, Z15_3, Z15_4, Z15_5, Z15_6, Z15_7, Z15_8, Z15_9, Z15_10, F15_0, F15_1, F15_2, F15_3, F15_4, F15_5, F15_6, F15_7, F15_8, F15_9, F15_10⟩ := bc11 BK101.out; clear tk2_) | (go_at_call 69; (with_reducible refine (graftageref16_zero.calls k a0_10 t105 _ A10.out).mono ?_); rintro e w' ⟨rfl, ⟨nd, rfl⟩⟩; (try first | exact ⟨rfl, _, World.drewN_drewN _ _ _⟩ | exact ⟨rfl, _, Eq.trans (World.drewN_drewN _ _ _) (congrArg (World.drewN _) (Nat.add_assoc _ _ _))⟩)))
  repeat (go_quiet (first | (go_at_call 61; (with_reducible refine (graftageref02_Is.calls k a0_0 true _ A4.out).mono ?_); rintro e w' ⟨rfl, ⟨nd, rfl⟩⟩; (try first | exact ⟨rfl, _, World.drewN_drewN _ _ _⟩ | exact ⟨rfl, _, Eq.trans (World.drewN_drewN _ _ _) (congrArg (World.drewN _) (Nat.add_assoc _ _ _))⟩)) | (go_at_call 32; (with_reducible refine (graftageref16_Person.calls k a0_2 a0_3 a0_4 a0_5 true _ A6.out).mono ?_); rintro e w12 ⟨rfl, hb⟩; replace BK101 := ab_ BK101 hb; replace HB := Aside0.mk (below_step (hs_) hb); (try clear hb); (try clear hb2); (try clear hk); (try clear hi); obtain ⟨Z13_0, Z13_1, Z13_2, Z13_3, Z13_4, Z13_5, Z13_6, Z13_7, Z13_8, Z13_9, Z13_10, F13_0, F13_1, F13_2, F13_3, F13_4, F13_5, F13_6, F13_7, F13_8, F13_9, F13_10⟩ := bc11 BK101.out) | (go_at_call 32; (with_reducible refine (graftageref16_Person.calls k a0_6 a0_7 a0_8 a0_9 true _ A8.out).mono ?_); rintro e w14 ⟨rfl, hb⟩; replace BK101 := ab_ BK101 hb; replace HB := Aside0.mk (below_step (hs_) hb); (try clear hb); (try clear hb2); (try clear hk); (try clear hi); obtain ⟨Z15_0, Z15_1, Z15_2, Z15_3, Z15_4, Z15_5, Z15_6, Z15_7, Z15_8, Z15_9, Z15_10, F15_0, F15_1, F15_2, F15_3, F15_4, F15_5, F15_6, F15_7, F15_8, F15_9, F15_10⟩ := bc11 BK101.out) | (go_at_call 69; (with_reducible refine (graftageref16_zero.calls k a0_10 t105 _ A10.out).mono ?_); rintro e w' ⟨rfl, ⟨nd, rfl⟩⟩; (try first | exact ⟨rfl, _, World.drewN_drewN _ _ _⟩ | exact ⟨rfl, _, Eq.trans (World.drewN_drewN _ _ _) (congrArg (World.drewN _) (Nat.add_assoc _ _ _))⟩))); try go_wp2_with (first | (go_at_call 61; (with_reducible refine (graftageref02_Is.calls k a0_0 true _ A4.out).mono ?_); rintro e w' ⟨rfl, ⟨nd, rfl⟩⟩; (try first | exact ⟨rfl, _, World.drewN_drewN _ _ _⟩ | exact ⟨rfl, _, Eq.trans (World.drewN_drewN _ _ _) (congrArg (World.drewN _) (Nat.add_assoc _ _ _))⟩)) | (go_at_call 32; (with_reducible refine (graftageref16_Person.calls k a0_2 a0_3 a0_4 a0_5 true _ A6.out).mono ?_); rintro e w12 ⟨rfl, hb⟩; replace BK101 := ab_ BK101 hb; replace HB := Aside0.mk (below_step (hs_) hb); (try clear hb); (try clear hb2); (try clear hk); (try clear hi); obtain ⟨Z13_0, Z13_1, Z13_2, Z13_3, Z13_4, Z13_5, Z13_6, Z13_7, Z13_8, Z13_9, Z13_10, F13_0, F13_1, F13_2, F13_3, F13_4, F13_5, F13_6, F13_7, F13_8, F13_9, F13_10⟩ := bc11 BK101.out) | (go_at_call 32; (with_reducible refine (graftageref16_Person.calls k a0_6 a0_7 a0_8 a0_9 true _ A8.out).mono ?_); rintro e w14 ⟨rfl, hb⟩; replace BK101 := ab_ BK101 hb; replace HB := Aside0.mk (below_step (hs_) hb); (try clear hb); (try clear hb2); (try clear hk); (try clear hi); obtain ⟨Z15_0, Z15_1, Z15_2, Z15_3, Z15_4, Z15_5, Z15_6, Z15_7, Z15_8, Z15_9, Z15_10, F15_0, F15_1, F15_2, F15_3, F15_4, F15_5, F15_6, F15_7, F15_8, F15_9, F15_10⟩ := bc11 BK101.out) | (go_at_call 69; (with_reducible refine (graftageref16_zero.calls k a0_10 t105 _ A10.out).mono ?_); rintro e w' ⟨rfl, ⟨nd, rfl⟩⟩; (try first | exact ⟨rfl, _, World.drewN_drewN _ _ _⟩ | exact ⟨rfl, _, Eq.trans (World.drewN_drewN _ _ _) (congrArg (World.drewN _) (Nat.add_assoc _ _ _))⟩))))
  go_meet
  case rel => exact ⟨_, (t105), z1_, H', ⟨z4_⟩, ⟨bk_ BK101.out⟩, ⟨hs_⟩⟩
 case rest =>
  clear HC2; try clear c1
  try clear p2
  try clear c5
  try clear c7
  try clear c9
  try clear c19
  try clear Z11_0 Z11_1 Z11_10 Z11_2 Z11_3 Z11_4 Z11_5 Z11_6 Z11_7 Z11_8 Z11_9
  try clear Z13_0 Z13_1 Z13_10 Z13_2 Z13_3 Z13_4 Z13_5 Z13_6 Z13_7 Z13_8 Z13_9
  try clear Z15_0 Z15_1 Z15_10 Z15_2 Z15_3 Z15_4 Z15_5 Z15_6 Z15_7 Z15_8 Z15_9
  try clear Z16_0 Z16_1 Z16_10 Z16_2 Z16_3 Z16_4 Z16_5 Z16_6 Z16_7 Z16_8 Z16_9
  try clear Z18_0 Z18_1 Z18_10 Z18_2 Z18_3 Z18_4 Z18_5 Z18_6 Z18_7 Z18_8 Z18_9
  try clear Z20_0 Z20_1 Z20_10 Z20_2 Z20_3 Z20_4 Z20_5 Z20_6 Z20_7 Z20_8 Z20_9
  try clear Z22_0 Z22_1 Z22_10 Z22_2 Z22_3 Z22_4 Z22_5 Z22_6 Z22_7 Z22_8 Z22_9
  try clear F11_0 F11_1 F11_10 F11_2 F11_3 F11_4 F11_5 F11_6 F11_7 F11_8 F11_9
  try clear F13_0 F13_1 F13_10 F13_2 F13_3 F13_4 F13_5 F13_6 F13_7 F13_8 F13_9
  try clear F15_0 F15_1 F15_10 F15_2 F15_3 F15_4 F15_5 F15_6 F15_7 F15_8 F15_9
  try clear F16_0 F16_1 F16_10 F16_2 F16_3 F16_4 F16_5 F16_6 F16_7 F16_8 F16_9
  try clear F18_0 F18_1 F18_10 F18_2 F18_3 F18_4 F18_5 F18_6 F18_7 F18_8 F18_9
  try clear F20_0 F20_1 F20_10 F20_2 F20_3 F20_4 F20_5 F20_6 F20_7 F20_8 F20_9
  try clear F22_0 F22_1 F22_10 F22_2 F22_3 F22_4 F22_5 F22_6 F22_7 F22_8 F22_9
  obtain ⟨kq, x3_1, rfl, HA, HJ1, BK101, HB⟩ := hcut
  cases kq with
  | zero => exact absurd HA.out (by simp [graftageref16_Check.j0])
  | succ kj1 =>
   have H := HA.out; clear HA; simp only [graftageref16_Check.j0] at H; have H' := Aside0.mk H; clear H; go_wp2
   repeat (go_quiet (fail); try go_wp2)
   go_loopg [3, 4] kj1 (fun kq v3 v4 w' => ∃ (x3_2 : Bool) (x4_2 : Int), v3 = .bool x3_2 ∧ v4 = .int .i64 x4_2 ∧ Aside0 (graftageref16_Check.l0 kq x3_2 x4_2 a0_0 l0_1 a0_2 a0_3 a0_4 a0_5 a0_6 a0_7 a0_8 a0_9 a0_10 = some r) ∧ Aside0 (kq ≤ kj1) ∧ Aside0 (w'.heap[gb101]? = some (.cells #[.string a0_0, (.slice A0_1 l0_1.length c0_1), .string a0_2, .string a0_3, .int .i64 a0_4, .int .i64 a0_5, .string a0_6, .string a0_7, .int .i64 a0_8, .int .i64 a0_9, .string a0_10] 26 (0, 0))) ∧ Aside0 (Below w.heap.size w w'))
   case atStart => exact ⟨(x3_1), (0), z1_, z1_, H', ⟨Nat.le_refl _⟩, ⟨bk_ BK101.out⟩, ⟨hs_⟩⟩
   case round =>
    clear H'; try clear c1
    try clear p2
    try clear c5
    try clear c7
    try clear c9
    try clear c19
    try clear Z11_0 Z11_1 Z11_10 Z11_2 Z11_3 Z11_4 Z11_5 Z11_6 Z11_7 Z11_8 Z11_9
    try clear Z13_0 Z13_1 Z13_10 Z13_2 Z13_3 Z13_4 Z13_5 Z13_6 Z13_7 Z13_8 Z13_9
    try clear Z15_0 Z15_1 Z15_10 Z15_2 Z15_3 Z15_4 Z15_5 Z15_6 Z15_7 Z15_8 Z15_9
    try clear Z16_0 Z16_1 Z16_10 Z16_2 Z16_3 Z16_4 Z16_5 Z16_6 Z16_7 Z16_8 Z16_9
    try clear Z18_0 Z18_1 Z18_10 Z18_2 Z18_3 Z18_4 Z18_5 Z18_6 Z18_7 Z18_8 Z18_9
    try clear Z20_0 Z20_1 Z20_10 Z20_2 Z20_3 Z20_4 Z20_5 Z20_6 Z20_7 Z20_8 Z20_9
    try clear Z22_0 Z22_1 Z22_10 Z22_2 Z22_3 Z22_4 Z22_5 Z22_6 Z22_7 Z22_8 Z22_9
    try clear F11_0 F11_1 F11_10 F11_2 F11_3 F11_4 F11_5 F11_6 F11_7 F11_8 F11_9
    try clear F13_0 F13_1 F13_10 F13_2 F13_3 F13_4 F13_5 F13_6 F13_7 F13_8 F13_9
    try clear F15_0 F15_1 F15_10 F15_2 F15_3 F15_4 F15_5 F15_6 F15_7 F15_8 F15_9
    try clear F16_0 F16_1 F16_10 F16_2 F16_3 F16_4 F16_5 F16_6 F16_7 F16_8 F16_9
    try clear F18_0 F18_1 F18_10 F18_2 F18_3 F18_4 F18_5 F18_6 F18_7 F18_8 F18_9
    try clear F20_0 F20_1 F20_10 F20_2 F20_3 F20_4 F20_5 F20_6 F20_7 F20_8 F20_9
    try clear F22_0 F22_1 F22_10 F22_2 F22_3 F22_4 F22_5 F22_6 F22_7 F22_8 F22_9
    try clear p2
    obtain ⟨x3_2, x4_2, rfl, rfl, HA, HK2, BK101, HB⟩ := hrel
    cases gk with
    | zero => exact absurd HA.out (by simp [graftageref16_Check.l0])
    | succ k2 =>
     have H := HA.out; clear HA; simp only [graftageref16_Check.l0] at H; by_cases c23 : x4_2 < (l0_1.length : Int)
     ·rw [if_pos c23] at H; have c23b0 := decide_eq_true c23; clear c23; by_cases c24 : x3_2 = true
      ·subst c24; rw [if_pos rfl] at H; have H' := Aside0.mk H; clear H; obtain ⟨Z25_0, Z25_1, Z25_2, Z25_3, Z25_4, Z25_5, Z25_6, Z25_7, Z25_8, Z25_9, Z25_10, F25_0, F25_1, F25_2, F25_3, F25_4, F25_5, F25_6, F25_7, F25_8, F25_9, F25_10⟩ := bc11 BK101.out; go_wp2
       repeat (go_quiet (fail); try go_wp2)
       go_roundg k2
       case measure => have := HJ1.out; have := HK2.out; omega
       case rel => exact ⟨(true), (wrap64 (x4_2 + 1)), z1_, z1_, H', ⟨by have := HJ1.out; have := HK2.out; omega⟩, ⟨bk_ BK101.out⟩, ⟨hs_⟩⟩
      replace c24 := Bool.eq_false_iff.mpr c24; subst c24; rw [if_neg nft_] at H; by_cases c26 : 0 ≤ x4_2; rotate_left
      ·rw [if_neg c26] at H; exact absurd H (by simp)
      rw [if_pos c26] at H; have c26b0 := decide_eq_true c26; clear c26; replace H := Option.bind_eq_some_iff.mp H; obtain ⟨t107, A270, H⟩ := H; have A27 := Aside0.mk A270; clear A270; have H' := Aside0.mk H; clear H; obtain ⟨Z28_0, Z28_1, Z28_2, Z28_3, Z28_4, Z28_5, Z28_6, Z28_7, Z28_8, Z28_9, Z28_10, F28_0, F28_1, F28_2, F28_3, F28_4, F28_5, F28_6, F28_7, F28_8, F28_9, F28_10⟩ := bc11 BK101.out; have p106 : 0 ≤ (x4_2 : Int) := of_decide_eq_true z0_; have q106 : x4_2 < (l0_1.length : Int) := of_decide_eq_true z0_; obtain ⟨ad106, e106, hx106_0⟩ := Kd.at_string HR0_1.out x4_2 p106 q106
      cases e106
      replace hx106_0 := (HB.out.cell (World.block_lt_of_cell? w _ hx106_0)).trans hx106_0; replace p106 := eq_true p106; replace q106 := eq_true q106; go_wp2_with (first | (go_at_call 61; (with_reducible refine (graftageref02_Is.calls k2 (rdOf ByteArray.empty l0_1 x4_2) t107 _ A27.out).mono ?_); rintro e w' ⟨rfl, ⟨nd, rfl⟩⟩; (try first | exact ⟨rfl, _, World.drewN_drewN _ _ _⟩ | exact ⟨rfl, _, Eq.trans (World.drewN_drewN _ _ _) (congrArg (World.drewN _) (Nat.add_assoc _ _ _))⟩)))
      repeat (go_quiet (first | (go_at_call 61; (with_reducible refine (graftageref02_Is.calls k2 (rdOf ByteArray.empty l0_1 x4_2) t107 _ A27.out).mono ?_); rintro e w' ⟨rfl, ⟨nd, rfl⟩⟩; (try first | exact ⟨rfl, _, World.drewN_drewN _ _ _⟩ | exact ⟨rfl, _, Eq.trans (World.drewN_drewN _ _ _) (congrArg (World.drewN _) (Nat.add_assoc _ _ _))⟩))); try go_wp2_with (first | (go_at_call 61; (with_reducible refine (graftageref02_Is.calls k2 (rdOf ByteArray.empty l0_1 x4_2) t107 _ A27.out).mono ?_); rintro e w' ⟨rfl, ⟨nd, rfl⟩⟩; (try first | exact ⟨rfl, _, World.drewN_drewN _ _ _⟩ | exact ⟨rfl, _, Eq.trans (World.drewN_drewN _ _ _) (congrArg (World.drewN _) (Nat.add_assoc _ _ _))⟩))))
      go_roundg k2
      case measure => have := HJ1.out; have := HK2.out; omega
      case rel => exact ⟨(!t107), (wrap64 (x4_2 + 1)), z1_, z1_, H', ⟨by have := HJ1.out; have := HK2.out; omega⟩, ⟨bk_ BK101.out⟩, ⟨hs_⟩⟩
     rw [if_neg c23] at H; have c23b0 := decide_eq_false c23; clear c23; by_cases c29 : x3_2 = true
     ·subst c29; rw [if_pos rfl] at H; obtain rfl := Option.some.inj H; obtain ⟨Z30_0, Z30_1, Z30_2, Z30_3, Z30_4, Z30_5, Z30_6, Z30_7, Z30_8, Z30_9, Z30_10, F30_0, F30_1, F30_2, F30_3, F30_4, F30_5, F30_6, F30_7, F30_8, F30_9, F30_10⟩ := bc11 BK101.out; go_wp2
      repeat (go_quiet (fail); try go_wp2)
      go_ret
      exact ⟨z3_, hs_⟩
     replace c29 := Bool.eq_false_iff.mpr c29; subst c29; rw [if_neg nft_] at H; have HC31 := Aside0.mk H; clear H; obtain ⟨Z32_0, Z32_1, Z32_2, Z32_3, Z32_4, Z32_5, Z32_6, Z32_7, Z32_8, Z32_9, Z32_10, F32_0, F32_1, F32_2, F32_3, F32_4, F32_5, F32_6, F32_7, F32_8, F32_9, F32_10⟩ := bc11 BK101.out; go_upto_region 8 with (fail)
     repeat (go_quiet (fail); go_upto_region 8 with (fail))
     go_cut [55] (fun v55 wc => ∃ (kq : Nat) (x55_30 : Bool), v55 = .bool x55_30 ∧ Aside0 (graftageref16_Check.j2 kq x55_30 a0_0 l0_1 a0_2 a0_3 a0_4 a0_5 a0_6 a0_7 a0_8 a0_9 a0_10 = some r) ∧ Aside0 (kq ≤ k2) ∧ Aside0 (wc.heap[gb101]? = some (.cells #[.string a0_0, (.slice A0_1 l0_1.length c0_1), .string a0_2, .string a0_3, .int .i64 a0_4, .int .i64 a0_5, .string a0_6, .string a0_7, .int .i64 a0_8, .int .i64 a0_9, .string a0_10] 26 (0, 0))) ∧ Aside0 (Below w.heap.size w wc))
     case first =>
      have H := HC31.out; clear HC31; by_cases c33 : (a0_10.size : Int) > 4096
      ·rw [if_pos c33] at H; have c33b0 := decide_eq_true c33; have c33b1 : decide (4096 < a0_10.size) = true := decide_eq_true (by omega); clear c33; (first | rw [c33b0] | (simp only [i64_w, i32_w]; rw [c33b0]) | skip); have H' := Aside0.mk H; clear H; obtain ⟨Z34_0, Z34_1, Z34_2, Z34_3, Z34_4, Z34_5, Z34_6, Z34_7, Z34_8, Z34_9, Z34_10, F34_0, F34_1, F34_2, F34_3, F34_4, F34_5, F34_6, F34_7, F34_8, F34_9, F34_10⟩ := bc11 BK101.out; go_wp2
       repeat (go_quiet (fail); try go_wp2)
       go_meet
       case rel => exact ⟨_, (true), z1_, H', ⟨by have := HJ1.out; have := HK2.out; first | omega | exact Nat.le_refl _⟩, ⟨bk_ BK101.out⟩, ⟨hs_⟩⟩
      rw [if_neg c33] at H; have c33b0 := decide_eq_false c33; have c33b1 : decide (4096 < a0_10.size) = false := decide_eq_false (by omega); clear c33; (first | rw [c33b0] | (simp only [i64_w, i32_w]; rw [c33b0]) | skip); have H' := Aside0.mk H; clear H; obtain ⟨Z35_0, Z35_1, Z35_2, Z35_3, Z35_4, Z35_5, Z35_6, Z35_7, Z35_8, Z35_9, Z35_10, F35_0, F35_1, F35_2, F35_3, F35_4, F35_5, F35_6, F35_7, F35_8, F35_9, F35_10⟩ := bc11 BK101.out; go_wp2
      repeat (go_quiet (fail); try go_wp2)
      go_meet
      case rel => exact ⟨_, (decide ((l0_1.length : Int) > 8)), z1_, H', ⟨by have := HJ1.out; have := HK2.out; first | omega | exact Nat.le_refl _⟩, ⟨bk_ BK101.out⟩, ⟨hs_⟩⟩
     case rest =>
      clear HC31; try clear c1
      try clear p1
      try clear q1
      try clear hx1
      try clear c2
      try clear p2
      try clear c3
      try clear c5
      try clear p6
      try clear c7
      try clear c9
      try clear p10
      try clear q10
      try clear hx10
      try clear c19
      try clear c23
      try clear c23b0
      try clear c24
      try clear c26
      try clear c26b0
      try clear c29
      try clear c33
      try clear c33b0
      try clear c33b1
      try clear Z11_0 Z11_1 Z11_10 Z11_2 Z11_3 Z11_4 Z11_5 Z11_6 Z11_7 Z11_8 Z11_9
      try clear Z13_0 Z13_1 Z13_10 Z13_2 Z13_3 Z13_4 Z13_5 Z13_6 Z13_7 Z13_8 Z13_9
      try clear Z15_0 Z15_1 Z15_10 Z15_2 Z15_3 Z15_4 Z15_5 Z15_6 Z15_7 Z15_8 Z15_9
      try clear Z16_0 Z16_1 Z16_10 Z16_2 Z16_3 Z16_4 Z16_5 Z16_6 Z16_7 Z16_8 Z16_9
      try clear Z18_0 Z18_1 Z18_10 Z18_2 Z18_3 Z18_4 Z18_5 Z18_6 Z18_7 Z18_8 Z18_9
      try clear Z20_0 Z20_1 Z20_10 Z20_2 Z20_3 Z20_4 Z20_5 Z20_6 Z20_7 Z20_8 Z20_9
      try clear Z22_0 Z22_1 Z22_10 Z22_2 Z22_3 Z22_4 Z22_5 Z22_6 Z22_7 Z22_8 Z22_9
      try clear Z25_0 Z25_1 Z25_10 Z25_2 Z25_3 Z25_4 Z25_5 Z25_6 Z25_7 Z25_8 Z25_9
      try clear Z28_0 Z28_1 Z28_10 Z28_2 Z28_3 Z28_4 Z28_5 Z28_6 Z28_7 Z28_8 Z28_9
      try clear Z30_0 Z30_1 Z30_10 Z30_2 Z30_3 Z30_4 Z30_5 Z30_6 Z30_7 Z30_8 Z30_9
      try clear Z32_0 Z32_1 Z32_10 Z32_2 Z32_3 Z32_4 Z32_5 Z32_6 Z32_7 Z32_8 Z32_9
      try clear Z34_0 Z34_1 Z34_10 Z34_2 Z34_3 Z34_4 Z34_5 Z34_6 Z34_7 Z34_8 Z34_9
      try clear Z35_0 Z35_1 Z35_10 Z35_2 Z35_3 Z35_4 Z35_5 Z35_6 Z35_7 Z35_8 Z35_9
      try clear F11_0 F11_1 F11_10 F11_2 F11_3 F11_4 F11_5 F11_6 F11_7 F11_8 F11_9
      try clear F13_0 F13_1 F13_10 F13_2 F13_3 F13_4 F13_5 F13_6 F13_7 F13_8 F13_9
      try clear F15_0 F15_1 F15_10 F15_2 F15_3 F15_4 F15_5 F15_6 F15_7 F15_8 F15_9
      try clear F16_0 F16_1 F16_10 F16_2 F16_3 F16_4 F16_5 F16_6 F16_7 F16_8 F16_9
      try clear F18_0 F18_1 F18_10 F18_2 F18_3 F18_4 F18_5 F18_6 F18_7 F18_8 F18_9
      try clear F20_0 F20_1 F20_10 F20_2 F20_3 F20_4 F20_5 F20_6 F20_7 F20_8 F20_9
      try clear F22_0 F22_1 F22_10 F22_2 F22_3 F22_4 F22_5 F22_6 F22_7 F22_8 F22_9
      try clear F25_0 F25_1 F25_10 F25_2 F25_3 F25_4 F25_5 F25_6 F25_7 F25_8 F25_9
      try clear F28_0 F28_1 F28_10 F28_2 F28_3 F28_4 F28_5 F28_6 F28_7 F28_8 F28_9
      try clear F30_0 F30_1 F30_10 F30_2 F30_3 F30_4 F30_5 F30_6 F30_7 F30_8 F30_9
      try clear F32_0 F32_1 F32_10 F32_2 F32_3 F32_4 F32_5 F32_6 F32_7 F32_8 F32_9
      try clear F34_0 F34_1 F34_10 F34_2 F34_3 F34_4 F34_5 F34_6 F34_7 F34_8 F34_9
      try clear F35_0 F35_1 F35_10 F35_2 F35_3 F35_4 F35_5 F35_6 F35_7 F35_8 F35_9
      try clear hx106_0
      try clear p106
      try clear p2
      try clear q106
      obtain ⟨kq, x55_30, rfl, HA, HJ30, BK101, HB⟩ := hcut
      cases kq with
      | zero => exact absurd HA.out (by simp [graftageref16_Check.j2])
      | succ kj30 =>
       have H := HA.out; clear HA; simp only [graftageref16_Check.j2] at H; by_cases c36 : x55_30 = true
       ·subst c36; rw [if_pos rfl] at H; obtain rfl := Option.some.inj H; go_wp2
        repeat (go_quiet (fail); try go_wp2)
        go_ret
        exact ⟨z3_, hs_⟩
       replace c36 := Bool.eq_false_iff.mpr c36; subst c36; rw [if_neg nft_] at H; have H' := Aside0.mk H; clear H; go_wp2
       repeat (go_quiet (fail); try go_wp2)
       go_loopg [5] kj30 (fun kq v5 w' => ∃ (x5_4 : Int), v5 = .int .i64 x5_4 ∧ Aside0 (graftageref16_Check.l1 kq x5_4 a0_0 l0_1 a0_2 a0_3 a0_4 a0_5 a0_6 a0_7 a0_8 a0_9 a0_10 = some r) ∧ Aside0 (kq ≤ kj30) ∧ Aside0 (w'.heap[gb101]? = some (.cells #[.string a0_0, (.slice A0_1 l0_1.length c0_1), .string a0_2, .string a0_3, .int .i64 a0_4, .int .i64 a0_5, .string a0_6, .string a0_7, .int .i64 a0_8, .int .i64 a0_9, .string a0_10] 26 (0, 0))) ∧ Aside0 (Below w.heap.size w w'))
       case atStart => exact ⟨(0), z1_, H', ⟨Nat.le_refl _⟩, ⟨bk_ BK101.out⟩, ⟨hs_⟩⟩
       case round =>
        clear H'; try clear c1
        try clear p1
        try clear q1
        try clear hx1
        try clear c2
        try clear p2
        try clear c3
        try clear c5
        try clear p6
        try clear c7
        try clear c9
        try clear p10
        try clear q10
        try clear hx10
        try clear c19
        try clear c23
        try clear c23b0
        try clear c24
        try clear c26
        try clear c26b0
        try clear c29
        try clear c33
        try clear c33b0
        try clear c33b1
        try clear c36
        try clear Z11_0 Z11_1 Z11_10 Z11_2 Z11_3 Z11_4 Z11_5 Z11_6 Z11_7 Z11_8 Z11_9
        try clear Z13_0 Z13_1 Z13_10 Z13_2 Z13_3 Z13_4 Z13_5 Z13_6 Z13_7 Z13_8 Z13_9
        try clear Z15_0 Z15_1 Z15_10 Z15_2 Z15_3 Z15_4 Z15_5 Z15_6 Z15_7 Z15_8 Z15_9
        try clear Z16_0 Z16_1 Z16_10 Z16_2 Z16_3 Z16_4 Z16_5 Z16_6 Z16_7 Z16_8 Z16_9
        try clear Z18_0 Z18_1 Z18_10 Z18_2 Z18_3 Z18_4 Z18_5 Z18_6 Z18_7 Z18_8 Z18_9
        try clear Z20_0 Z20_1 Z20_10 Z20_2 Z20_3 Z20_4 Z20_5 Z20_6 Z20_7 Z20_8 Z20_9
        try clear Z22_0 Z22_1 Z22_10 Z22_2 Z22_3 Z22_4 Z22_5 Z22_6 Z22_7 Z22_8 Z22_9
        try clear Z25_0 Z25_1 Z25_10 Z25_2 Z25_3 Z25_4 Z25_5 Z25_6 Z25_7 Z25_8 Z25_9
        try clear Z28_0 Z28_1 Z28_10 Z28_2 Z28_3 Z28_4 Z28_5 Z28_6 Z28_7 Z28_8 Z28_9
        try clear Z30_0 Z30_1 Z30_10 Z30_2 Z30_3 Z30_4 Z30_5 Z30_6 Z30_7 Z30_8 Z30_9
        try clear Z32_0 Z32_1 Z32_10 Z32_2 Z32_3 Z32_4 Z32_5 Z32_6 Z32_7 Z32_8 Z32_9
        try clear Z34_0 Z34_1 Z34_10 Z34_2 Z34_3 Z34_4 Z34_5 Z34_6 Z34_7 Z34_8 Z34_9
        try clear Z35_0 Z35_1 Z35_10 Z35_2 Z35_3 Z35_4 Z35_5 Z35_6 Z35_7 Z35_8 Z35_9
        try clear F11_0 F11_1 F11_10 F11_2 F11_3 F11_4 F11_5 F11_6 F11_7 F11_8 F11_9
        try clear F13_0 F13_1 F13_10 F13_2 F13_3 F13_4 F13_5 F13_6 F13_7 F13_8 F13_9
        try clear F15_0 F15_1 F15_10 F15_2 F15_3 F15_4 F15_5 F15_6 F15_7 F15_8 F15_9
        try clear F16_0 F16_1 F16_10 F16_2 F16_3 F16_4 F16_5 F16_6 F16_7 F16_8 F16_9
        try clear F18_0 F18_1 F18_10 F18_2 F18_3 F18_4 F18_5 F18_6 F18_7 F18_8 F18_9
        try clear F20_0 F20_1 F20_10 F20_2 F20_3 F20_4 F20_5 F20_6 F20_7 F20_8 F20_9
        try clear F22_0 F22_1 F22_10 F22_2 F22_3 F22_4 F22_5 F22_6 F22_7 F22_8 F22_9
        try clear F25_0 F25_1 F25_10 F25_2 F25_3 F25_4 F25_5 F25_6 F25_7 F25_8 F25_9
        try clear F28_0 F28_1 F28_10 F28_2 F28_3 F28_4 F28_5 F28_6 F28_7 F28_8 F28_9
        try clear F30_0 F30_1 F30_10 F30_2 F30_3 F30_4 F30_5 F30_6 F30_7 F30_8 F30_9
        try clear F32_0 F32_1 F32_10 F32_2 F32_3 F32_4 F32_5 F32_6 F32_7 F32_8 F32_9
        try clear F34_0 F34_1 F34_10 F34_2 F34_3 F34_4 F34_5 F34_6 F34_7 F34_8 F34_9
        try clear F35_0 F35_1 F35_10 F35_2 F35_3 F35_4 F35_5 F35_6 F35_7 F35_8 F35_9
        try clear hx106_0
        try clear p1
        try clear p10
        try clear p106
        try clear p2
        try clear p6
        try clear q1
        try clear q10
        try clear q106
        obtain ⟨x5_4, rfl, HA, HK4, BK101, HB⟩ := hrel
        cases gk with
        | zero => exact absurd HA.out (by simp [graftageref16_Check.l1])
        | succ k4 =>
         have H := HA.out; clear HA; simp only [graftageref16_Check.l1] at H; by_cases c37 : x5_4 < (l0_1.length : Int); rotate_left
         ·rw [if_neg c37] at H; have c37b0 := decide_eq_false c37; clear c37; obtain rfl := Option.some.inj H; obtain ⟨Z47_0, Z47_1, Z47_2, Z47_3, Z47_4, Z47_5, Z47_6, Z47_7, Z47_8, Z47_9, Z47_10, F47_0, F47_1, F47_2, F47_3, F47_4, F47_5, F47_6, F47_7, F47_8, F47_9, F47_10⟩ := bc11 BK101.out; go_wp2
          repeat (go_quiet (fail); try go_wp2)
          go_ret
          exact ⟨z3_, hs_⟩
         rw [if_pos c37] at H; have c37b0 := decide_eq_true c37; clear c37; have H' := Aside0.mk H; clear H; obtain ⟨Z38_0, Z38_1, Z38_2, Z38_3, Z38_4, Z38_5, Z38_6, Z38_7, Z38_8, Z38_9, Z38_10, F38_0, F38_1, F38_2, F38_3, F38_4, F38_5, F38_6, F38_7, F38_8, F38_9, F38_10⟩ := bc11 BK101.out; go_wp2
         repeat (go_quiet (fail); try go_wp2)
         go_loopg [6] k4 (fun kq v6 w' => ∃ (x6_5 : Int), v6 = .int .i64 x6_5 ∧ Aside0 (graftageref16_Check.l2 kq x5_4 x6_5 a0_0 l0_1 a0_2 a0_3 a0_4 a0_5 a0_6 a0_7 a0_8 a0_9 a0_10 = some r) ∧ Aside0 (kq ≤ k4) ∧ Aside0 (w'.heap[gb101]? = some (.cells #[.string a0_0, (.slice A0_1 l0_1.length c0_1), .string a0_2, .string a0_3, .int .i64 a0_4, .int .i64 a0_5, .string a0_6, .string a0_7, .int .i64 a0_8, .int .i64 a0_9, .string a0_10] 26 (0, 0))) ∧ Aside0 (Below w.heap.size w w'))
         case atStart => exact ⟨(0), z1_, H', ⟨Nat.le_refl _⟩, ⟨bk_ BK101.out⟩, ⟨hs_⟩⟩
         case round =>
          clear H'; try clear c1
          try clear p1
          try clear q1
          try clear hx1
          try clear c2
          try clear p2
          try clear c3
          try clear c5
          try clear p6
          try clear c7
          try clear c9
          try clear p10
          try clear q10
          try clear hx10
          try clear c19
          try clear c23
          try clear c23b0
          try clear c24
          try clear c26
          try clear c26b0
          try clear c29
          try clear c33
          try clear c33b0
          try clear c33b1
          try clear c36
          try clear c37
          try clear c37b0
          try clear Z11_0 Z11_1 Z11_10 Z11_2 Z11_3 Z11_4 Z11_5 Z11_6 Z11_7 Z11_8 Z11_9
          try clear Z13_0 Z13_1 Z13_10 Z13_2 Z13_3 Z13_4 Z13_5 Z13_6 Z13_7 Z13_8 Z13_9
          try clear Z15_0 Z15_1 Z15_10 Z15_2 Z15_3 Z15_4 Z15_5 Z15_6 Z15_7 Z15_8 Z15_9
          try clear Z16_0 Z16_1 Z16_10 Z16_2 Z16_3 Z16_4 Z16_5 Z16_6 Z16_7 Z16_8 Z16_9
          try clear Z18_0 Z18_1 Z18_10 Z18_2 Z18_3 Z18_4 Z18_5 Z18_6 Z18_7 Z18_8 Z18_9
          try clear Z20_0 Z20_1 Z20_10 Z20_2 Z20_3 Z20_4 Z20_5 Z20_6 Z20_7 Z20_8 Z20_9
          try clear Z22_0 Z22_1 Z22_10 Z22_2 Z22_3 Z22_4 Z22_5 Z22_6 Z22_7 Z22_8 Z22_9
          try clear Z25_0 Z25_1 Z25_10 Z25_2 Z25_3 Z25_4 Z25_5 Z25_6 Z25_7 Z25_8 Z25_9
          try clear Z28_0 Z28_1 Z28_10 Z28_2 Z28_3 Z28_4 Z28_5 Z28_6 Z28_7 Z28_8 Z28_9
          try clear Z30_0 Z30_1 Z30_10 Z30_2 Z30_3 Z30_4 Z30_5 Z30_6 Z30_7 Z30_8 Z30_9
          try clear Z32_0 Z32_1 Z32_10 Z32_2 Z32_3 Z32_4 Z32_5 Z32_6 Z32_7 Z32_8 Z32_9
          try clear Z34_0 Z34_1 Z34_10 Z34_2 Z34_3 Z34_4 Z34_5 Z34_6 Z34_7 Z34_8 Z34_9
          try clear Z35_0 Z35_1 Z35_10 Z35_2 Z35_3 Z35_4 Z35_5 Z35_6 Z35_7 Z35_8 Z35_9
          try clear Z38_0 Z38_1 Z38_10 Z38_2 Z38_3 Z38_4 Z38_5 Z38_6 Z38_7 Z38_8 Z38_9
          try clear F11_0 F11_1 F11_10 F11_2 F11_3 F11_4 F11_5 F11_6 F11_7 F11_8 F11_9
          try clear F13_0 F13_1 F13_10 F13_2 F13_3 F13_4 F13_5 F13_6 F13_7 F13_8 F13_9
          try clear F15_0 F15_1 F15_10 F15_2 F15_3 F15_4 F15_5 F15_6 F15_7 F15_8 F15_9
          try clear F16_0 F16_1 F16_10 F16_2 F16_3 F16_4 F16_5 F16_6 F16_7 F16_8 F16_9
          try clear F18_0 F18_1 F18_10 F18_2 F18_3 F18_4 F18_5 F18_6 F18_7 F18_8 F18_9
          try clear F20_0 F20_1 F20_10 F20_2 F20_3 F20_4 F20_5 F20_6 F20_7 F20_8 F20_9
          try clear F22_0 F22_1 F22_10 F22_2 F22_3 F22_4 F22_5 F22_6 F22_7 F22_8 F22_9
          try clear F25_0 F25_1 F25_10 F25_2 F25_3 F25_4 F25_5 F25_6 F25_7 F25_8 F25_9
          try clear F28_0 F28_1 F28_10 F28_2 F28_3 F28_4 F28_5 F28_6 F28_7 F28_8 F28_9
          try clear F30_0 F30_1 F30_10 F30_2 F30_3 F30_4 F30_5 F30_6 F30_7 F30_8 F30_9
          try clear F32_0 F32_1 F32_10 F32_2 F32_3 F32_4 F32_5 F32_6 F32_7 F32_8 F32_9
          try clear F34_0 F34_1 F34_10 F34_2 F34_3 F34_4 F34_5 F34_6 F34_7 F34_8 F34_9
          try clear F35_0 F35_1 F35_10 F35_2 F35_3 F35_4 F35_5 F35_6 F35_7 F35_8 F35_9
          try clear F38_0 F38_1 F38_10 F38_2 F38_3 F38_4 F38_5 F38_6 F38_7 F38_8 F38_9
          try clear hx106_0
          try clear p1
          try clear p10
          try clear p106
          try clear p2
          try clear p6
          try clear q1
          try clear q10
          try clear q106
          obtain ⟨x6_5, rfl, HA, HK5, BK101, HB⟩ := hrel
          cases gk with
          | zero => exact absurd HA.out (by simp [graftageref16_Check.l2])
          | succ k5 =>
           have H := HA.out; clear HA; simp only [graftageref16_Check.l2] at H; by_cases c39 : x6_5 < x5_4; rotate_left
           ·rw [if_neg c39] at H; have c39b0 := decide_eq_false c39; clear c39; have H' := Aside0.mk H; clear H; go_wp2
            repeat (go_quiet (fail); try go_wp2)
            go_roundg k5
            case measure => have := HJ1.out; have := HK2.out; have := HJ30.out; have := HK4.out; have := HK5.out; omega
            case rel => exact ⟨(wrap64 (x5_4 + 1)), z1_, H', ⟨by have := HJ1.out; have := HK2.out; have := HJ30.out; have := HK4.out; have := HK5.out; omega⟩, ⟨bk_ BK101.out⟩, ⟨hs_⟩⟩
           rw [if_pos c39] at H; have c39b0 := decide_eq_true c39; clear c39; by_cases c40 : 0 ≤ x5_4; rotate_left
           ·rw [if_neg c40] at H; exact absurd H (by simp)
           rw [if_pos c40] at H; have c40b0 := decide_eq_true c40; clear c40; by_cases c41 : x5_4 < (l0_1.length : Int); rotate_left
           ·rw [if_neg c41] at H; exact absurd H (by simp)
           rw [if_pos c41] at H; have c41b0 := decide_eq_true c41; clear c41; by_cases c42 : 0 ≤ x6_5; rotate_left
           ·rw [if_neg c42] at H; exact absurd H (by simp)
           rw [if_pos c42] at H; have c42b0 := decide_eq_true c42; clear c42; by_cases c43 : x6_5 < (l0_1.length : Int); rotate_left
           ·rw [if_neg c43] at H; exact absurd H (by simp)
           rw [if_pos c43] at H; have c43b0 := decide_eq_true c43; clear c43; by_cases c44 : (rdOf ByteArray.empty l0_1 x5_4).toList = (rdOf ByteArray.empty l0_1 x6_5).toList
           ·rw [if_pos c44] at H; have c44b0 := beq_iff_eq.mpr c44; have c44b1 := bne_eq_false_iff_eq.mpr c44; clear c44; obtain rfl := Option.some.inj H; obtain ⟨Z45_0, Z45_1, Z45_2, Z45_3, Z45_4, Z45_5, Z45_6, Z45_7, Z45_8, Z45_9, Z45_10, F45_0, F45_1, F45_2, F45_3, F45_4, F45_5, F45_6, F45_7, F45_8, F45_9, F45_10⟩ := bc11 BK101.out; have p108 : 0 ≤ (x5_4 : Int) := of_decide_eq_true z0_; have q108 : x5_4 < (l0_1.length : Int) := of_decide_eq_true z0_; obtain ⟨ad108, e108, hx108_0⟩ := Kd.at_string HR0_1.out x5_4 p108 q108
            cases e108
            replace hx108_0 := (HB.out.cell (World.block_lt_of_cell? w _ hx108_0)).trans hx108_0; replace p108 := eq_true p108; replace q108 := eq_true q108; have p109 : 0 ≤ (x6_5 : Int) := of_decide_eq_true z0_; have q109 : x6_5 < (l0_1.length : Int) := of_decide_eq_true z0_; obtain ⟨ad109, e109, hx109_0⟩ := Kd.at_string HR0_1.out x6_5 p109 q109; obtain rfl : ad108 = ad109 := (by injection e109); replace hx109_0 := (HB.out.cell (World.block_lt_of_cell? w _ hx109_0)).trans hx109_0; replace p109 := eq_true p109; replace q109 := eq_true q109; go_wp2
            repeat (go_quiet (fail); try go_wp2)
            go_ret
            exact ⟨z3_, hs_⟩
           rw [if_neg c44] at H; have c44b0 := beq_eq_false_iff_ne.mpr c44; have c44b1 := bne_iff_ne.mpr c44; have H' := Aside0.mk H; clear H; obtain ⟨Z46_0, Z46_1, Z46_2, Z46_3, Z46_4, Z46_5, Z46_6, Z46_7, Z46_8, Z46_9, Z46_10, F46_0, F46_1, F46_2, F46_3, F46_4, F46_5, F46_6, F46_7, F46_8, F46_9, F46_10⟩ := bc11 BK101.out; have p108 : 0 ≤ (x5_4 : Int) := of_decide_eq_true z0_; have q108 : x5_4 < (l0_1.length : Int) := of_decide_eq_true z0_; obtain ⟨ad108, e108, hx108_0⟩ := Kd.at_string HR0_1.out x5_4 p108 q108
           cases e108
           replace hx108_0 := (HB.out.cell (World.block_lt_of_cell? w _ hx108_0)).trans hx108_0; replace p108 := eq_true p108; replace q108 := eq_true q108; have p109 : 0 ≤ (x6_5 : Int) := of_decide_eq_true z0_; have q109 : x6_5 < (l0_1.length : Int) := of_decide_eq_true z0_; obtain ⟨ad109, e109, hx109_0⟩ := Kd.at_string HR0_1.out x6_5 p109 q109; obtain rfl : ad108 = ad109 := (by injection e109); replace hx109_0 := (HB.out.cell (World.block_lt_of_cell? w _ hx109_0)).trans hx109_0; replace p109 := eq_true p109; replace q109 := eq_true q109; go_wp2
           repeat (go_quiet (fail); try go_wp2)
           go_roundg k5
           case measure => have := HJ1.out; have := HK2.out; have := HJ30.out; have := HK4.out; have := HK5.out; omega
           case rel => exact ⟨(wrap64 (x6_5 + 1)), z1_, H', ⟨by have := HJ1.out; have := HK2.out; have := HJ30.out; have := HK4.out; have := HK5.out; omega⟩, ⟨bk_ BK101.out⟩, ⟨hs_⟩⟩


def graftageref16_Num.l0 : Nat → Int → ByteArray → Option (ByteArray)
 | 0, _, _ => none
 | k + 1, x0, x3 => if x0 ≥ 10 then ((some (([(wrap64 (48 + (Int.tmod x0 10))) % 256] : List Int) : List Int)).bind fun y140 => (if (strOfNums y140).size + x3.size ≤ 9223372036854775807 then (graftageref16_Num.l0 k (wrap64 (Int.tdiv x0 10)) ((strOfNums y140) ++ x3)) else (none))) else ((some (([(wrap64 (48 + x0)) % 256] : List Int) : List Int)).bind fun y143 => (if (strOfNums y143).size + x3.size ≤ 9223372036854775807 then (some ((strOfNums y143) ++ x3)) else (none)))
def graftageref16_Num.f (k : Nat) (a0 : Int) : Option (ByteArray) := graftageref16_Num.l0 k a0 ⟨#[]⟩
set_option maxHeartbeats 8000000 in
set_option maxRecDepth 100000 in
theorem graftageref16_Num.calls (k : Nat) (a0 : Int) (r : ByteArray) (w : World) (h : graftageref16_Num.f k a0 = some r) :
  Calls Tryz.prog 93 #[.int .i64 a0] w fun e w' => e = .returned (.string r) ∧ Below w.heap.size w w' := by
 have HB := Aside0.mk (Below.refl w.heap.size w); unfold graftageref16_Num.f at h; have H := h; clear h; have H' := Aside0.mk H; clear H; go_enter Tryz.func93, Tryz.ntmps93; go_wp2
 go_loopg [0, 3] k (fun kq v0 v3 w' => ∃ (x0_1 : Int) (x3_1 : ByteArray), v0 = .int .i64 x0_1 ∧ v3 = .string x3_1 ∧ Aside0 (graftageref16_Num.l0 kq x0_1 x3_1 = some r) ∧ Aside0 (kq ≤ k) ∧ Aside0 (Below w.heap.size w w'))
 case atStart => exact ⟨(a0), ((⟨#[]⟩ : ByteArray)), z1_, z1_, H', ⟨Nat.le_refl _⟩, ⟨hb_ HB.out⟩⟩
 case round =>
  clear H'; obtain ⟨x0_1, x3_1, rfl, rfl, HA, HK1, HB⟩ := hrel
  cases gk with
  | zero => exact absurd HA.out (by simp [graftageref16_Num.l0])
  | succ k1 =>
   have H := HA.out; clear HA; simp only [graftageref16_Num.l0] at H; by_cases c2 : x0_1 ≥ 10; rotate_left
   ·rw [if_neg c2] at H; have c2b0 := decide_eq_false c2; clear c2; obtain ⟨y143, hy143⟩ : ∃ y_ : List Int, y_ = (([(wrap64 (48 + x0_1)) % 256] : List Int)) := ⟨_, rfl⟩; replace H : (if (strOfNums y143).size + x3_1.size ≤ 9223372036854775807 then (some ((strOfNums y143) ++ x3_1)) else (none)) = some r := by first | (rw [hy143]; with_reducible exact H) | (have H2_ := (Option.bind_some _ _).symm.trans H; rw [hy143]; with_reducible exact H2_) | (have H2_ := (Option.bind_some _ _).symm.trans H; with_reducible exact H2_) | with_reducible exact H | (rw [hy143]; exact H) | exact H
    have Ny143 := Aside0.mk hy143; clear hy143; by_cases c7 : (strOfNums y143).size + x3_1.size ≤ 9223372036854775807; rotate_left
    ·rw [if_neg c7] at H; exact absurd H (by simp)
    rw [if_pos c7] at H; have c7b0 := eq_true c7; have c7b1 := decide_eq_true c7; try have c7b2 := nl_ c7
    obtain rfl := Option.some.inj H; go_wp2_with (first | ((with_reducible refine gate_dst (N := 19) rfl ?_); refine Kd.R_lit (Kd.int .u8) _ 5 ?hg (N := 19) ?hd (xs := ([(wrap64 (48 + x0_1)) % 256] : List Int)) (inner := [.int .u8 ((wrap64 (48 + x0_1)) % 256)]) (ok := fun _ => True) (okp := fun _ => True) ?hr ?hp (fun _ hk => hk) trivial (Below.refl _ _) (Nat.le_refl _) (by simp) ?_; (case hd => rfl); (case hg => rfl); (case hr => first | (go_simp; done) | (go_simp; rfl)); (case hp => exact (Reps.one (show Kd.M (Kd.int .u8) _ _ _ ((wrap64 (48 + x0_1)) % 256) [.int .u8 ((wrap64 (48 + x0_1)) % 256)] from rfl) (Reps.none _ _))); intro v144 w8 ho9 hb hg_ hnew_; clear hg_ hnew_; (first | rw [← Ny143.out] at ho9 | (simp only [Int.reduceToNat] at ho9; rw [← Ny143.out] at ho9)); have HO145 := Aside0.mk (Kd.R_lower ho9 (below_size (hb_ HB.out))); replace HB := ah_ HB hb; clear hb ho9; have hcv10 := own_string (P := Tryz.prog) Tryz.underlying103 Tryz.underlying5 Tryz.underlying9 (Kd.own_of_R HO145.out))); go_ret
    exact ⟨z3_, hb_ HB.out⟩
   rw [if_pos c2] at H; have c2b0 := decide_eq_true c2; clear c2; obtain ⟨y140, hy140⟩ : ∃ y_ : List Int, y_ = (([(wrap64 (48 + (Int.tmod x0_1 10))) % 256] : List Int)) := ⟨_, rfl⟩; replace H : (if (strOfNums y140).size + x3_1.size ≤ 9223372036854775807 then (graftageref16_Num.l0 k1 (wrap64 (Int.tdiv x0_1 10)) ((strOfNums y140) ++ x3_1)) else (none)) = some r := by first | (rw [hy140]; with_reducible exact H) | (have H2_ := (Option.bind_some _ _).symm.trans H; rw [hy140]; with_reducible exact H2_) | (have H2_ := (Option.bind_some _ _).symm.trans H; with_reducible exact H2_) | with_reducible exact H | (rw [hy140]; exact H) | exact H
   have Ny140 := Aside0.mk hy140; clear hy140; by_cases c3 : (strOfNums y140).size + x3_1.size ≤ 9223372036854775807; rotate_left
   ·rw [if_neg c3] at H; exact absurd H (by simp)
   rw [if_pos c3] at H; have c3b0 := eq_true c3; have c3b1 := decide_eq_true c3; try have c3b2 := nl_ c3
   have H' := Aside0.mk H; clear H; go_wp2_with (first | ((with_reducible refine gate_dst (N := 10) rfl ?_); refine Kd.R_lit (Kd.int .u8) _ 5 ?hg (N := 10) ?hd (xs := ([(wrap64 (48 + (Int.tmod x0_1 10))) % 256] : List Int)) (inner := [.int .u8 ((wrap64 (48 + (Int.tmod x0_1 10))) % 256)]) (ok := fun _ => True) (okp := fun _ => True) ?hr ?hp (fun _ hk => hk) trivial (Below.refl _ _) (Nat.le_refl _) (by simp) ?_; (case hd => rfl); (case hg => rfl); (case hr => first | (go_simp; done) | (go_simp; rfl)); (case hp => exact (Reps.one (show Kd.M (Kd.int .u8) _ _ _ ((wrap64 (48 + (Int.tmod x0_1 10))) % 256) [.int .u8 ((wrap64 (48 + (Int.tmod x0_1 10))) % 256)] from rfl) (Reps.none _ _))); intro v141 w4 ho5 hb hg_ hnew_; clear hg_ hnew_; (first | rw [← Ny140.out] at ho5 | (simp only [Int.reduceToNat] at ho5; rw [← Ny140.out] at ho5)); have HO142 := Aside0.mk (Kd.R_lower ho5 (below_size (hb_ HB.out))); replace HB := ah_ HB hb; clear hb ho5; have hcv6 := own_string (P := Tryz.prog) Tryz.underlying103 Tryz.underlying5 Tryz.underlying9 (Kd.own_of_R HO142.out))); go_roundg k1
   case measure => have := HK1.out; omega
   case rel => exact ⟨(wrap64 (Int.tdiv x0_1 10)), ((strOfNums y140) ++ x3_1), z1_, z1_, H', ⟨by have := HK1.out; omega⟩, ⟨hb_ HB.out⟩⟩


def graftageref16_Who.f (k : Nat) (a0_0 : ByteArray) (a0_1 : ByteArray) (a0_2 : Int) (a0_3 : Int) : Option (ByteArray) := if a0_3 < 0 then ((some (([(wrap64 (48 + (wrap64 (Int.tdiv (wrap64 (-a0_3)) 600)))) % 256, (wrap64 (48 + (Int.tmod (wrap64 (Int.tdiv (wrap64 (-a0_3)) 60)) 10))) % 256, (wrap64 (48 + (wrap64 (Int.tdiv (Int.tmod (wrap64 (-a0_3)) 60) 10)))) % 256, (wrap64 (48 + (Int.tmod (wrap64 (-a0_3)) 10))) % 256] : List Int) : List Int)).bind fun y108 => (if a0_0.size + 2 ≤ 9223372036854775807 then (if (a0_0 ++ (⟨#[32, 60]⟩ : ByteArray)).size + a0_1.size ≤ 9223372036854775807 then (if ((a0_0 ++ (⟨#[32, 60]⟩ : ByteArray)) ++ a0_1).size + 2 ≤ 9223372036854775807 then ((graftageref16_Num.f k a0_2).bind fun t111 => (if (((a0_0 ++ (⟨#[32, 60]⟩ : ByteArray)) ++ a0_1) ++ (⟨#[62, 32]⟩ : ByteArray)).size + t111.size ≤ 9223372036854775807 then (if ((((a0_0 ++ (⟨#[32, 60]⟩ : ByteArray)) ++ a0_1) ++ (⟨#[62, 32]⟩ : ByteArray)) ++ t111).size + 1 ≤ 9223372036854775807 then (if (((((a0_0 ++ (⟨#[32, 60]⟩ : ByteArray)) ++ a0_1) ++ (⟨#[62, 32]⟩ : ByteArray)) ++ t111) ++ (⟨#[32]⟩ : ByteArray)).size + 1 ≤ 9223372036854775807 then (if ((((((a0_0 ++ (⟨#[32, 60]⟩ : ByteArray)) ++ a0_1) ++ (⟨#[62, 32]⟩ : ByteArray)) ++ t111) ++ (⟨#[32]⟩ : ByteArray)) ++ (⟨#[45]⟩ : ByteArray)).size + (strOfNums y108).size ≤ 9223372036854775807 then (some (((((((a0_0 ++ (⟨#[32, 60]⟩ : ByteArray)) ++ a0_1) ++ (⟨#[62, 32]⟩ : ByteArray)) ++ t111) ++ (⟨#[32]⟩ : ByteArray)) ++ (⟨#[45]⟩ : ByteArray)) ++ (strOfNums y108))) else (none)) else (none)) else (none)) else (none))) else (none)) else (none)) else (none))) else ((some (([(wrap64 (48 + (wrap64 (Int.tdiv a0_3 600)))) % 256, (wrap64 (48 + (Int.tmod (wrap64 (Int.tdiv a0_3 60)) 10))) % 256, (wrap64 (48 + (wrap64 (Int.tdiv (Int.tmod a0_3 60) 10)))) % 256, (wrap64 (48 + (Int.tmod a0_3 10))) % 256] : List Int) : List Int)).bind fun y112 => (if a0_0.size + 2 ≤ 9223372036854775807 then (if (a0_0 ++ (⟨#[32, 60]⟩ : ByteArray)).size + a0_1.size ≤ 9223372036854775807 then (if ((a0_0 ++ (⟨#[32, 60]⟩ : ByteArray)) ++ a0_1).size + 2 ≤ 9223372036854775807 then ((graftageref16_Num.f k a0_2).bind fun t115 => (if (((a0_0 ++ (⟨#[32, 60]⟩ : ByteArray)) ++ a0_1) ++ (⟨#[62, 32]⟩ : ByteArray)).size + t115.size ≤ 9223372036854775807 then (if ((((a0_0 ++ (⟨#[32, 60]⟩ : ByteArray)) ++ a0_1) ++ (⟨#[62, 32]⟩ : ByteArray)) ++ t115).size + 1 ≤ 9223372036854775807 then (if (((((a0_0 ++ (⟨#[32, 60]⟩ : ByteArray)) ++ a0_1) ++ (⟨#[62, 32]⟩ : ByteArray)) ++ t115) ++ (⟨#[32]⟩ : ByteArray)).size + 1 ≤ 9223372036854775807 then (if ((((((a0_0 ++ (⟨#[32, 60]⟩ : ByteArray)) ++ a0_1) ++ (⟨#[62, 32]⟩ : ByteArray)) ++ t115) ++ (⟨#[32]⟩ : ByteArray)) ++ (⟨#[43]⟩ : ByteArray)).size + (strOfNums y112).size ≤ 9223372036854775807 then (some (((((((a0_0 ++ (⟨#[32, 60]⟩ : ByteArray)) ++ a0_1) ++ (⟨#[62, 32]⟩ : ByteArray)) ++ t115) ++ (⟨#[32]⟩ : ByteArray)) ++ (⟨#[43]⟩ : ByteArray)) ++ (strOfNums y112))) else (none)) else (none)) else (none)) else (none))) else (none)) else (none)) else (none)))
def graftageref16_Who.T5 : Bool × List (List Nat × List Nat) := (true, [([], []), ([0], [0]), ([1], [1]), ([], []), ([3], [3]), ([2, 4], [2, 4]), ([5], [5]), ([], []), ([7], [7]), ([8], [8]), ([6, 9], [6, 9]), ([10], [10]), ([], []), ([11, 12], [11, 12]), ([], []), ([13, 14], [13, 14]), ([15, 9, 0, 1, 2, 3, 4, 5, 6, 7, 8, 9, 10, 11, 12, 13, 14, 15], [15])])
def graftageref16_Who.B5 : List Nat := [0, 1, 3, 0, 8, 31, 63, 0, 128, 384, 1023, 2047, 0, 8191, 0, 32767, 65535]
theorem graftageref16_Who.tab5 : rtab .any (opsOf Tryz.f33 5) = graftageref16_Who.T5 := by kernel_rfl
theorem graftageref16_Who.bits5 : waitsOk graftageref16_Who.T5.2 graftageref16_Who.B5 = true := by kernel_rfl
set_option maxHeartbeats 8000000 in
set_option maxRecDepth 100000 in
theorem graftageref16_Who.calls (k : Nat) (a0_0 : ByteArray) (a0_1 : ByteArray) (a0_2 : Int) (a0_3 : Int) (r : ByteArray) (w : World) (h : graftageref16_Who.f k a0_0 a0_1 a0_2 a0_3 = some r) :
  Calls Tryz.prog 33 #[.agg #[.string a0_0, .string a0_1, .int .i64 a0_2, .int .i64 a0_3]] w fun e w' => e = .returned (.string r) ∧ Below w.heap.size w w' := by
 have hu24 := Tryz.underlying24; have HB := Aside0.mk (Below.refl w.heap.size w); unfold graftageref16_Who.f at h; have H := h; clear h; by_cases c2 : a0_3 < 0; rotate_left
 ·rw [if_neg c2] at H; have c2b0 := decide_eq_false c2; clear c2; obtain ⟨y112, hy112⟩ : ∃ y_ : List Int, y_ = (([(wrap64 (48 + (wrap64 (Int.tdiv a0_3 600)))) % 256, (wrap64 (48 + (Int.tmod (wrap64 (Int.tdiv a0_3 60)) 10))) % 256, (wrap64 (48 + (wrap64 (Int.tdiv (Int.tmod a0_3 60) 10)))) % 256, (wrap64 (48 + (Int.tmod a0_3 10))) % 256] : List Int)) := ⟨_, rfl⟩; replace H : (if a0_0.size + 2 ≤ 9223372036854775807 then (if (a0_0 ++ (⟨#[32, 60]⟩ : ByteArray)).size + a0_1.size ≤ 9223372036854775807 then (if ((a0_0 ++ (⟨#[32, 60]⟩ : ByteArray)) ++ a0_1).size + 2 ≤ 9223372036854775807 then ((graftageref16_Num.f k a0_2).bind fun t115 => (if (((a0_0 ++ (⟨#[32, 60]⟩ : ByteArray)) ++ a0_1) ++ (⟨#[62, 32]⟩ : ByteArray)).size + t115.size ≤ 9223372036854775807 then (if ((((a0_0 ++ (⟨#[32, 60]⟩ : ByteArray)) ++ a0_1) ++ (⟨#[62, 32]⟩ : ByteArray)) ++ t115).size + 1 ≤ 9223372036854775807 then (if (((((a0_0 ++ (⟨#[32, 60]⟩ : ByteArray)) ++ a0_1) ++ (⟨#[62, 32]⟩ : ByteArray)) ++ t115) ++ (⟨#[32]⟩ : ByteArray)).size + 1 ≤ 9223372036854775807 then (if ((((((a0_0 ++ (⟨#[32, 60]⟩ : ByteArray)) ++ a0_1) ++ (⟨#[62, 32]⟩ : ByteArray)) ++ t115) ++ (⟨#[32]⟩ : ByteArray)) ++ (⟨#[43]⟩ : ByteArray)).size + (strOfNums y112).size ≤ 9223372036854775807 then (some (((((((a0_0 ++ (⟨#[32, 60]⟩ : ByteArray)) ++ a0_1) ++ (⟨#[62, 32]⟩ : ByteArray)) ++ t115) ++ (⟨#[32]⟩ : ByteArray)) ++ (⟨#[43]⟩ : ByteArray)) ++ (strOfNums y112))) else (none)) else (none)) else (none)) else (none))) else (none)) else (none)) else (none)) = some r := by first | (rw [hy112]; with_reducible exact H) | (have H2_ := (Option.bind_some _ _).symm.trans H; rw [hy112]; with_reducible exact H2_) | (have H2_ := (Option.bind_some _ _).symm.trans H; with_reducible exact H2_) | with_reducible exact H | (rw [hy112]; exact H) | exact H
  have Ny112 := Aside0.mk hy112; clear hy112; by_cases c18 : a0_0.size + 2 ≤ 9223372036854775807; rotate_left
  ·rw [if_neg c18] at H; exact absurd H (by simp)
  rw [if_pos c18] at H; have c18b0 := eq_true c18; have c18b1 := decide_eq_true c18; try have c18b2 := nl_ c18
  by_cases c19 : (a0_0 ++ (⟨#[32, 60]⟩ : ByteArray)).size + a0_1.size ≤ 9223372036854775807; rotate_left
  ·rw [if_neg c19] at H; exact absurd H (by simp)
  rw [if_pos c19] at H; have c19b0 := eq_true c19; have c19b1 := decide_eq_true c19; try have c19b3 : (9223372036854775807 < a0_0.size + 2 + a0_1.size) = False := have h_ := c19; ns_
  try have c19b2 := nl_ c19
  by_cases c20 : ((a0_0 ++ (⟨#[32, 60]⟩ : ByteArray)) ++ a0_1).size + 2 ≤ 9223372036854775807; rotate_left
  ·rw [if_neg c20] at H; exact absurd H (by simp)
  rw [if_pos c20] at H; have c20b0 := eq_true c20; have c20b1 := decide_eq_true c20; try have c20b3 : (9223372036854775807 < a0_0.size + 2 + a0_1.size + 2) = False := have h_ := c20; ns_
  try have c20b2 := nl_ c20
  replace H := Option.bind_eq_some_iff.mp H; obtain ⟨t115, A210, H⟩ := H; have A21 := Aside0.mk A210; clear A210; by_cases c22 : (((a0_0 ++ (⟨#[32, 60]⟩ : ByteArray)) ++ a0_1) ++ (⟨#[62, 32]⟩ : ByteArray)).size + t115.size ≤ 9223372036854775807; rotate_left
  ·rw [if_neg c22] at H; exact absurd H (by simp)
  rw [if_pos c22] at H; have c22b0 := eq_true c22; have c22b1 := decide_eq_true c22; try have c22b3 : (9223372036854775807 < a0_0.size + 2 + a0_1.size + 2 + t115.size) = False := have h_ := c22; ns_
  try have c22b2 := nl_ c22
  by_cases c23 : ((((a0_0 ++ (⟨#[32, 60]⟩ : ByteArray)) ++ a0_1) ++ (⟨#[62, 32]⟩ : ByteArray)) ++ t115).size + 1 ≤ 9223372036854775807; rotate_left
  ·rw [if_neg c23] at H; exact absurd H (by simp)
  rw [if_pos c23] at H; have c23b0 := eq_true c23; have c23b1 := decide_eq_true c23; try have c23b3 : (9223372036854775807 < a0_0.size + 2 + a0_1.size + 2 + t115.size + 1) = False := have h_ := c23; ns_
  try have c23b2 := nl_ c23
  by_cases c24 : (((((a0_0 ++ (⟨#[32, 60]⟩ : ByteArray)) ++ a0_1) ++ (⟨#[62, 32]⟩ : ByteArray)) ++ t115) ++ (⟨#[32]⟩ : ByteArray)).size + 1 ≤ 9223372036854775807; rotate_left
  ·rw [if_neg c24] at H; exact absurd H (by simp)
  rw [if_pos c24] at H; have c24b0 := eq_true c24; have c24b1 := decide_eq_true c24; try have c24b3 : (9223372036854775807 < a0_0.size + 2 + a0_1.size + 2 + t115.size + 1 + 1) = False := have h_ := c24; ns_
  try have c24b2 := nl_ c24
  by_cases c25 : ((((((a0_0 ++ (⟨#[32, 60]⟩ : ByteArray)) ++ a0_1) ++ (⟨#[62, 32]⟩ : ByteArray)) ++ t115) ++ (⟨#[32]⟩ : ByteArray)) ++ (⟨#[43]⟩ : ByteArray)).size + (strOfNums y112).size ≤ 9223372036854775807; rotate_left
  ·rw [if_neg c25] at H; exact absurd H (by simp)
  rw [if_pos c25] at H; have c25b0 := eq_true c25; have c25b1 := decide_eq_true c25; try have c25b3 : (9223372036854775807 < a0_0.size + 2 + a0_1.size + 2 + t115.size + 1 + 1 + (strOfNums y112).size) = False := have h_ := c25; ns_
  try have c25b2 := nl_ c25
  obtain rfl := Option.some.inj H; go_enter Tryz.func33, Tryz.ntmps33; try go_wp2_with (first | ((with_reducible refine gate_dst (N := 1) rfl ?_); refine be_ (cs := #[.string a0_0, .string a0_1, .int .i64 a0_2, .int .i64 a0_3]) (t := 24) ?_; intro gb107 hg w26 hbox hb; have BK107 := Aside0.mk (hbox); have GW107 := ag_ hg HB; have GE107 := ag_ hg HB; replace HB := ah_ HB hb; clear hb hbox hg)); replace BK107 := Aside0.mk (blk_drew BK107.out); replace HB := Aside0.mk (below_drew1 HB.out); refine start_ (n := 4) (S := fun w' => w'.cell? ⟨gb107, 0, none⟩ = some (.string a0_0) ∧ w'.cell? ⟨gb107, 1, none⟩ = some (.string a0_1) ∧ w'.cell? ⟨gb107, 2, none⟩ = some (.int .i64 a0_2) ∧ w'.cell? ⟨gb107, 3, none⟩ = some (.int .i64 a0_3)) (ds := []) (bs 4 0) (by kernel_rfl) rfl rfl ⟨(blk_cell BK107.out 0).trans rfl, (blk_cell BK107.out 1).trans rfl, (blk_cell BK107.out 2).trans rfl, (blk_cell BK107.out 3).trans rfl⟩ (fun hHeld => ?_); generalize w26.drew = w27 at BK107 HB hHeld ⊢; refine pk_ (i := 0) (N := some 6) (bs 4 1) rfl rfl ?_; refine pk_ (i := 2) (N := some 3) (bs 4 5) rfl rfl ?_; refine tkK4_ (i := 1) (N := some 7) (bs 4 7) rfl rfl hHeld ?_; refine pk_ (i := 3) (N := some 4) (bs 4 15) rfl rfl ?_; refine done_ (by kernel_rfl) ?_; try go_wp2_with (first | ((with_reducible refine gate_dst (N := 30) rfl ?_); refine Kd.R_lit (Kd.int .u8) _ 5 ?hg (N := 30) ?hd (xs := ([(wrap64 (48 + (wrap64 (Int.tdiv a0_3 600)))) % 256, (wrap64 (48 + (Int.tmod (wrap64 (Int.tdiv a0_3 60)) 10))) % 256, (wrap64 (48 + (wrap64 (Int.tdiv (Int.tmod a0_3 60) 10)))) % 256, (wrap64 (48 + (Int.tmod a0_3 10))) % 256] : List Int)) (inner := [.int .u8 ((wrap64 (48 + (wrap64 (Int.tdiv a0_3 600)))) % 256), .int .u8 ((wrap64 (48 + (Int.tmod (wrap64 (Int.tdiv a0_3 60)) 10))) % 256), .int .u8 ((wrap64 (48 + (wrap64 (Int.tdiv (Int.tmod a0_3 60) 10)))) % 256), .int .u8 ((wrap64 (48 + (Int.tmod a0_3 10))) % 256)]) (ok := fun _ => True) (okp := fun _ => True) ?hr ?hp (fun _ hk => hk) trivial (Below.refl _ _) (Nat.le_refl _) (by simp) ?_; (case hd => rfl); (case hg => rfl); (case hr => first | (go_simp; done) | (go_simp; rfl)); (case hp => exact (Reps.one (show Kd.M (Kd.int .u8) _ _ _ ((wrap64 (48 + (wrap64 (Int.tdiv a0_3 600)))) % 256) [.int .u8 ((wrap64 (48 + (wrap64 (Int.tdiv a0_3 600)))) % 256)] from rfl) (Reps.one (show Kd.M (Kd.int .u8) _ _ _ ((wrap64 (48 + (Int.tmod (wrap64 (Int.tdiv a0_3 60)) 10))) % 256) [.int .u8 ((wrap64 (48 + (Int.tmod (wrap64 (Int.tdiv a0_3 60)) 10))) % 256)] from rfl) (Reps.one (show Kd.M (Kd.int .u8) _ _ _ ((wrap64 (48 + (wrap64 (Int.tdiv (Int.tmod a0_3 60) 10)))) % 256) [.int .u8 ((wrap64 (48 + (wrap64 (Int.tdiv (Int.tmod a0_3 60) 10)))) % 256)] from rfl) (Reps.one (show Kd.M (Kd.int .u8) _ _ _ ((wrap64 (48 + (Int.tmod a0_3 10))) % 256) [.int .u8 ((wrap64 (48 + (Int.tmod a0_3 10))) % 256)] from rfl) (Reps.none _ _)))))); intro v113 w28 ho29 hb hg_ hnew_; clear hg_ hnew_; (first | rw [← Ny112.out] at ho29 | (simp only [Int.reduceToNat] at ho29; rw [← Ny112.out] at ho29)); have HO114 := Aside0.mk (Kd.R_lower ho29 (below_size (hs_))); replace BK107 := ab_ BK107 hb; replace HB := Aside0.mk (below_step (hs_) hb); clear hb ho29; have hcv30 := own_string (P := Tryz.prog) Tryz.underlying103 Tryz.underlying5 Tryz.underlying9 (Kd.own_of_R HO114.out)))
  replace HO114 := Aside0.mk (Kd.R_drew HO114.out); replace BK107 := Aside0.mk (blk_drew BK107.out); replace HB := Aside0.mk (below_drew1 HB.out); refine start_ (n := 17) (S := fun w' => w'.cell? ⟨gb107, 0, none⟩ = some (.string a0_0) ∧ w'.cell? ⟨gb107, 1, none⟩ = some (.string a0_1) ∧ w'.cell? ⟨gb107, 2, none⟩ = some (.int .i64 a0_2) ∧ w'.cell? ⟨gb107, 3, none⟩ = some (.int .i64 a0_3)) (ds := []) (bs 17 0) (by kernel_rfl) rfl rfl ⟨(blk_cell BK107.out 0).trans rfl, (blk_cell BK107.out 1).trans rfl, (blk_cell BK107.out 2).trans rfl, (blk_cell BK107.out 3).trans rfl⟩ (fun hHeld => ?_); refine with_tabW graftageref16_Who.tab5 graftageref16_Who.bits5 (fun HT_ HW_ => ?_); generalize w28.drew = w31 at HO114 BK107 HB hHeld ⊢; refine pu_ (i := 0) (N := some 32) (bs 17 1) rfl rfl ?_; refine pu_ (i := 3) (N := some 35) (bs 17 9) rfl rfl ?_; refine pu_ (i := 7) (N := some 39) (bs 17 137) rfl rfl ?_; refine pu_ (i := 12) (N := some 44) (bs 17 4233) rfl rfl ?_; refine pu_ (i := 14) (N := some 46) (bs 17 20617) rfl rfl ?_; refine tkW4_ (i := 1) (N := some 33) (bs 17 20619) rfl rfl hHeld ?_; refine pu_ (i := 2) (N := some 34) (bs 17 20623) rfl rfl ?_; refine tkW4_ (i := 4) (N := some 36) (bs 17 20639) rfl rfl hHeld ?_; refine pu_ (i := 5) (N := some 37) (bs 17 20671) rfl rfl ?_; refine pu_ (i := 6) (N := some 38) (bs 17 20735) rfl rfl ?_; refine tkW4_ (i := 8) (N := some 40) (bs 17 20991) rfl rfl hHeld ?_; refine one_ (i := 9) (N := some 41) (bs 17 21503) rfl rfl (one_of HT_.out (by kernel_rfl)) (by decide) (fun K hK => ?_); refine goes_ Tryz.func93 (by kernel_rfl) rfl #[.int .i64 a0_2] (by rfl) rfl rfl z5_ ?_
  with_reducible refine (graftageref16_Num.calls k a0_2 t115 _ A21.out).mono ?_
  rintro e w32 ⟨rfl, hb⟩; refine ⟨_, rfl, ?_⟩; replace HO114 := Aside0.mk (Kd.R_below (rk_ HO114.out) hb); replace BK107 := ab_ BK107 hb; replace HB := Aside0.mk (below_step (hs_) hb); (try clear hb)
  (try clear hb2)
  (try clear hk)
  (try clear hi)
  refine hK.out _ _ ⟨(blk_cell BK107.out 0).trans rfl, (blk_cell BK107.out 1).trans rfl, (blk_cell BK107.out 2).trans rfl, (blk_cell BK107.out 3).trans rfl⟩ (fun hHeld => ?_); clear hK K; refine norm_ (a' := ?_) ?_ ?_; rotate_left
  ·show Act.put _ (some 41) _ = _
   simp only [Act.put, List.setIfInBounds_toArray, List.set_cons_zero, List.set_cons_succ, i64_w, i32_w]; rfl
  refine pu_ (i := 10) (N := some 42) (bs 17 22527) rfl rfl ?_; refine pu_ (i := 11) (N := some 43) (bs 17 24575) rfl rfl ?_; refine pu_ (i := 13) (N := some 45) (bs 17 32767) rfl rfl ?_; refine pu_ (i := 15) (N := some 47) (bs 17 65535) rfl rfl ?_; refine pu_ (i := 16) (N := some 2) (bs 17 131071) rfl rfl ?_; refine done_ (done_of HT_.out (by kernel_rfl)) ?_; try go_wp2
  go_ret
  exact ⟨z3_, hs_⟩
 rw [if_pos c2] at H; have c2b0 := decide_eq_true c2; clear c2; obtain ⟨y108, hy108⟩ : ∃ y_ : List Int, y_ = (([(wrap64 (48 + (wrap64 (Int.tdiv (wrap64 (-a0_3)) 600)))) % 256, (wrap64 (48 + (Int.tmod (wrap64 (Int.tdiv (wrap64 (-a0_3)) 60)) 10))) % 256, (wrap64 (48 + (wrap64 (Int.tdiv (Int.tmod (wrap64 (-a0_3)) 60) 10)))) % 256, (wrap64 (48 + (Int.tmod (wrap64 (-a0_3)) 10))) % 256] : List Int)) := ⟨_, rfl⟩; replace H : (if a0_0.size + 2 ≤ 9223372036854775807 then (if (a0_0 ++ (⟨#[32, 60]⟩ : ByteArray)).size + a0_1.size ≤ 9223372036854775807 then (if ((a0_0 ++ (⟨#[32, 60]⟩ : ByteArray)) ++ a0_1).size + 2 ≤ 9223372036854775807 then ((graftageref16_Num.f k a0_2).bind fun t111 => (if (((a0_0 ++ (⟨#[32, 60]⟩ : ByteArray)) ++ a0_1) ++ (⟨#[62, 32]⟩ : ByteArray)).size + t111.size ≤ 9223372036854775807 then (if ((((a0_0 ++ (⟨#[32, 60]⟩ : ByteArray)) ++ a0_1) ++ (⟨#[62, 32]⟩ : ByteArray)) ++ t111).size + 1 ≤ 9223372036854775807 then (if (((((a0_0 ++ (⟨#[32, 60]⟩ : ByteArray)) ++ a0_1) ++ (⟨#[62, 32]⟩ : ByteArray)) ++ t111) ++ (⟨#[32]⟩ : ByteArray)).size + 1 ≤ 9223372036854775807 then (if ((((((a0_0 ++ (⟨#[32, 60]⟩ : ByteArray)) ++ a0_1) ++ (⟨#[62, 32]⟩ : ByteArray)) ++ t111) ++ (⟨#[32]⟩ : ByteArray)) ++ (⟨#[45]⟩ : ByteArray)).size + (strOfNums y108).size ≤ 9223372036854775807 then (some (((((((a0_0 ++ (⟨#[32, 60]⟩ : ByteArray)) ++ a0_1) ++ (⟨#[62, 32]⟩ : ByteArray)) ++ t111) ++ (⟨#[32]⟩ : ByteArray)) ++ (⟨#[45]⟩ : ByteArray)) ++ (strOfNums y108))) else (none)) else (none)) else (none)) else (none))) else (none)) else (none)) else (none)) = some r := by first | (rw [hy108]; with_reducible exact H) | (have H2_ := (Option.bind_some _ _).symm.trans H; rw [hy108]; with_reducible exact H2_) | (have H2_ := (Option.bind_some _ _).symm.trans H; with_reducible exact H2_) | with_reducible exact H | (rw [hy108]; exact H) | exact H
 have Ny108 := Aside0.mk hy108; clear hy108; by_cases c3 : a0_0.size + 2 ≤ 9223372036854775807; rotate_left
 ·rw [if_neg c3] at H; exact absurd H (by simp)
 rw [if_pos c3] at H; have c3b0 := eq_true c3; have c3b1 := decide_eq_true c3; try have c3b2 := nl_ c3
 by_cases c4 : (a0_0 ++ (⟨#[32, 60]⟩ : ByteArray)).size + a0_1.size ≤ 9223372036854775807; rotate_left
 ·rw [if_neg c4] at H; exact absurd H (by simp)
 rw [if_pos c4] at H; have c4b0 := eq_true c4; have c4b1 := decide_eq_true c4; try have c4b3 : (9223372036854775807 < a0_0.size + 2 + a0_1.size) = False := have h_ := c4; ns_
 try have c4b2 := nl_ c4
 by_cases c5 : ((a0_0 ++ (⟨#[32, 60]⟩ : ByteArray)) ++ a0_1).size + 2 ≤ 9223372036854775807; rotate_left
 ·rw [if_neg c5] at H; exact absurd H (by simp)
 rw [if_pos c5] at H; have c5b0 := eq_true c5; have c5b1 := decide_eq_true c5; try have c5b3 : (9223372036854775807 < a0_0.size + 2 + a0_1.size + 2) = False := have h_ := c5; ns_
 try have c5b2 := nl_ c5
 replace H := Option.bind_eq_some_iff.mp H; obtain ⟨t111, A60, H⟩ := H; have A6 := Aside0.mk A60; clear A60; by_cases c7 : (((a0_0 ++ (⟨#[32, 60]⟩ : ByteArray)) ++ a0_1) ++ (⟨#[62, 32]⟩ : ByteArray)).size + t111.size ≤ 9223372036854775807; rotate_left
 ·rw [if_neg c7] at H; exact absurd H (by simp)
 rw [if_pos c7] at H; have c7b0 := eq_true c7; have c7b1 := decide_eq_true c7; try have c7b3 : (9223372036854775807 < a0_0.size + 2 + a0_1.size + 2 + t111.size) = False := have h_ := c7; ns_
 try have c7b2 := nl_ c7
 by_cases c8 : ((((a0_0 ++ (⟨#[32, 60]⟩ : ByteArray)) ++ a0_1) ++ (⟨#[62, 32]⟩ : ByteArray)) ++ t111).size + 1 ≤ 9223372036854775807; rotate_left
 ·rw [if_neg c8] at H; exact absurd H (by simp)
 rw [if_pos c8] at H; have c8b0 := eq_true c8; have c8b1 := decide_eq_true c8; try have c8b3 : (9223372036854775807 < a0_0.size + 2 + a0_1.size + 2 + t111.size + 1) = False := have h_ := c8; ns_
 try have c8b2 := nl_ c8
 by_cases c9 : (((((a0_0 ++ (⟨#[32, 60]⟩ : ByteArray)) ++ a0_1) ++ (⟨#[62, 32]⟩ : ByteArray)) ++ t111) ++ (⟨#[32]⟩ : ByteArray)).size + 1 ≤ 9223372036854775807; rotate_left
 ·rw [if_neg c9] at H; exact absurd H (by simp)
 rw [if_pos c9] at H; have c9b0 := eq_true c9; have c9b1 := decide_eq_true c9; try have c9b3 : (9223372036854775807 < a0_0.size + 2 + a0_1.size + 2 + t111.size + 1 + 1) = False := have h_ := c9; ns_
 try have c9b2 := nl_ c9
 by_cases c10 : ((((((a0_0 ++ (⟨#[32, 60]⟩ : ByteArray)) ++ a0_1) ++ (⟨#[62, 32]⟩ : ByteArray)) ++ t111) ++ (⟨#[32]⟩ : ByteArray)) ++ (⟨#[45]⟩ : ByteArray)).size + (strOfNums y108).size ≤ 9223372036854775807; rotate_left
 ·rw [if_neg c10] at H; exact absurd H (by simp)
 rw [if_pos c10] at H; have c10b0 := eq_true c10; have c10b1 := decide_eq_true c10; try have c10b3 : (9223372036854775807 < a0_0.size + 2 + a0_1.size + 2 + t111.size + 1 + 1 + (strOfNums y108).size) = False := have h_ := c10; ns_
 try have c10b2 := nl_ c10
 obtain rfl := Option.some.inj H; go_enter Tryz.func33, Tryz.ntmps33; try go_wp2_with (first | ((with_reducible refine gate_dst (N := 1) rfl ?_); refine be_ (cs := #[.string a0_0, .string a0_1, .int .i64 a0_2, .int .i64 a0_3]) (t := 24) ?_; intro gb107 hg w11 hbox hb; have BK107 := Aside0.mk (hbox); have GW107 := ag_ hg HB; have GE107 := ag_ hg HB; replace HB := ah_ HB hb; clear hb hbox hg)); replace BK107 := Aside0.mk (blk_drew BK107.out); replace HB := Aside0.mk (below_drew1 HB.out); refine start_ (n := 4) (S := fun w' => w'.cell? ⟨gb107, 0, none⟩ = some (.string a0_0) ∧ w'.cell? ⟨gb107, 1, none⟩ = some (.string a0_1) ∧ w'.cell? ⟨gb107, 2, none⟩ = some (.int .i64 a0_2) ∧ w'.cell? ⟨gb107, 3, none⟩ = some (.int .i64 a0_3)) (ds := []) (bs 4 0) (by kernel_rfl) rfl rfl ⟨(blk_cell BK107.out 0).trans rfl, (blk_cell BK107.out 1).trans rfl, (blk_cell BK107.out 2).trans rfl, (blk_cell BK107.out 3).trans rfl⟩ (fun hHeld => ?_); generalize w11.drew = w12 at BK107 HB hHeld ⊢; refine pk_ (i := 0) (N := some 6) (bs 4 1) rfl rfl ?_; refine pk_ (i := 2) (N := some 3) (bs 4 5) rfl rfl ?_; refine tkK4_ (i := 1) (N := some 7) (bs 4 7) rfl rfl hHeld ?_; refine pk_ (i := 3) (N := some 4) (bs 4 15) rfl rfl ?_; refine done_ (by kernel_rfl) ?_; try go_wp2_with (first | ((with_reducible refine gate_dst (N := 30) rfl ?_); refine Kd.R_lit (Kd.int .u8) _ 5 ?hg (N := 30) ?hd (xs := ([(wrap64 (48 + (wrap64 (Int.tdiv (wrap64 (-a0_3)) 600)))) % 256, (wrap64 (48 + (Int.tmod (wrap64 (Int.tdiv (wrap64 (-a0_3)) 60)) 10))) % 256, (wrap64 (48 + (wrap64 (Int.tdiv (Int.tmod (wrap64 (-a0_3)) 60) 10)))) % 256, (wrap64 (48 + (Int.tmod (wrap64 (-a0_3)) 10))) % 256] : List Int)) (inner := [.int .u8 ((wrap64 (48 + (wrap64 (Int.tdiv (wrap64 (-a0_3)) 600)))) % 256), .int .u8 ((wrap64 (48 + (Int.tmod (wrap64 (Int.tdiv (wrap64 (-a0_3)) 60)) 10))) % 256), .int .u8 ((wrap64 (48 + (wrap64 (Int.tdiv (Int.tmod (wrap64 (-a0_3)) 60) 10)))) % 256), .int .u8 ((wrap64 (48 + (Int.tmod (wrap64 (-a0_3)) 10))) % 256)]) (ok := fun _ => True) (okp := fun _ => True) ?hr ?hp (fun _ hk => hk) trivial (Below.refl _ _) (Nat.le_refl _) (by simp) ?_; (case hd => rfl); (case hg => rfl); (case hr => first | (go_simp; done) | (go_simp; rfl)); (case hp => exact (Reps.one (show Kd.M (Kd.int .u8) _ _ _ ((wrap64 (48 + (wrap64 (Int.tdiv (wrap64 (-a0_3)) 600)))) % 256) [.int .u8 ((wrap64 (48 + (wrap64 (Int.tdiv (wrap64 (-a0_3)) 600)))) % 256)] from rfl) (Reps.one (show Kd.M (Kd.int .u8) _ _ _ ((wrap64 (48 + (Int.tmod (wrap64 (Int.tdiv (wrap64 (-a0_3)) 60)) 10))) % 256) [.int .u8 ((wrap64 (48 + (Int.tmod (wrap64 (Int.tdiv (wrap64 (-a0_3)) 60)) 10))) % 256)] from rfl) (Reps.one (show Kd.M (Kd.int .u8) _ _ _ ((wrap64 (48 + (wrap64 (Int.tdiv (Int.tmod (wrap64 (-a0_3)) 60) 10)))) % 256) [.int .u8 ((wrap64 (48 + (wrap64 (Int.tdiv (Int.tmod (wrap64 (-a0_3)) 60) 10)))) % 256)] from rfl) (Reps.one (show Kd.M (Kd.int .u8) _ _ _ ((wrap64 (48 + (Int.tmod (wrap64 (-a0_3)) 10))) % 256) [.int .u8 ((wrap64 (48 + (Int.tmod (wrap64 (-a0_3)) 10))) % 256)] from rfl) (Reps.none _ _)))))); intro v109 w13 ho14 hb hg_ hnew_; clear hg_ hnew_; (first | rw [← Ny108.out] at ho14 | (simp only [Int.reduceToNat] at ho14; rw [← Ny108.out] at ho14)); have HO110 := Aside0.mk (Kd.R_lower ho14 (below_size (hs_))); replace BK107 := ab_ BK107 hb; replace HB := Aside0.mk (below_step (hs_) hb); clear hb ho14; have hcv15 := own_string (P := Tryz.prog) Tryz.underlying103 Tryz.underlying5 Tryz.underlying9 (Kd.own_of_R HO110.out)))
 replace HO110 := Aside0.mk (Kd.R_drew HO110.out); replace BK107 := Aside0.mk (blk_drew BK107.out); replace HB := Aside0.mk (below_drew1 HB.out); refine start_ (n := 17) (S := fun w' => w'.cell? ⟨gb107, 0, none⟩ = some (.string a0_0) ∧ w'.cell? ⟨gb107, 1, none⟩ = some (.string a0_1) ∧ w'.cell? ⟨gb107, 2, none⟩ = some (.int .i64 a0_2) ∧ w'.cell? ⟨gb107, 3, none⟩ = some (.int .i64 a0_3)) (ds := []) (bs 17 0) (by kernel_rfl) rfl rfl ⟨(blk_cell BK107.out 0).trans rfl, (blk_cell BK107.out 1).trans rfl, (blk_cell BK107.out 2).trans rfl, (blk_cell BK107.out 3).trans rfl⟩ (fun hHeld => ?_); refine with_tabW graftageref16_Who.tab5 graftageref16_Who.bits5 (fun HT_ HW_ => ?_); generalize w13.drew = w16 at HO110 BK107 HB hHeld ⊢; refine pu_ (i := 0) (N := some 32) (bs 17 1) rfl rfl ?_; refine pu_ (i := 3) (N := some 35) (bs 17 9) rfl rfl ?_; refine pu_ (i := 7) (N := some 39) (bs 17 137) rfl rfl ?_; refine pu_ (i := 12) (N := some 44) (bs 17 4233) rfl rfl ?_; refine pu_ (i := 14) (N := some 46) (bs 17 20617) rfl rfl ?_; refine tkW4_ (i := 1) (N := some 33) (bs 17 20619) rfl rfl hHeld ?_; refine pu_ (i := 2) (N := some 34) (bs 17 20623) rfl rfl ?_; refine tkW4_ (i := 4) (N := some 36) (bs 17 20639) rfl rfl hHeld ?_; refine pu_ (i := 5) (N := some 37) (bs 17 20671) rfl rfl ?_; refine pu_ (i := 6) (N := some 38) (bs 17 20735) rfl rfl ?_; refine tkW4_ (i := 8) (N := some 40) (bs 17 20991) rfl rfl hHeld ?_; refine one_ (i := 9) (N := some 41) (bs 17 21503) rfl rfl (one_of HT_.out (by kernel_rfl)) (by decide) (fun K hK => ?_); refine goes_ Tryz.func93 (by kernel_rfl) rfl #[.int .i64 a0_2] (by rfl) rfl rfl z5_ ?_
 with_reducible refine (graftageref16_Num.calls k a0_2 t111 _ A6.out).mono ?_
 rintro e w17 ⟨rfl, hb⟩; refine ⟨_, rfl, ?_⟩; replace HO110 := Aside0.mk (Kd.R_below (rk_ HO110.out) hb); replace BK107 := ab_ BK107 hb; replace HB := Aside0.mk (below_step (hs_) hb); (try clear hb)
 (try clear hb2)
 (try clear hk)
 (try clear hi)
 refine hK.out _ _ ⟨(blk_cell BK107.out 0).trans rfl, (blk_cell BK107.out 1).trans rfl, (blk_cell BK107.out 2).trans rfl, (blk_cell BK107.out 3).trans rfl⟩ (fun hHeld => ?_); clear hK K; refine norm_ (a' := ?_) ?_ ?_; rotate_left
 ·show Act.put _ (some 41) _ = _
  simp only [Act.put, List.setIfInBounds_toArray, List.set_cons_zero, List.set_cons_succ, i64_w, i32_w]; rfl
 refine pu_ (i := 10) (N := some 42) (bs 17 22527) rfl rfl ?_; refine pu_ (i := 11) (N := some 43) (bs 17 24575) rfl rfl ?_; refine pu_ (i := 13) (N := some 45) (bs 17 32767) rfl rfl ?_; refine pu_ (i := 15) (N := some 47) (bs 17 65535) rfl rfl ?_; refine pu_ (i := 16) (N := some 2) (bs 17 131071) rfl rfl ?_; refine done_ (done_of HT_.out (by kernel_rfl)) ?_; try go_wp2
 go_ret
 exact ⟨z3_, hs_⟩


def graftageref16_Body.l0 : Nat → ByteArray → Int → ByteArray → List ByteArray → ByteArray → ByteArray → Int → Int → ByteArray → ByteArray → Int → Int → ByteArray → Option (ByteArray × Int)
 | 0, _, _, _, _, _, _, _, _, _, _, _, _, _ => none
 | k + 1, x5, x6, x102000, x102001, x102002, x102003, x102004, x102005, x102006, x102007, x102008, x102009, x102010 => if x6 < (x102001.length : Int) then (if x5.size + 7 ≤ 9223372036854775807 then (if 0 ≤ x6 then (if (x5 ++ (⟨#[112, 97, 114, 101, 110, 116, 32]⟩ : ByteArray)).size + (rdOf ByteArray.empty x102001 x6).size ≤ 9223372036854775807 then (if ((x5 ++ (⟨#[112, 97, 114, 101, 110, 116, 32]⟩ : ByteArray)) ++ (rdOf ByteArray.empty x102001 x6)).size + 1 ≤ 9223372036854775807 then (graftageref16_Body.l0 k (((x5 ++ (⟨#[112, 97, 114, 101, 110, 116, 32]⟩ : ByteArray)) ++ (rdOf ByteArray.empty x102001 x6)) ++ (⟨#[10]⟩ : ByteArray)) (wrap64 (x6 + 1)) x102000 x102001 x102002 x102003 x102004 x102005 x102006 x102007 x102008 x102009 x102010) else (none)) else (none)) else (none)) else (none)) else (if x5.size + 7 ≤ 9223372036854775807 then ((graftageref16_Who.f k x102002 x102003 x102004 x102005).bind fun t104 => (if (x5 ++ (⟨#[97, 117, 116, 104, 111, 114, 32]⟩ : ByteArray)).size + t104.size ≤ 9223372036854775807 then (if ((x5 ++ (⟨#[97, 117, 116, 104, 111, 114, 32]⟩ : ByteArray)) ++ t104).size + 11 ≤ 9223372036854775807 then ((graftageref16_Who.f k x102006 x102007 x102008 x102009).bind fun t105 => (if (((x5 ++ (⟨#[97, 117, 116, 104, 111, 114, 32]⟩ : ByteArray)) ++ t104) ++ (⟨#[10, 99, 111, 109, 109, 105, 116, 116, 101, 114, 32]⟩ : ByteArray)).size + t105.size ≤ 9223372036854775807 then (if ((((x5 ++ (⟨#[97, 117, 116, 104, 111, 114, 32]⟩ : ByteArray)) ++ t104) ++ (⟨#[10, 99, 111, 109, 109, 105, 116, 116, 101, 114, 32]⟩ : ByteArray)) ++ t105).size + 2 ≤ 9223372036854775807 then (if (((((x5 ++ (⟨#[97, 117, 116, 104, 111, 114, 32]⟩ : ByteArray)) ++ t104) ++ (⟨#[10, 99, 111, 109, 109, 105, 116, 116, 101, 114, 32]⟩ : ByteArray)) ++ t105) ++ (⟨#[10, 10]⟩ : ByteArray)).size + x102010.size ≤ 9223372036854775807 then (some ((((((x5 ++ (⟨#[97, 117, 116, 104, 111, 114, 32]⟩ : ByteArray)) ++ t104) ++ (⟨#[10, 99, 111, 109, 109, 105, 116, 116, 101, 114, 32]⟩ : ByteArray)) ++ t105) ++ (⟨#[10, 10]⟩ : ByteArray)) ++ x102010, 0)) else (none)) else (none)) else (none))) else (none)) else (none))) else (none))
def graftageref16_Body.f (k : Nat) (a0_0 : ByteArray) (l0_1 : List ByteArray) (a0_2 : ByteArray) (a0_3 : ByteArray) (a0_4 : Int) (a0_5 : Int) (a0_6 : ByteArray) (a0_7 : ByteArray) (a0_8 : Int) (a0_9 : Int) (a0_10 : ByteArray) : Option (ByteArray × Int) := (graftageref16_Check.f k a0_0 l0_1 a0_2 a0_3 a0_4 a0_5 a0_6 a0_7 a0_8 a0_9 a0_10).bind fun t102 => (if t102 = 0 then (if 5 + a0_0.size ≤ 9223372036854775807 then (if ((⟨#[116, 114, 101, 101, 32]⟩ : ByteArray) ++ a0_0).size + 1 ≤ 9223372036854775807 then (graftageref16_Body.l0 k (((⟨#[116, 114, 101, 101, 32]⟩ : ByteArray) ++ a0_0) ++ (⟨#[10]⟩ : ByteArray)) 0 a0_0 l0_1 a0_2 a0_3 a0_4 a0_5 a0_6 a0_7 a0_8 a0_9 a0_10) else (none)) else (none)) else (some ((⟨#[]⟩ : ByteArray), t102)))
def graftageref16_Body.T9 : Bool × List (List Nat × List Nat) := (true, [([], []), ([0], [0]), ([], []), ([2], [2]), ([3], [3]), ([1, 4], [1, 4]), ([5], [5]), ([], []), ([7], [7]), ([8, 4], [8]), ([6, 9], [6, 9]), ([10], [10]), ([], []), ([12], [12]), ([11, 13], [11, 13]), ([14, 9, 0, 1, 2, 3, 4, 5, 6, 7, 8, 9, 10, 11, 12, 13, 14], [14]), ([15, 0, 1, 2, 3, 4, 5, 6, 7, 8, 9, 10, 11, 12, 13, 14, 15], [])])
def graftageref16_Body.B9 : List Nat := [0, 1, 0, 4, 12, 31, 63, 0, 128, 412, 1023, 2047, 0, 4096, 16383, 32767, 65535]
theorem graftageref16_Body.tab9 : rtab .any (opsOf Tryz.f17 9) = graftageref16_Body.T9 := by kernel_rfl
theorem graftageref16_Body.bits9 : waitsOk graftageref16_Body.T9.2 graftageref16_Body.B9 = true := by kernel_rfl
set_option maxHeartbeats 8000000 in
set_option maxRecDepth 100000 in
theorem graftageref16_Body.calls (k : Nat) (a0_0 : ByteArray) (A0_1 : Option Addr) (c0_1 : Nat) (l0_1 : List ByteArray) (a0_2 : ByteArray) (a0_3 : ByteArray) (a0_4 : Int) (a0_5 : Int) (a0_6 : ByteArray) (a0_7 : ByteArray) (a0_8 : Int) (a0_9 : Int) (a0_10 : ByteArray) (r1 : ByteArray) (r2 : Int) (w : World) (hr0_1 : Kd.C Kd.string w A0_1 l0_1.length l0_1) (hc0_1 : l0_1.length ≤ c0_1) (h : graftageref16_Body.f k a0_0 l0_1 a0_2 a0_3 a0_4 a0_5 a0_6 a0_7 a0_8 a0_9 a0_10 = some (r1, r2)) :
  Calls Tryz.prog 17 #[.agg #[.string a0_0, .slice A0_1 l0_1.length c0_1, .string a0_2, .string a0_3, .int .i64 a0_4, .int .i64 a0_5, .string a0_6, .string a0_7, .int .i64 a0_8, .int .i64 a0_9, .string a0_10]] w fun e w' => e = .returned (.tuple #[.string r1, .int .i64 r2]) ∧ Below w.heap.size w w' := by
 have hu26 := Tryz.underlying26; have hu24 := Tryz.underlying24; have HR0_1 := Aside0.mk hr0_1; have HC0_1 := Aside0.mk hc0_1; clear hr0_1 hc0_1; have HB := Aside0.mk (Below.refl w.heap.size w); unfold graftageref16_Body.f at h; have H := h; clear h; replace H := Option.bind_eq_some_iff.mp H; obtain ⟨t102, A20, H⟩ := H; have A2 := Aside0.mk A20; clear A20; by_cases c3 : t102 = 0; rotate_left
 ·rw [if_neg c3] at H; have c3b0 := beq_eq_false_iff_ne.mpr c3; have c3b1 := bne_iff_ne.mpr c3; simp only [Option.some.injEq, Prod.mk.injEq] at H; obtain ⟨rfl, rfl⟩ := H; go_enter Tryz.func17, Tryz.ntmps17; go_wp2_with (first | ((with_reducible refine gate_dst (N := 1) rfl ?_); refine be_ (cs := #[.string a0_0, .slice A0_1 l0_1.length c0_1, .string a0_2, .string a0_3, .int .i64 a0_4, .int .i64 a0_5, .string a0_6, .string a0_7, .int .i64 a0_8, .int .i64 a0_9, .string a0_10]) (t := 26) ?_; intro gb101 hg w28 hbox hb; have BK101 := Aside0.mk (hbox); have GW101 := ag_ hg HB; have GE101 := ag_ hg HB; replace HB := ah_ HB hb; clear hb hbox hg; obtain ⟨Z29_0, Z29_1, Z29_2, Z29_3, Z29_4, Z29_5, Z29_6, Z29_7, Z29_8, Z29_9, Z29_10, F29_0, F29_1, F29_2, F29_3, F29_4, F29_5, F29_6, F29_7, F29_8, F29_9, F29_10⟩ := bc11 BK101.out) | ((with_reducible refine gate_callee (f := 19) rfl ?_); refine gl_ (some 8) Tryz.func19 #[.agg #[.string a0_0, .slice A0_1 l0_1.length c0_1, .string a0_2, .string a0_3, .int .i64 a0_4, .int .i64 a0_5, .string a0_6, .string a0_7, .int .i64 a0_8, .int .i64 a0_9, .string a0_10]] ?_; (with_reducible refine (graftageref16_Check.calls k a0_0 _ _ l0_1 a0_2 a0_3 a0_4 a0_5 a0_6 a0_7 a0_8 a0_9 a0_10 t102 _ ?side1 ?side2 A2.out).mono ?_); (case side1 => repeat (first | exact (Kd.C_below HR0_1.out HB.out) | (with_reducible refine Kd.C_alloc ?_ _) | (with_reducible refine Kd.C_drewN ?_ _) | (with_reducible refine Kd.C_drew ?_))); (case side2 => exact HC0_1.out); rintro e w30 ⟨rfl, hb⟩; refine ⟨_, rfl, ?_⟩; replace BK101 := ab_ BK101 hb; replace HB := Aside0.mk (below_step (hs_) hb); (try clear hb); (try clear hb2); (try clear hk); (try clear hi)))
  go_ret2
  exact ⟨z3_, hs_⟩
 rw [if_pos c3] at H; have c3b0 := beq_iff_eq.mpr c3; have c3b1 := bne_eq_false_iff_eq.mpr c3; clear c3; by_cases c4 : 5 + a0_0.size ≤ 9223372036854775807; rotate_left
 ·rw [if_neg c4] at H; exact absurd H (by simp)
 rw [if_pos c4] at H; have c4b0 := eq_true c4; have c4b1 := decide_eq_true c4; try have c4b2 := nl_ c4
 by_cases c5 : ((⟨#[116, 114, 101, 101, 32]⟩ : ByteArray) ++ a0_0).size + 1 ≤ 9223372036854775807; rotate_left
 ·rw [if_neg c5] at H; exact absurd H (by simp)
 rw [if_pos c5] at H; have c5b0 := eq_true c5; have c5b1 := decide_eq_true c5; try have c5b3 : (9223372036854775807 < 5 + a0_0.size + 1) = False := have h_ := c5; ns_
 try have c5b2 := nl_ c5
 have H' := Aside0.mk H; clear H; go_enter Tryz.func17, Tryz.ntmps17; go_wp2_with (first | ((with_reducible refine gate_dst (N := 1) rfl ?_); refine be_ (cs := #[.string a0_0, .slice A0_1 l0_1.length c0_1, .string a0_2, .string a0_3, .int .i64 a0_4, .int .i64 a0_5, .string a0_6, .string a0_7, .int .i64 a0_8, .int .i64 a0_9, .string a0_10]) (t := 26) ?_; intro gb101 hg w6 hbox hb; have BK101 := Aside0.mk (hbox); have GW101 := ag_ hg HB; have GE101 := ag_ hg HB; replace HB := ah_ HB hb; clear hb hbox hg; obtain ⟨Z7_0, Z7_1, Z7_2, Z7_3, Z7_4, Z7_5, Z7_6, Z7_7, Z7_8, Z7_9, Z7_10, F7_0, F7_1, F7_2, F7_3, F7_4, F7_5, F7_6, F7_7, F7_8, F7_9, F7_10⟩ := bc11 BK101.out) | ((with_reducible refine gate_callee (f := 19) rfl ?_); refine gl_ (some 8) Tryz.func19 #[.agg #[.string a0_0, .slice A0_1 l0_1.length c0_1, .string a0_2, .string a0_3, .int .i64 a0_4, .int .i64 a0_5, .string a0_6, .string a0_7, .int .i64 a0_8, .int .i64 a0_9, .string a0_10]] ?_; (with_reducible refine (graftageref16_Check.calls k a0_0 _ _ l0_1 a0_2 a0_3 a0_4 a0_5 a0_6 a0_7 a0_8 a0_9 a0_10 t102 _ ?side1 ?side2 A2.out).mono ?_); (case side1 => repeat (first | exact (Kd.C_below HR0_1.out HB.out) | (with_reducible refine Kd.C_alloc ?_ _) | (with_reducible refine Kd.C_drewN ?_ _) | (with_reducible refine Kd.C_drew ?_))); (case side2 => exact HC0_1.out); rintro e w8 ⟨rfl, hb⟩; refine ⟨_, rfl, ?_⟩; replace BK101 := ab_ BK101 hb; replace HB := Aside0.mk (below_step (hs_) hb); (try clear hb); (try clear hb2); (try clear hk); (try clear hi); obtain ⟨Z9_0, Z9_1, Z9_2, Z9_3, Z9_4, Z9_5, Z9_6, Z9_7, Z9_8, Z9_9, Z9_10, F9_0, F9_1, F9_2, F9_3, F9_4, F9_5, F9_6, F9_7, F9_8, F9_9, F9_10⟩ := bc11 BK101.out)); go_loopg [5, 6] k (fun kq v5 v6 w' => ∃ (x5_1 : ByteArray) (x6_1 : Int), v5 = .string x5_1 ∧ v6 = .int .i64 x6_1 ∧ Aside0 (graftageref16_Body.l0 kq x5_1 x6_1 a0_0 l0_1 a0_2 a0_3 a0_4 a0_5 a0_6 a0_7 a0_8 a0_9 a0_10 = some (r1, r2)) ∧ Aside0 (kq ≤ k) ∧ Aside0 (w'.heap[gb101]? = some (.cells #[.string a0_0, (.slice A0_1 l0_1.length c0_1), .string a0_2, .string a0_3, .int .i64 a0_4, .int .i64 a0_5, .string a0_6, .string a0_7, .int .i64 a0_8, .int .i64 a0_9, .string a0_10] 26 (0, 0))) ∧ Aside0 (Below w.heap.size w w'))
 case atStart => exact ⟨(((⟨#[116, 114, 101, 101, 32]⟩ : ByteArray) ++ a0_0) ++ (⟨#[10]⟩ : ByteArray)), (0), z1_, z1_, H', ⟨Nat.le_refl _⟩, ⟨bk_ BK101.out⟩, ⟨hs_⟩⟩
 case round =>
  clear H'; try clear c1
  try clear p2
  try clear c3
  try clear c3b0
  try clear c3b1
  try clear c4
  try clear c4b0
  try clear c4b1
  try clear c4b2
  try clear c5
  try clear c5b0
  try clear c5b1
  try clear c5b2
  try clear Z7_0 Z7_1 Z7_10 Z7_2 Z7_3 Z7_4 Z7_5 Z7_6 Z7_7 Z7_8 Z7_9
  try clear Z9_0 Z9_1 Z9_10 Z9_2 Z9_3 Z9_4 Z9_5 Z9_6 Z9_7 Z9_8 Z9_9
  try clear F7_0 F7_1 F7_10 F7_2 F7_3 F7_4 F7_5 F7_6 F7_7 F7_8 F7_9
  try clear F9_0 F9_1 F9_10 F9_2 F9_3 F9_4 F9_5 F9_6 F9_7 F9_8 F9_9
  obtain ⟨x5_1, x6_1, rfl, rfl, HA, HK1, BK101, HB⟩ := hrel
  cases gk with
  | zero => exact absurd HA.out (by simp [graftageref16_Body.l0])
  | succ k1 =>
   have H := HA.out; clear HA; simp only [graftageref16_Body.l0] at H; by_cases c10 : x6_1 < (l0_1.length : Int)
   ·rw [if_pos c10] at H; have c10b0 := decide_eq_true c10; clear c10; by_cases c11 : x5_1.size + 7 ≤ 9223372036854775807; rotate_left
    ·rw [if_neg c11] at H; exact absurd H (by simp)
    rw [if_pos c11] at H; have c11b0 := eq_true c11; have c11b1 := decide_eq_true c11; try have c11b2 := nl_ c11
    by_cases c12 : 0 ≤ x6_1; rotate_left
    ·rw [if_neg c12] at H; exact absurd H (by simp)
    rw [if_pos c12] at H; have c12b0 := decide_eq_true c12; clear c12; by_cases c13 : (x5_1 ++ (⟨#[112, 97, 114, 101, 110, 116, 32]⟩ : ByteArray)).size + (rdOf ByteArray.empty l0_1 x6_1).size ≤ 9223372036854775807; rotate_left
    ·rw [if_neg c13] at H; exact absurd H (by simp)
    rw [if_pos c13] at H; have c13b0 := eq_true c13; have c13b1 := decide_eq_true c13; try have c13b3 : (9223372036854775807 < x5_1.size + 7 + (rdOf ByteArray.empty l0_1 x6_1).size) = False := have h_ := c13; ns_
    try have c13b2 := nl_ c13
    by_cases c14 : ((x5_1 ++ (⟨#[112, 97, 114, 101, 110, 116, 32]⟩ : ByteArray)) ++ (rdOf ByteArray.empty l0_1 x6_1)).size + 1 ≤ 9223372036854775807; rotate_left
    ·rw [if_neg c14] at H; exact absurd H (by simp)
    rw [if_pos c14] at H; have c14b0 := eq_true c14; have c14b1 := decide_eq_true c14; try have c14b3 : (9223372036854775807 < x5_1.size + 7 + (rdOf ByteArray.empty l0_1 x6_1).size + 1) = False := have h_ := c14; ns_
    try have c14b2 := nl_ c14
    have H' := Aside0.mk H; clear H; obtain ⟨Z15_0, Z15_1, Z15_2, Z15_3, Z15_4, Z15_5, Z15_6, Z15_7, Z15_8, Z15_9, Z15_10, F15_0, F15_1, F15_2, F15_3, F15_4, F15_5, F15_6, F15_7, F15_8, F15_9, F15_10⟩ := bc11 BK101.out; have p103 : 0 ≤ (x6_1 : Int) := of_decide_eq_true z0_; have q103 : x6_1 < (l0_1.length : Int) := of_decide_eq_true z0_; obtain ⟨ad103, e103, hx103_0⟩ := Kd.at_string HR0_1.out x6_1 p103 q103
    cases e103
    replace hx103_0 := (HB.out.cell (World.block_lt_of_cell? w _ hx103_0)).trans hx103_0; replace p103 := eq_true p103; replace q103 := eq_true q103; go_wp2
    go_roundg k1
    case measure => have := HK1.out; omega
    case rel => exact ⟨(((x5_1 ++ (⟨#[112, 97, 114, 101, 110, 116, 32]⟩ : ByteArray)) ++ (rdOf ByteArray.empty l0_1 x6_1)) ++ (⟨#[10]⟩ : ByteArray)), (wrap64 (x6_1 + 1)), z1_, z1_, H', ⟨by have := HK1.out; omega⟩, ⟨bk_ BK101.out⟩, ⟨hs_⟩⟩
   rw [if_neg c10] at H; have c10b0 := decide_eq_false c10; clear c10; by_cases c16 : x5_1.size + 7 ≤ 9223372036854775807; rotate_left
   ·rw [if_neg c16] at H; exact absurd H (by simp)
   rw [if_pos c16] at H; have c16b0 := eq_true c16; have c16b1 := decide_eq_true c16; try have c16b2 := nl_ c16
   replace H := Option.bind_eq_some_iff.mp H; obtain ⟨t104, A170, H⟩ := H; have A17 := Aside0.mk A170; clear A170; by_cases c18 : (x5_1 ++ (⟨#[97, 117, 116, 104, 111, 114, 32]⟩ : ByteArray)).size + t104.size ≤ 9223372036854775807; rotate_left
   ·rw [if_neg c18] at H; exact absurd H (by simp)
   rw [if_pos c18] at H; have c18b0 := eq_true c18; have c18b1 := decide_eq_true c18; try have c18b3 : (9223372036854775807 < x5_1.size + 7 + t104.size) = False := have h_ := c18; ns_
   try have c18b2 := nl_ c18
   by_cases c19 : ((x5_1 ++ (⟨#[97, 117, 116, 104, 111, 114, 32]⟩ : ByteArray)) ++ t104).size + 11 ≤ 9223372036854775807; rotate_left
   ·rw [if_neg c19] at H; exact absurd H (by simp)
   rw [if_pos c19] at H; have c19b0 := eq_true c19; have c19b1 := decide_eq_true c19; try have c19b3 : (9223372036854775807 < x5_1.size + 7 + t104.size + 11) = False := have h_ := c19; ns_
   try have c19b2 := nl_ c19
   replace H := Option.bind_eq_some_iff.mp H; obtain ⟨t105, A200, H⟩ := H; have A20 := Aside0.mk A200; clear A200; by_cases c21 : (((x5_1 ++ (⟨#[97, 117, 116, 104, 111, 114, 32]⟩ : ByteArray)) ++ t104) ++ (⟨#[10, 99, 111, 109, 109, 105, 116, 116, 101, 114, 32]⟩ : ByteArray)).size + t105.size ≤ 9223372036854775807; rotate_left
   ·rw [if_neg c21] at H; exact absurd H (by simp)
   rw [if_pos c21] at H; have c21b0 := eq_true c21; have c21b1 := decide_eq_true c21; try have c21b3 : (9223372036854775807 < x5_1.size + 7 + t104.size + 11 + t105.size) = False := have h_ := c21; ns_
   try have c21b2 := nl_ c21
   by_cases c22 : ((((x5_1 ++ (⟨#[97, 117, 116, 104, 111, 114, 32]⟩ : ByteArray)) ++ t104) ++ (⟨#[10, 99, 111, 109, 109, 105, 116, 116, 101, 114, 32]⟩ : ByteArray)) ++ t105).size + 2 ≤ 9223372036854775807; rotate_left
   ·rw [if_neg c22] at H; exact absurd H (by simp)
   rw [if_pos c22] at H; have c22b0 := eq_true c22; have c22b1 := decide_eq_true c22; try have c22b3 : (9223372036854775807 < x5_1.size + 7 + t104.size + 11 + t105.size + 2) = False := have h_ := c22; ns_
   try have c22b2 := nl_ c22
   by_cases c23 : (((((x5_1 ++ (⟨#[97, 117, 116, 104, 111, 114, 32]⟩ : ByteArray)) ++ t104) ++ (⟨#[10, 99, 111, 109, 109, 105, 116, 116, 101, 114, 32]⟩ : ByteArray)) ++ t105) ++ (⟨#[10, 10]⟩ : ByteArray)).size + a0_10.size ≤ 9223372036854775807; rotate_left
   ·rw [if_neg c23] at H; exact absurd H (by simp)
   rw [if_pos c23] at H; have c23b0 := eq_true c23; have c23b1 := decide_eq_true c23; try have c23b3 : (9223372036854775807 < x5_1.size + 7 + t104.size + 11 + t105.size + 2 + a0_10.size) = False := have h_ := c23; ns_
   try have c23b2 := nl_ c23
   simp only [Option.some.injEq, Prod.mk.injEq] at H; obtain ⟨rfl, rfl⟩ := H; obtain ⟨Z24_0, Z24_1, Z24_2, Z24_3, Z24_4, Z24_5, Z24_6, Z24_7, Z24_8, Z24_9, Z24_10, F24_0, F24_1, F24_2, F24_3, F24_4, F24_5, F24_6, F24_7, F24_8, F24_9, F24_10⟩ := bc11 BK101.out; try go_wp2
   replace BK101 := Aside0.mk (blk_drew BK101.out); replace HB := Aside0.mk (below_drew1 HB.out); refine start_ (n := 17) (S := fun w' => w'.cell? ⟨gb101, 0, none⟩ = some (.string a0_0) ∧ w'.cell? ⟨gb101, 1, none⟩ = some (.slice A0_1 l0_1.length c0_1) ∧ w'.cell? ⟨gb101, 2, none⟩ = some (.string a0_2) ∧ w'.cell? ⟨gb101, 3, none⟩ = some (.string a0_3) ∧ w'.cell? ⟨gb101, 4, none⟩ = some (.int .i64 a0_4) ∧ w'.cell? ⟨gb101, 5, none⟩ = some (.int .i64 a0_5) ∧ w'.cell? ⟨gb101, 6, none⟩ = some (.string a0_6) ∧ w'.cell? ⟨gb101, 7, none⟩ = some (.string a0_7) ∧ w'.cell? ⟨gb101, 8, none⟩ = some (.int .i64 a0_8) ∧ w'.cell? ⟨gb101, 9, none⟩ = some (.int .i64 a0_9) ∧ w'.cell? ⟨gb101, 10, none⟩ = some (.string a0_10)) (ds := []) (bs 17 0) (by kernel_rfl) rfl rfl ⟨(blk_cell BK101.out 0).trans rfl, (blk_cell BK101.out 1).trans rfl, (blk_cell BK101.out 2).trans rfl, (blk_cell BK101.out 3).trans rfl, (blk_cell BK101.out 4).trans rfl, (blk_cell BK101.out 5).trans rfl, (blk_cell BK101.out 6).trans rfl, (blk_cell BK101.out 7).trans rfl, (blk_cell BK101.out 8).trans rfl, (blk_cell BK101.out 9).trans rfl, (blk_cell BK101.out 10).trans rfl⟩ (fun hHeld => ?_); refine with_tabW graftageref16_Body.tab9 graftageref16_Body.bits9 (fun HT_ HW_ => ?_); generalize wr.drew = w25 at BK101 HB hHeld ⊢; refine pu_ (i := 0) (N := some 32) (bs 17 1) rfl rfl ?_; refine pu_ (i := 1) (N := some 33) (bs 17 3) rfl rfl ?_; refine pu_ (i := 2) (N := some 34) (bs 17 7) rfl rfl ?_; refine pu_ (i := 7) (N := some 39) (bs 17 135) rfl rfl ?_; refine pu_ (i := 12) (N := some 44) (bs 17 4231) rfl rfl ?_; refine tkW11_ (i := 3) (N := some 35) (bs 17 4239) rfl rfl hHeld ?_; refine tkW11_ (i := 8) (N := some 40) (bs 17 4495) rfl rfl hHeld ?_; refine tkW11_ (i := 13) (N := some 45) (bs 17 12687) rfl rfl hHeld ?_; refine one_ (i := 4) (N := some 36) (bs 17 12703) rfl rfl (one_of HT_.out (by kernel_rfl)) (by decide) (fun K hK => ?_); refine goes_ Tryz.func33 (by kernel_rfl) rfl #[.agg #[.string a0_2, .string a0_3, .int .i64 a0_4, .int .i64 a0_5]] (by rfl) rfl rfl z5_ ?_
   with_reducible refine (graftageref16_Who.calls k1 a0_2 a0_3 a0_4 a0_5 t104 _ A17.out).mono ?_
   rintro e w26 ⟨rfl, hb⟩; refine ⟨_, rfl, ?_⟩; replace BK101 := ab_ BK101 hb; replace HB := Aside0.mk (below_step (hs_) hb); (try clear hb)
   (try clear hb2)
   (try clear hk)
   (try clear hi)
   refine hK.out _ _ ⟨(blk_cell BK101.out 0).trans rfl, (blk_cell BK101.out 1).trans rfl, (blk_cell BK101.out 2).trans rfl, (blk_cell BK101.out 3).trans rfl, (blk_cell BK101.out 4).trans rfl, (blk_cell BK101.out 5).trans rfl, (blk_cell BK101.out 6).trans rfl, (blk_cell BK101.out 7).trans rfl, (blk_cell BK101.out 8).trans rfl, (blk_cell BK101.out 9).trans rfl, (blk_cell BK101.out 10).trans rfl⟩ (fun hHeld => ?_); clear hK K; refine norm_ (a' := ?_) ?_ ?_; rotate_left
   ·show Act.put _ (some 36) _ = _
    simp only [Act.put, List.setIfInBounds_toArray, List.set_cons_zero, List.set_cons_succ, i64_w, i32_w]; rfl
   refine pu_ (i := 5) (N := some 37) (bs 17 12735) rfl rfl ?_; refine pu_ (i := 6) (N := some 38) (bs 17 12799) rfl rfl ?_; refine one_ (i := 9) (N := some 41) (bs 17 13311) rfl rfl (one_of HT_.out (by kernel_rfl)) (by decide) (fun K hK => ?_); refine goes_ Tryz.func33 (by kernel_rfl) rfl #[.agg #[.string a0_6, .string a0_7, .int .i64 a0_8, .int .i64 a0_9]] (by rfl) rfl rfl z5_ ?_
   with_reducible refine (graftageref16_Who.calls k1 a0_6 a0_7 a0_8 a0_9 t105 _ A20.out).mono ?_
   rintro e w27 ⟨rfl, hb⟩; refine ⟨_, rfl, ?_⟩; replace BK101 := ab_ BK101 hb; replace HB := Aside0.mk (below_step (hs_) hb); (try clear hb)
   (try clear hb2)
   (try clear hk)
   (try clear hi)
   refine hK.out _ _ ⟨(blk_cell BK101.out 0).trans rfl, (blk_cell BK101.out 1).trans rfl, (blk_cell BK101.out 2).trans rfl, (blk_cell BK101.out 3).trans rfl, (blk_cell BK101.out 4).trans rfl, (blk_cell BK101.out 5).trans rfl, (blk_cell BK101.out 6).trans rfl, (blk_cell BK101.out 7).trans rfl, (blk_cell BK101.out 8).trans rfl, (blk_cell BK101.out 9).trans rfl, (blk_cell BK101.out 10).trans rfl⟩ (fun hHeld => ?_); clear hK K; refine norm_ (a' := ?_) ?_ ?_; rotate_left
   ·show Act.put _ (some 41) _ = _
    simp only [Act.put, List.setIfInBounds_toArray, List.set_cons_zero, List.set_cons_succ, i64_w, i32_w]; rfl
   refine pu_ (i := 10) (N := some 42) (bs 17 14335) rfl rfl ?_; refine pu_ (i := 11) (N := some 43) (bs 17 16383) rfl rfl ?_; refine pu_ (i := 14) (N := some 46) (bs 17 32767) rfl rfl ?_; refine pu_ (i := 15) (N := some 2) (bs 17 65535) rfl rfl ?_; refine pu_ (i := 16) (N := some 3) (bs 17 131071) rfl rfl ?_; refine done_ (done_of HT_.out (by kernel_rfl)) ?_; try go_wp2
   go_ret2
   exact ⟨z3_, hs_⟩

end Go.Proofs.YtbhfbbfjdklfgaaGreatDoor.Q


/- A call of a function value, as one step of a walk. -/
namespace Go.Proofs.YtbhfbbfjdklfgaaGreatDoor.Q
open Go.RowKit Go.Proofs.YtbhfbbfjdklfgaaGreatDoorW.PrintWords Go.Proofs.YtbhfbbfjdklfgaaGreatDoorW.PrintLast Go.Proofs.YtbhfbbfjdklfgaaGreatDoorW.PrintMore
variable {P : Program} {ops : Array Oper} {Q : Exit → Act → World → Prop}
theorem goesF_ {rest : List Oper} {oi : Oper} {a : Act} {w : World} (N : Option Tmp) (hd : oi.dst = N) (hg : oi.guard = none) {t : Tmp} {g : Nat} {lb : Array Value} {os : Array Operand} {ts : Array TypeId}
    (eg : ∀ args w, (callFunc g args).run P w = .ok (.enter g args) w) (args : Array Value)
    (hop : oi.op = .call { callee := .value (.tmp t), args := os, argTypes := ts }) (hf : a.eval (.tmp t) = .func (.func g) #[] lb) (hargs : os.map a.eval = args) (all : Array Value) (hall : args ++ lb = all)
    (h : Calls P g all w fun e w' => ∃ v, e = .returned v ∧ wpList P ops Q rest (a.put N v) w') : wpList P ops Q (oi :: rest) a w := by
  refine wpList_plain hg fun K hK => ?_
  have hrun : (execOp a.eval oi).run P w = .ok (.enter g all) w := by
    unfold execOp
    simp [hop, resolve, Deferred.ofValue, invoke, hf, hargs, eg, hall]
  unfold Oper.wp
  rw [hrun, Oper.upon_enter]
  refine h.mono fun e w'' hh => ?_
  obtain ⟨v, rfl, hk⟩ := hh
  subst hd
  exact hK _ _ hk
theorem goesT_ {oi : Oper} {N : Option Tmp} {a : Act} {w : World} {K : Act → World → Prop} {f : FuncId} {fn : Func} {t : Tmp} {os : Array Operand} {ts : Array TypeId} (hf : P.funcs[f]? = some fn) (hname : (fn.name == "runtime.NumGoroutine") = false) (hb : fn.body.isSome = true) (args : Array Value)
    (hw : Region.wanted oi (yielded ops a.tmps) = true) (hN : oi.dst = N) (hop : oi.op = .call { callee := .value (.tmp t), args := os, argTypes := ts }) (hfv : a.eval (.tmp t) = .func (.func f) #[] #[]) (hargs : os.map a.eval = args)
    (h : Calls P f args w fun e w' => ∃ v, e = .returned v ∧ K (a.put N v) w') : if Region.wanted oi (yielded ops a.tmps) = true then Oper.wp P oi a w K Q else K (a.put N undef) w := by
  refine call_ f args hw hN ?_ h
  have he := enters_ hf hname hb args w
  unfold execOp
  simp [hop, resolve, Deferred.ofValue, invoke, hfv, hargs, he]
end Go.Proofs.YtbhfbbfjdklfgaaGreatDoor.Q


namespace Go.Proofs.YtbhfbbfjdklfgaaGreatDoor.Q
open Go.RowKit Go.Proofs.YtbhfbbfjdklfgaaGreatDoorW.PrintWords Go.Proofs.YtbhfbbfjdklfgaaGreatDoorW.PrintLast Go.Proofs.YtbhfbbfjdklfgaaGreatDoorW.PrintMore
attribute [local go_sem] max2_int min2_int max_two min_two max_three min_three max_four min_four   -- for this text's walks alone

def commit_Who_1.f (a0 : Int) : Option (ByteArray) := (strconv_Itoa.f (Int.tmod (wrap64 (Int.tdiv a0 10)) 10)).bind fun t125 => ((strconv_Itoa.f (Int.tmod a0 10)).bind fun t126 => (if t125.size + t126.size ≤ 9223372036854775807 then (some (t125 ++ t126)) else (none)))
set_option maxHeartbeats 8000000 in
set_option maxRecDepth 100000 in
theorem commit_Who_1.calls (a0 : Int) (r : ByteArray) (w : World) (hgv : GV w) (h : commit_Who_1.f a0 = some r) :
  Calls Tryz.prog 90 #[.int .i64 a0] w fun e w' => e = .returned (.string r) ∧ Below w.heap.size w w' := by
 have HB := Aside0.mk (Below.refl w.heap.size w); unfold commit_Who_1.f at h; have H := h; clear h; replace H := Option.bind_eq_some_iff.mp H; obtain ⟨t125, A20, H⟩ := H; have A2 := Aside0.mk A20; clear A20; replace H := Option.bind_eq_some_iff.mp H; obtain ⟨t126, A30, H⟩ := H; have A3 := Aside0.mk A30; clear A30; by_cases c4 : t125.size + t126.size ≤ 9223372036854775807; rotate_left
 ·rw [if_neg c4] at H; exact absurd H (by simp)
 rw [if_pos c4] at H; have c4b0 := eq_true c4; have c4b1 := decide_eq_true c4; try have c4b2 := nl_ c4
 obtain rfl := Option.some.inj H; go_enter Tryz.func90, Tryz.ntmps90; have tk7_ : True := trivial; have tk8_ : True := trivial; go_wp2_with (first | (have _t := tk7_; (with_reducible refine gate_callee (f := 91) rfl ?_); refine gl_ (some 6) Tryz.func91 #[.int .i64 (Int.tmod (wrap64 (Int.tdiv a0 10)) 10)] ?_; (with_reducible refine (strconv_Itoa.calls (Int.tmod (wrap64 (Int.tdiv a0 10)) 10) t125 _ ?side1 A2.out).mono ?_); (case side1 => exact GV.below hgv (hb_ HB.out)); rintro e w5 ⟨rfl, hb⟩; refine ⟨_, rfl, ?_⟩; replace HB := ah_ HB hb; (try clear hb); (try clear hb2); (try clear hk); (try clear hi); clear tk7_) | (have _t := tk8_; (with_reducible refine gate_callee (f := 91) rfl ?_); refine gl_ (some 9) Tryz.func91 #[.int .i64 (Int.tmod a0 10)] ?_; (with_reducible refine (strconv_Itoa.calls (Int.tmod a0 10) t126 _ ?side1 A3.out).mono ?_); (case side1 => exact GV.below hgv (hb_ HB.out)); rintro e w6 ⟨rfl, hb⟩; refine ⟨_, rfl, ?_⟩; replace HB := ah_ HB hb; (try clear hb); (try clear hb2); (try clear hk); (try clear hi); clear tk8_)); go_ret
 exact ⟨z3_, hb_ HB.out⟩

end Go.Proofs.YtbhfbbfjdklfgaaGreatDoor.Q


