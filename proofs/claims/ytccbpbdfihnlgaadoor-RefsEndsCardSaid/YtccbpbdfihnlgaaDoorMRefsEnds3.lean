/- The law RefsEnds holds: for every input it returns true, and each argument reads afterwards as it read before. -/
import Derived.Test.YtccbpbdfihnlgaaDoorMYRefsEnds1
import Derived.Test.YtccbpbdfihnlgaaDoorMRefsEnds1
import Derived.Test.YtccbpbdfihnlgaaDoorMRefsEnds2
import Derived.Laws.Cover1
import Derived.WalkKit
import Derived.Lib.AppendZerosOnto
import Derived.Lib.Overlaps
import Derived.Lib.SliceRun
import Derived.Maps.AppendAt
import Derived.Deep.AppendSrc
import Derived.Laws.CopyRow
import Derived.Laws.MakeOwn
import Derived.Lib.AppendStr
import Derived.Lib.IndexAny
import Derived.Lib.IndexMore
set_option linter.unusedVariables false
set_option linter.unusedSimpArgs false
/- Contracts of Go functions as calls of plain Lean functions, written by a program of this session over the kit's print. -/
namespace Go.Proofs.YtccbpbdfihnlgaaDoor.Q
open Go.RowKit Go.Proofs.YtccbpbdfihnlgaaDoorW.PrintWords Go.Proofs.YtccbpbdfihnlgaaDoorW.PrintLast Go.Proofs.YtccbpbdfihnlgaaDoorW.PrintMore
attribute [local go_sem] max2_int min2_int max_two min_two max_three min_three max_four min_four   -- for this text's walks alone

/-! ### graftagelaw37_lives: function 33 -/
def graftagelaw37_lives.f (k : Nat)  : Option (Bool) := (graftagelaw37_id.f k 49).bind fun t101 => ((some (([(⟨(⟨#[72, 69, 65, 68]⟩ : ByteArray), (⟨#[]⟩ : ByteArray), (⟨#[114, 101, 102, 115, 47, 104, 101, 97, 100, 115, 47, 109, 97, 105, 110]⟩ : ByteArray)⟩ : S55), (⟨(⟨#[114, 101, 102, 115, 47, 104, 101, 97, 100, 115, 47, 109, 97, 105, 110]⟩ : ByteArray), t101, (⟨#[]⟩ : ByteArray)⟩ : S55)] : List (S55)) : List (S55))).bind fun y102 => ((refs_Resolve.f k y102 (⟨#[72, 69, 65, 68]⟩ : ByteArray)).bind fun bt105 => ((refs_Text.f k y102).bind fun bt108 => ((refs_Parse.f k bt108.1).bind fun bt110 => ((refs_Check.f k y102).bind fun t114 => (if t114 = 0 then (if bt105.1.toList = ([114, 101, 102, 115, 47, 104, 101, 97, 100, 115, 47, 109, 97, 105, 110] : List UInt8) then ((graftagelaw37_id.f k 49).bind fun t115 => (if bt105.2.1.toList = t115.toList then (if bt105.2.2 = 0 then (if bt108.2 = 0 then (if bt110.2 = 0 then ((graftageref37_Same.f k y102 bt110.1).bind fun t116 => (if t116 = true then ((refs_Name.f k (⟨#[114, 101, 102, 115, 47, 104, 101, 97, 100, 115, 47, 97, 46, 46, 98]⟩ : ByteArray)).bind fun t117 => (if t117 = true then (some false) else ((refs_Name.f k (⟨#[114, 101, 102, 115, 47, 97]⟩ : ByteArray)).bind fun t118 => (some t118)))) else (some false))) else (some false)) else (some false)) else (some false)) else (some false))) else (some false)) else (some false)))))))
theorem graftagelaw37_lives.mono : ∀ k, LeO (graftagelaw37_lives.f k ) (graftagelaw37_lives.f (k + 1) ) := by
 intro  k
 unfold graftagelaw37_lives.f
 repeat' first
   | (with_reducible exact graftagelaw37_id.mono _ _)
   | (with_reducible exact graftageref37_Same.mono _ _ _)
   | (with_reducible exact refs_Check.mono _ _)
   | (with_reducible exact refs_Name.mono _ _)
   | (with_reducible exact refs_Parse.mono _ _)
   | (with_reducible exact refs_Resolve.mono _ _ _)
   | (with_reducible exact refs_Text.mono _ _)
   | (with_reducible exact LeO.refl _)
   | (with_reducible exact LeO.none _)
   | (with_reducible refine LeO.ite ?_ ?_)
   | (with_reducible refine LeO.bind ?_ (fun _ => ?_))
   | exact graftagelaw37_id.mono _ _
   | exact graftageref37_Same.mono _ _ _
   | exact refs_Check.mono _ _
   | exact refs_Name.mono _ _
   | exact refs_Parse.mono _ _
   | exact refs_Resolve.mono _ _ _
   | exact refs_Text.mono _ _
   | exact LeO.none _
   | refine LeO.ite ?_ ?_
   | refine LeO.bind ?_ (fun _ => ?_)
set_option maxHeartbeats 8000000 in
set_option maxRecDepth 100000 in
theorem graftagelaw37_lives.calls (k : Nat)  (r : Bool) (w : World) (hgv : GV w) (h : graftagelaw37_lives.f k  = some r) :
  Calls Tryd.prog 33 #[] w fun e w' => e = .returned (.bool r) ∧ Below w.heap.size w w' := by
 have hu55 := Tryd.underlying55
 have HB := Aside0.mk (Below.refl w.heap.size w)
 have H : ((graftagelaw37_id.f k 49).bind fun t101 => ((some (([(⟨(⟨#[72, 69, 65, 68]⟩ : ByteArray), (⟨#[]⟩ : ByteArray), (⟨#[114, 101, 102, 115, 47, 104, 101, 97, 100, 115, 47, 109, 97, 105, 110]⟩ : ByteArray)⟩ : S55), (⟨(⟨#[114, 101, 102, 115, 47, 104, 101, 97, 100, 115, 47, 109, 97, 105, 110]⟩ : ByteArray), t101, (⟨#[]⟩ : ByteArray)⟩ : S55)] : List (S55)) : List (S55))).bind fun y102 => ((refs_Resolve.f k y102 (⟨#[72, 69, 65, 68]⟩ : ByteArray)).bind fun bt105 => ((refs_Text.f k y102).bind fun bt108 => ((refs_Parse.f k bt108.1).bind fun bt110 => ((refs_Check.f k y102).bind fun t114 => (if t114 = 0 then (if bt105.1.toList = ([114, 101, 102, 115, 47, 104, 101, 97, 100, 115, 47, 109, 97, 105, 110] : List UInt8) then ((graftagelaw37_id.f k 49).bind fun t115 => (if bt105.2.1.toList = t115.toList then (if bt105.2.2 = 0 then (if bt108.2 = 0 then (if bt110.2 = 0 then ((graftageref37_Same.f k y102 bt110.1).bind fun t116 => (if t116 = true then ((refs_Name.f k (⟨#[114, 101, 102, 115, 47, 104, 101, 97, 100, 115, 47, 97, 46, 46, 98]⟩ : ByteArray)).bind fun t117 => (if t117 = true then (some false) else ((refs_Name.f k (⟨#[114, 101, 102, 115, 47, 97]⟩ : ByteArray)).bind fun t118 => (some t118)))) else (some false))) else (some false)) else (some false)) else (some false)) else (some false))) else (some false)) else (some false)))))))) = some r := h
 clear h
 replace H := Option.bind_eq_some_iff.mp H
 obtain ⟨t101, A10, H⟩ := H
 replace H : ((some (([(⟨(⟨#[72, 69, 65, 68]⟩ : ByteArray), (⟨#[]⟩ : ByteArray), (⟨#[114, 101, 102, 115, 47, 104, 101, 97, 100, 115, 47, 109, 97, 105, 110]⟩ : ByteArray)⟩ : S55), (⟨(⟨#[114, 101, 102, 115, 47, 104, 101, 97, 100, 115, 47, 109, 97, 105, 110]⟩ : ByteArray), t101, (⟨#[]⟩ : ByteArray)⟩ : S55)] : List (S55)) : List (S55))).bind fun y102 => ((refs_Resolve.f k y102 (⟨#[72, 69, 65, 68]⟩ : ByteArray)).bind fun bt105 => ((refs_Text.f k y102).bind fun bt108 => ((refs_Parse.f k bt108.1).bind fun bt110 => ((refs_Check.f k y102).bind fun t114 => (if t114 = 0 then (if bt105.1.toList = ([114, 101, 102, 115, 47, 104, 101, 97, 100, 115, 47, 109, 97, 105, 110] : List UInt8) then ((graftagelaw37_id.f k 49).bind fun t115 => (if bt105.2.1.toList = t115.toList then (if bt105.2.2 = 0 then (if bt108.2 = 0 then (if bt110.2 = 0 then ((graftageref37_Same.f k y102 bt110.1).bind fun t116 => (if t116 = true then ((refs_Name.f k (⟨#[114, 101, 102, 115, 47, 104, 101, 97, 100, 115, 47, 97, 46, 46, 98]⟩ : ByteArray)).bind fun t117 => (if t117 = true then (some false) else ((refs_Name.f k (⟨#[114, 101, 102, 115, 47, 97]⟩ : ByteArray)).bind fun t118 => (some t118)))) else (some false))) else (some false)) else (some false)) else (some false)) else (some false))) else (some false)) else (some false))))))) = some r := H
 have A1 := Aside0.mk A10
 clear A10
 obtain ⟨y102, hy102⟩ : ∃ y_ : List (S55), y_ = (([(⟨(⟨#[72, 69, 65, 68]⟩ : ByteArray), (⟨#[]⟩ : ByteArray), (⟨#[114, 101, 102, 115, 47, 104, 101, 97, 100, 115, 47, 109, 97, 105, 110]⟩ : ByteArray)⟩ : S55), (⟨(⟨#[114, 101, 102, 115, 47, 104, 101, 97, 100, 115, 47, 109, 97, 105, 110]⟩ : ByteArray), t101, (⟨#[]⟩ : ByteArray)⟩ : S55)] : List (S55))) := ⟨_, rfl⟩
 replace H : ((refs_Resolve.f k y102 (⟨#[72, 69, 65, 68]⟩ : ByteArray)).bind fun bt105 => ((refs_Text.f k y102).bind fun bt108 => ((refs_Parse.f k bt108.1).bind fun bt110 => ((refs_Check.f k y102).bind fun t114 => (if t114 = 0 then (if bt105.1.toList = ([114, 101, 102, 115, 47, 104, 101, 97, 100, 115, 47, 109, 97, 105, 110] : List UInt8) then ((graftagelaw37_id.f k 49).bind fun t115 => (if bt105.2.1.toList = t115.toList then (if bt105.2.2 = 0 then (if bt108.2 = 0 then (if bt110.2 = 0 then ((graftageref37_Same.f k y102 bt110.1).bind fun t116 => (if t116 = true then ((refs_Name.f k (⟨#[114, 101, 102, 115, 47, 104, 101, 97, 100, 115, 47, 97, 46, 46, 98]⟩ : ByteArray)).bind fun t117 => (if t117 = true then (some false) else ((refs_Name.f k (⟨#[114, 101, 102, 115, 47, 97]⟩ : ByteArray)).bind fun t118 => (some t118)))) else (some false))) else (some false)) else (some false)) else (some false)) else (some false))) else (some false)) else (some false)))))) = some r := by first | (rw [hy102]; with_reducible exact H) | (have H2_ := (Option.bind_some _ _).symm.trans H; rw [hy102]; with_reducible exact H2_) | (have H2_ := (Option.bind_some _ _).symm.trans H; with_reducible exact H2_) | with_reducible exact H | (rw [hy102]; exact H) | exact H
 have Ny102 := Aside0.mk hy102
 clear hy102
 replace H := Option.bind_eq_some_iff.mp H
 obtain ⟨⟨t105, t106, t107⟩, A20, H⟩ := H
 replace H : ((refs_Text.f k y102).bind fun bt108 => ((refs_Parse.f k bt108.1).bind fun bt110 => ((refs_Check.f k y102).bind fun t114 => (if t114 = 0 then (if t105.toList = ([114, 101, 102, 115, 47, 104, 101, 97, 100, 115, 47, 109, 97, 105, 110] : List UInt8) then ((graftagelaw37_id.f k 49).bind fun t115 => (if t106.toList = t115.toList then (if t107 = 0 then (if bt108.2 = 0 then (if bt110.2 = 0 then ((graftageref37_Same.f k y102 bt110.1).bind fun t116 => (if t116 = true then ((refs_Name.f k (⟨#[114, 101, 102, 115, 47, 104, 101, 97, 100, 115, 47, 97, 46, 46, 98]⟩ : ByteArray)).bind fun t117 => (if t117 = true then (some false) else ((refs_Name.f k (⟨#[114, 101, 102, 115, 47, 97]⟩ : ByteArray)).bind fun t118 => (some t118)))) else (some false))) else (some false)) else (some false)) else (some false)) else (some false))) else (some false)) else (some false))))) = some r := H
 have A2 := Aside0.mk A20
 clear A20
 replace H := Option.bind_eq_some_iff.mp H
 obtain ⟨⟨t108, t109⟩, A30, H⟩ := H
 replace H : ((refs_Parse.f k t108).bind fun bt110 => ((refs_Check.f k y102).bind fun t114 => (if t114 = 0 then (if t105.toList = ([114, 101, 102, 115, 47, 104, 101, 97, 100, 115, 47, 109, 97, 105, 110] : List UInt8) then ((graftagelaw37_id.f k 49).bind fun t115 => (if t106.toList = t115.toList then (if t107 = 0 then (if t109 = 0 then (if bt110.2 = 0 then ((graftageref37_Same.f k y102 bt110.1).bind fun t116 => (if t116 = true then ((refs_Name.f k (⟨#[114, 101, 102, 115, 47, 104, 101, 97, 100, 115, 47, 97, 46, 46, 98]⟩ : ByteArray)).bind fun t117 => (if t117 = true then (some false) else ((refs_Name.f k (⟨#[114, 101, 102, 115, 47, 97]⟩ : ByteArray)).bind fun t118 => (some t118)))) else (some false))) else (some false)) else (some false)) else (some false)) else (some false))) else (some false)) else (some false)))) = some r := H
 have A3 := Aside0.mk A30
 clear A30
 replace H := Option.bind_eq_some_iff.mp H
 obtain ⟨⟨t110, t111⟩, A40, H⟩ := H
 replace H : ((refs_Check.f k y102).bind fun t114 => (if t114 = 0 then (if t105.toList = ([114, 101, 102, 115, 47, 104, 101, 97, 100, 115, 47, 109, 97, 105, 110] : List UInt8) then ((graftagelaw37_id.f k 49).bind fun t115 => (if t106.toList = t115.toList then (if t107 = 0 then (if t109 = 0 then (if t111 = 0 then ((graftageref37_Same.f k y102 t110).bind fun t116 => (if t116 = true then ((refs_Name.f k (⟨#[114, 101, 102, 115, 47, 104, 101, 97, 100, 115, 47, 97, 46, 46, 98]⟩ : ByteArray)).bind fun t117 => (if t117 = true then (some false) else ((refs_Name.f k (⟨#[114, 101, 102, 115, 47, 97]⟩ : ByteArray)).bind fun t118 => (some t118)))) else (some false))) else (some false)) else (some false)) else (some false)) else (some false))) else (some false)) else (some false))) = some r := H
 have A4 := Aside0.mk A40
 clear A40
 replace H := Option.bind_eq_some_iff.mp H
 obtain ⟨t114, A50, H⟩ := H
 replace H : (if t114 = 0 then (if t105.toList = ([114, 101, 102, 115, 47, 104, 101, 97, 100, 115, 47, 109, 97, 105, 110] : List UInt8) then ((graftagelaw37_id.f k 49).bind fun t115 => (if t106.toList = t115.toList then (if t107 = 0 then (if t109 = 0 then (if t111 = 0 then ((graftageref37_Same.f k y102 t110).bind fun t116 => (if t116 = true then ((refs_Name.f k (⟨#[114, 101, 102, 115, 47, 104, 101, 97, 100, 115, 47, 97, 46, 46, 98]⟩ : ByteArray)).bind fun t117 => (if t117 = true then (some false) else ((refs_Name.f k (⟨#[114, 101, 102, 115, 47, 97]⟩ : ByteArray)).bind fun t118 => (some t118)))) else (some false))) else (some false)) else (some false)) else (some false)) else (some false))) else (some false)) else (some false)) = some r := H
 have A5 := Aside0.mk A50
 clear A50
 by_cases c6 : t114 = 0
 ·rw [if_pos c6] at H
  have c6b0 : (t114 == 0) = true := beq_iff_eq.mpr c6
  have c6b1 : (t114 != 0) = false := bne_eq_false_iff_eq.mpr c6
  clear c6
  by_cases c7 : t105.toList = ([114, 101, 102, 115, 47, 104, 101, 97, 100, 115, 47, 109, 97, 105, 110] : List UInt8)
  ·rw [if_pos c7] at H
   have c7b0 : (t105.toList == ([114, 101, 102, 115, 47, 104, 101, 97, 100, 115, 47, 109, 97, 105, 110] : List UInt8)) = true := beq_iff_eq.mpr c7
   have c7b1 : (t105.toList != ([114, 101, 102, 115, 47, 104, 101, 97, 100, 115, 47, 109, 97, 105, 110] : List UInt8)) = false := bne_eq_false_iff_eq.mpr c7
   clear c7
   replace H := Option.bind_eq_some_iff.mp H
   obtain ⟨t115, A80, H⟩ := H
   replace H : (if t106.toList = t115.toList then (if t107 = 0 then (if t109 = 0 then (if t111 = 0 then ((graftageref37_Same.f k y102 t110).bind fun t116 => (if t116 = true then ((refs_Name.f k (⟨#[114, 101, 102, 115, 47, 104, 101, 97, 100, 115, 47, 97, 46, 46, 98]⟩ : ByteArray)).bind fun t117 => (if t117 = true then (some false) else ((refs_Name.f k (⟨#[114, 101, 102, 115, 47, 97]⟩ : ByteArray)).bind fun t118 => (some t118)))) else (some false))) else (some false)) else (some false)) else (some false)) else (some false)) = some r := H
   have A8 := Aside0.mk A80
   clear A80
   by_cases c9 : t106.toList = t115.toList
   ·rw [if_pos c9] at H
    have c9b0 : (t106.toList == t115.toList) = true := beq_iff_eq.mpr c9
    have c9b1 : (t106.toList != t115.toList) = false := bne_eq_false_iff_eq.mpr c9
    clear c9
    by_cases c10 : t107 = 0
    ·rw [if_pos c10] at H
     have c10b0 : (t107 == 0) = true := beq_iff_eq.mpr c10
     have c10b1 : (t107 != 0) = false := bne_eq_false_iff_eq.mpr c10
     clear c10
     by_cases c11 : t109 = 0
     ·rw [if_pos c11] at H
      have c11b0 : (t109 == 0) = true := beq_iff_eq.mpr c11
      have c11b1 : (t109 != 0) = false := bne_eq_false_iff_eq.mpr c11
      clear c11
      by_cases c12 : t111 = 0
      ·rw [if_pos c12] at H
       have c12b0 : (t111 == 0) = true := beq_iff_eq.mpr c12
       have c12b1 : (t111 != 0) = false := bne_eq_false_iff_eq.mpr c12
       clear c12
       replace H := Option.bind_eq_some_iff.mp H
       obtain ⟨t116, A130, H⟩ := H
       replace H : (if t116 = true then ((refs_Name.f k (⟨#[114, 101, 102, 115, 47, 104, 101, 97, 100, 115, 47, 97, 46, 46, 98]⟩ : ByteArray)).bind fun t117 => (if t117 = true then (some false) else ((refs_Name.f k (⟨#[114, 101, 102, 115, 47, 97]⟩ : ByteArray)).bind fun t118 => (some t118)))) else (some false)) = some r := H
       have A13 := Aside0.mk A130
       clear A130
       by_cases c14 : t116 = true
       ·subst c14
        have H1 : ((refs_Name.f k (⟨#[114, 101, 102, 115, 47, 104, 101, 97, 100, 115, 47, 97, 46, 46, 98]⟩ : ByteArray)).bind fun t117 => (if t117 = true then (some false) else ((refs_Name.f k (⟨#[114, 101, 102, 115, 47, 97]⟩ : ByteArray)).bind fun t118 => (some t118)))) = some r := by rw [if_pos rfl] at H; exact H
        clear H
        have H := H1
        clear H1
        replace H := Option.bind_eq_some_iff.mp H
        obtain ⟨t117, A150, H⟩ := H
        replace H : (if t117 = true then (some false) else ((refs_Name.f k (⟨#[114, 101, 102, 115, 47, 97]⟩ : ByteArray)).bind fun t118 => (some t118))) = some r := H
        have A15 := Aside0.mk A150
        clear A150
        by_cases c16 : t117 = true
        ·subst c16
         have H1 : (some false) = some r := by rw [if_pos rfl] at H; exact H
         clear H
         have H := H1
         clear H1
         obtain rfl := Option.some.inj H
         go_enter Tryd.func33, Tryd.ntmps33
         have tk1_ : True := trivial
         have tk2_ : True := trivial
         go_wp2_with (first | (have _t := tk1_; (with_reducible refine gate_callee (f := 71) rfl ?_); refine goesL_ (some 10) rfl rfl Tryd.func71 (by kernel_rfl) rfl #[.int .u8 49] rfl (by (try simp only [List.map_toArray, List.map_cons, List.map_nil]); first | done | rfl | (simp only [List.length_drop, List.length_take]; rfl)) ?_; (with_reducible refine (graftagelaw37_id.calls k 49 t101 _ A1.out).mono ?_); rintro e w17 ⟨rfl, hb⟩; refine ⟨_, rfl, ?_⟩; have n0_ := Aside0.mk (below_step (hb_ HB.out) hb); clear HB; have HB := n0_; clear n0_; (try clear hb); (try clear hb2); (try clear hk); (try clear hi); clear tk1_) | ((with_reducible refine gate_dst (N := 12) rfl ?_); refine Kd.R_lit k55 _ 55 ?hg (N := 12) ?hd (xs := ([(⟨(⟨#[72, 69, 65, 68]⟩ : ByteArray), (⟨#[]⟩ : ByteArray), (⟨#[114, 101, 102, 115, 47, 104, 101, 97, 100, 115, 47, 109, 97, 105, 110]⟩ : ByteArray)⟩ : S55), (⟨(⟨#[114, 101, 102, 115, 47, 104, 101, 97, 100, 115, 47, 109, 97, 105, 110]⟩ : ByteArray), t101, (⟨#[]⟩ : ByteArray)⟩ : S55)] : List (S55))) (inner := [.string (⟨#[72, 69, 65, 68]⟩ : ByteArray), .string (⟨#[]⟩ : ByteArray), .string (⟨#[114, 101, 102, 115, 47, 104, 101, 97, 100, 115, 47, 109, 97, 105, 110]⟩ : ByteArray), .string (⟨#[114, 101, 102, 115, 47, 104, 101, 97, 100, 115, 47, 109, 97, 105, 110]⟩ : ByteArray), .string t101, .string (⟨#[]⟩ : ByteArray)]) (ok := fun _ => True) (okp := fun _ => True) ?hr ?hp (fun _ hk => hk) trivial (Below.refl _ _) (Nat.le_refl _) (by simp) ?_; (case hd => rfl); (case hg => rfl); (case hr => first | (go_simp; done) | (go_simp; rfl)); (case hp => exact (Reps.c3 (show Kd.M k55 _ _ _ (⟨(⟨#[72, 69, 65, 68]⟩ : ByteArray), (⟨#[]⟩ : ByteArray), (⟨#[114, 101, 102, 115, 47, 104, 101, 97, 100, 115, 47, 109, 97, 105, 110]⟩ : ByteArray)⟩ : S55) [.string (⟨#[72, 69, 65, 68]⟩ : ByteArray), .string (⟨#[]⟩ : ByteArray), .string (⟨#[114, 101, 102, 115, 47, 104, 101, 97, 100, 115, 47, 109, 97, 105, 110]⟩ : ByteArray)] from (k55_mkM _ _ _ (⟨(⟨#[72, 69, 65, 68]⟩ : ByteArray), (⟨#[]⟩ : ByteArray), (⟨#[114, 101, 102, 115, 47, 104, 101, 97, 100, 115, 47, 109, 97, 105, 110]⟩ : ByteArray)⟩ : S55) )) (Reps.c3 (show Kd.M k55 _ _ _ (⟨(⟨#[114, 101, 102, 115, 47, 104, 101, 97, 100, 115, 47, 109, 97, 105, 110]⟩ : ByteArray), t101, (⟨#[]⟩ : ByteArray)⟩ : S55) [.string (⟨#[114, 101, 102, 115, 47, 104, 101, 97, 100, 115, 47, 109, 97, 105, 110]⟩ : ByteArray), .string t101, .string (⟨#[]⟩ : ByteArray)] from (k55_mkM _ _ _ (⟨(⟨#[114, 101, 102, 115, 47, 104, 101, 97, 100, 115, 47, 109, 97, 105, 110]⟩ : ByteArray), t101, (⟨#[]⟩ : ByteArray)⟩ : S55) )) (Reps.none _ _)))); intro v103 w18 ho19 hb hg_ hnew_; clear hg_ hnew_; (first | rw [← Ny102.out] at ho19 | (simp only [Int.reduceToNat] at ho19; rw [← Ny102.out] at ho19)); have n0_ := Aside0.mk (Kd.R_lower ho19 (below_size (hb_ HB.out))); have n1_ := Aside0.mk (below_step (hb_ HB.out) hb); clear HB; have HO104 := n0_; have HB := n1_; clear n0_ n1_; clear hb ho19; obtain ⟨Ao20, co20, eo20⟩ := Kd.R_slice HO104.out; subst eo20) | ((with_reducible refine gate_callee (f := 43) rfl ?_); refine goesL_ (some 15) rfl rfl Tryd.func43 (by kernel_rfl) rfl #[.slice Ao20 y102.length co20, .string (⟨#[72, 69, 65, 68]⟩ : ByteArray)] rfl (by (try simp only [List.map_toArray, List.map_cons, List.map_nil]); first | done | rfl | (simp only [List.length_drop, List.length_take]; rfl)) ?_; (with_reducible refine (refs_Resolve.calls k _ _ y102 (⟨#[72, 69, 65, 68]⟩ : ByteArray) t105 t106 t107 _ ?side1 ?side2 ?side3 A2.out).mono ?_); (case side1 => repeat (first | exact (Kd.R_reads' HO104.out).2.2 | (with_reducible refine Kd.C_alloc ?_ _) | (with_reducible refine Kd.C_drewN ?_ _) | (with_reducible refine Kd.C_drew ?_))); (case side2 => exact (Kd.R_reads' HO104.out).2.1); (case side3 => exact GV.below hgv (hb_ HB.out)); rintro e w21 ⟨rfl, hb⟩; refine ⟨_, rfl, ?_⟩; have n0_ := Aside0.mk (Kd.R_below (rk_ HO104.out) hb); have n1_ := Aside0.mk (below_step (hb_ HB.out) hb); clear HO104; clear HB; have HO104 := n0_; have HB := n1_; clear n0_ n1_; (try clear hb); (try clear hb2); (try clear hk); (try clear hi)) | ((with_reducible refine gate_callee (f := 38) rfl ?_); refine goesL_ (some 21) rfl rfl Tryd.func38 (by kernel_rfl) rfl #[.slice Ao20 y102.length co20] rfl (by (try simp only [List.map_toArray, List.map_cons, List.map_nil]); first | done | rfl | (simp only [List.length_drop, List.length_take]; rfl)) ?_; (with_reducible refine (refs_Text.calls k _ _ y102 t108 t109 _ ?side1 ?side2 ?side3 A3.out).mono ?_); (case side1 => repeat (first | exact (Kd.R_reads' HO104.out).2.2 | (with_reducible refine Kd.C_alloc ?_ _) | (with_reducible refine Kd.C_drewN ?_ _) | (with_reducible refine Kd.C_drew ?_))); (case side2 => exact (Kd.R_reads' HO104.out).2.1); (case side3 => exact GV.below hgv (hb_ HB.out)); rintro e w22 ⟨rfl, hb⟩; refine ⟨_, rfl, ?_⟩; have n0_ := Aside0.mk (Kd.R_below (rk_ HO104.out) hb); have n1_ := Aside0.mk (below_step (hb_ HB.out) hb); clear HO104; clear HB; have HO104 := n0_; have HB := n1_; clear n0_ n1_; (try clear hb); (try clear hb2); (try clear hk); (try clear hi)) | ((with_reducible refine gate_callee (f := 40) rfl ?_); refine goesL_ (some 26) rfl rfl Tryd.func40 (by kernel_rfl) rfl #[.string t108] rfl (by (try simp only [List.map_toArray, List.map_cons, List.map_nil]); first | done | rfl | (simp only [List.length_drop, List.length_take]; rfl)) ?_; (with_reducible refine (refs_Parse.calls k t108 t110 t111 _ ?side1 A4.out).mono ?_); (case side1 => exact GV.below hgv (hb_ HB.out)); rintro e w23 ⟨v112, rfl, ho0, hb⟩; refine ⟨_, rfl, ?_⟩; have n0_ := Aside0.mk (Kd.R_elder' (rk_ HO104.out) (Kd.R_base ho0) hb); have n1_ := Aside0.mk (Kd.R_lower (Kd.R_new' ho0 (Kd.R_lt (rk_ HO104.out))) (below_size (hb_ HB.out))); have n2_ := Aside0.mk (below_step (hb_ HB.out) hb); clear HO104; clear HB; have HO104 := n0_; have HO113 := n1_; have HB := n2_; clear n0_ n1_ n2_; (try clear hb); (try clear hb2); (try clear hk); (try clear hi); (try clear ho0)) | ((with_reducible refine gate_callee (f := 36) rfl ?_); refine goesL_ (some 30) rfl rfl Tryd.func36 (by kernel_rfl) rfl #[.slice Ao20 y102.length co20] rfl (by (try simp only [List.map_toArray, List.map_cons, List.map_nil]); first | done | rfl | (simp only [List.length_drop, List.length_take]; rfl)) ?_; (with_reducible refine (refs_Check.calls k _ _ y102 t114 _ ?side1 ?side2 ?side3 A5.out).mono ?_); (case side1 => repeat (first | exact (Kd.R_reads' HO104.out).2.2 | (with_reducible refine Kd.C_alloc ?_ _) | (with_reducible refine Kd.C_drewN ?_ _) | (with_reducible refine Kd.C_drew ?_))); (case side2 => exact (Kd.R_reads' HO104.out).2.1); (case side3 => exact GV.below hgv (hb_ HB.out)); rintro e w24 ⟨rfl, hb⟩; refine ⟨_, rfl, ?_⟩; have n0_ := Aside0.mk (Kd.R_below (rk_ HO104.out) hb); have n1_ := Aside0.mk (Kd.R_below (rk_ HO113.out) hb); have n2_ := Aside0.mk (below_step (hb_ HB.out) hb); clear HO104; clear HO113; clear HB; have HO104 := n0_; have HO113 := n1_; have HB := n2_; clear n0_ n1_ n2_; (try clear hb); (try clear hb2); (try clear hk); (try clear hi)) | (go_at_call 71; have _t := tk2_; (with_reducible refine (graftagelaw37_id.calls k 49 t115 _ A8.out).mono ?_); rintro e w25 ⟨rfl, hb⟩; have n0_ := Aside0.mk (Kd.R_below (rk_ HO104.out) hb); have n1_ := Aside0.mk (Kd.R_below (rk_ HO113.out) hb); have n2_ := Aside0.mk (below_step (hb_ HB.out) hb); clear HO104; clear HO113; clear HB; have HO104 := n0_; have HO113 := n1_; have HB := n2_; clear n0_ n1_ n2_; (try clear hb); (try clear hb2); (try clear hk); (try clear hi); obtain ⟨Ao26, co26, eo26⟩ := Kd.R_slice HO113.out; subst eo26; clear tk2_) | (go_at_call 42; (with_reducible refine (graftageref37_Same.calls k _ _ y102 _ _ t110 true _ ?side1 ?side2 ?side3 ?side4 A13.out).mono ?_); (case side1 => repeat (first | exact (Kd.R_reads' HO104.out).2.2 | (with_reducible refine Kd.C_alloc ?_ _) | (with_reducible refine Kd.C_drewN ?_ _) | (with_reducible refine Kd.C_drew ?_))); (case side2 => exact (Kd.R_reads' HO104.out).2.1); (case side3 => repeat (first | exact (Kd.R_reads' HO113.out).2.2 | (with_reducible refine Kd.C_alloc ?_ _) | (with_reducible refine Kd.C_drewN ?_ _) | (with_reducible refine Kd.C_drew ?_))); (case side4 => exact (Kd.R_reads' HO113.out).2.1); rintro e w' ⟨rfl, ⟨nd, rfl⟩⟩) | (go_at_call 34; (with_reducible refine (refs_Name.calls k (⟨#[114, 101, 102, 115, 47, 104, 101, 97, 100, 115, 47, 97, 46, 46, 98]⟩ : ByteArray) true _ ?side1 A15.out).mono ?_); (case side1 => exact GV.below hgv (hb_ HB.out)); rintro e w27 ⟨rfl, hb⟩; have n0_ := Aside0.mk (Kd.R_below (rk_ HO104.out) hb); have n1_ := Aside0.mk (Kd.R_below (rk_ HO113.out) hb); have n2_ := Aside0.mk (below_step (hb_ HB.out) hb); clear HO104; clear HO113; clear HB; have HO104 := n0_; have HO113 := n1_; have HB := n2_; clear n0_ n1_ n2_; (try clear hb); (try clear hb2); (try clear hk); (try clear hi)))
         go_ret
         exact ⟨by first | rfl | (simp [errW_none, errW_some] <;> rfl) | (simp [*, errW_none, errW_some] <;> rfl) | (simp [ne_nil_bool]; done) | (simp [*, ne_nil_bool]; done), hb_ HB.out⟩
        ·replace c16 := Bool.eq_false_iff.mpr c16
         subst c16
         have H1 : ((refs_Name.f k (⟨#[114, 101, 102, 115, 47, 97]⟩ : ByteArray)).bind fun t118 => (some t118)) = some r := by rw [if_neg (show ¬ (false = true) by decide)] at H; exact H
         clear H
         have H := H1
         clear H1
         replace H := Option.bind_eq_some_iff.mp H
         obtain ⟨t118, A280, H⟩ := H
         replace H : (some t118) = some r := H
         have A28 := Aside0.mk A280
         clear A280
         obtain rfl := Option.some.inj H
         go_enter Tryd.func33, Tryd.ntmps33
         have tk3_ : True := trivial
         have tk4_ : True := trivial
         have tk5_ : True := trivial
         have tk6_ : True := trivial
         go_wp2_with (first | (have _t := tk3_; (with_reducible refine gate_callee (f := 71) rfl ?_); refine goesL_ (some 10) rfl rfl Tryd.func71 (by kernel_rfl) rfl #[.int .u8 49] rfl (by (try simp only [List.map_toArray, List.map_cons, List.map_nil]); first | done | rfl | (simp only [List.length_drop, List.length_take]; rfl)) ?_; (with_reducible refine (graftagelaw37_id.calls k 49 t101 _ A1.out).mono ?_); rintro e w29 ⟨rfl, hb⟩; refine ⟨_, rfl, ?_⟩; have n0_ := Aside0.mk (below_step (hb_ HB.out) hb); clear HB; have HB := n0_; clear n0_; (try clear hb); (try clear hb2); (try clear hk); (try clear hi); clear tk3_) | ((with_reducible refine gate_dst (N := 12) rfl ?_); refine Kd.R_lit k55 _ 55 ?hg (N := 12) ?hd (xs := ([(⟨(⟨#[72, 69, 65, 68]⟩ : ByteArray), (⟨#[]⟩ : ByteArray), (⟨#[114, 101, 102, 115, 47, 104, 101, 97, 100, 115, 47, 109, 97, 105, 110]⟩ : ByteArray)⟩ : S55), (⟨(⟨#[114, 101, 102, 115, 47, 104, 101, 97, 100, 115, 47, 109, 97, 105, 110]⟩ : ByteArray), t101, (⟨#[]⟩ : ByteArray)⟩ : S55)] : List (S55))) (inner := [.string (⟨#[72, 69, 65, 68]⟩ : ByteArray), .string (⟨#[]⟩ : ByteArray), .string (⟨#[114, 101, 102, 115, 47, 104, 101, 97, 100, 115, 47, 109, 97, 105, 110]⟩ : ByteArray), .string (⟨#[114, 101, 102, 115, 47, 104, 101, 97, 100, 115, 47, 109, 97, 105, 110]⟩ : ByteArray), .string t101, .string (⟨#[]⟩ : ByteArray)]) (ok := fun _ => True) (okp := fun _ => True) ?hr ?hp (fun _ hk => hk) trivial (Below.refl _ _) (Nat.le_refl _) (by simp) ?_; (case hd => rfl); (case hg => rfl); (case hr => first | (go_simp; done) | (go_simp; rfl)); (case hp => exact (Reps.c3 (show Kd.M k55 _ _ _ (⟨(⟨#[72, 69, 65, 68]⟩ : ByteArray), (⟨#[]⟩ : ByteArray), (⟨#[114, 101, 102, 115, 47, 104, 101, 97, 100, 115, 47, 109, 97, 105, 110]⟩ : ByteArray)⟩ : S55) [.string (⟨#[72, 69, 65, 68]⟩ : ByteArray), .string (⟨#[]⟩ : ByteArray), .string (⟨#[114, 101, 102, 115, 47, 104, 101, 97, 100, 115, 47, 109, 97, 105, 110]⟩ : ByteArray)] from (k55_mkM _ _ _ (⟨(⟨#[72, 69, 65, 68]⟩ : ByteArray), (⟨#[]⟩ : ByteArray), (⟨#[114, 101, 102, 115, 47, 104, 101, 97, 100, 115, 47, 109, 97, 105, 110]⟩ : ByteArray)⟩ : S55) )) (Reps.c3 (show Kd.M k55 _ _ _ (⟨(⟨#[114, 101, 102, 115, 47, 104, 101, 97, 100, 115, 47, 109, 97, 105, 110]⟩ : ByteArray), t101, (⟨#[]⟩ : ByteArray)⟩ : S55) [.string (⟨#[114, 101, 102, 115, 47, 104, 101, 97, 100, 115, 47, 109, 97, 105, 110]⟩ : ByteArray), .string t101, .string (⟨#[]⟩ : ByteArray)] from (k55_mkM _ _ _ (⟨(⟨#[114, 101, 102, 115, 47, 104, 101, 97, 100, 115, 47, 109, 97, 105, 110]⟩ : ByteArray), t101, (⟨#[]⟩ : ByteArray)⟩ : S55) )) (Reps.none _ _)))); intro v103 w30 ho31 hb hg_ hnew_; clear hg_ hnew_; (first | rw [← Ny102.out] at ho31 | (simp only [Int.reduceToNat] at ho31; rw [← Ny102.out] at ho31)); have n0_ := Aside0.mk (Kd.R_lower ho31 (below_size (hb_ HB.out))); have n1_ := Aside0.mk (below_step (hb_ HB.out) hb); clear HB; have HO104 := n0_; have HB := n1_; clear n0_ n1_; clear hb ho31; obtain ⟨Ao32, co32, eo32⟩ := Kd.R_slice HO104.out; subst eo32) | ((with_reducible refine gate_callee (f := 43) rfl ?_); refine goesL_ (some 15) rfl rfl Tryd.func43 (by kernel_rfl) rfl #[.slice Ao32 y102.length co32, .string (⟨#[72, 69, 65, 68]⟩ : ByteArray)] rfl (by (try simp only [List.map_toArray, List.map_cons, List.map_nil]); first | done | rfl | (simp only [List.length_drop, List.length_take]; rfl)) ?_; (with_reducible refine (refs_Resolve.calls k _ _ y102 (⟨#[72, 69, 65, 68]⟩ : ByteArray) t105 t106 t107 _ ?side1 ?side2 ?side3 A2.out).mono ?_); (case side1 => repeat (first | exact (Kd.R_reads' HO104.out).2.2 | (with_reducible refine Kd.C_alloc ?_ _) | (with_reducible refine Kd.C_drewN ?_ _) | (with_reducible refine Kd.C_drew ?_))); (case side2 => exact (Kd.R_reads' HO104.out).2.1); (case side3 => exact GV.below hgv (hb_ HB.out)); rintro e w33 ⟨rfl, hb⟩; refine ⟨_, rfl, ?_⟩; have n0_ := Aside0.mk (Kd.R_below (rk_ HO104.out) hb); have n1_ := Aside0.mk (below_step (hb_ HB.out) hb); clear HO104; clear HB; have HO104 := n0_; have HB := n1_; clear n0_ n1_; (try clear hb); (try clear hb2); (try clear hk); (try clear hi)) | ((with_reducible refine gate_callee (f := 38) rfl ?_); refine goesL_ (some 21) rfl rfl Tryd.func38 (by kernel_rfl) rfl #[.slice Ao32 y102.length co32] rfl (by (try simp only [List.map_toArray, List.map_cons, List.map_nil]); first | done | rfl | (simp only [List.length_drop, List.length_take]; rfl)) ?_; (with_reducible refine (refs_Text.calls k _ _ y102 t108 t109 _ ?side1 ?side2 ?side3 A3.out).mono ?_); (case side1 => repeat (first | exact (Kd.R_reads' HO104.out).2.2 | (with_reducible refine Kd.C_alloc ?_ _) | (with_reducible refine Kd.C_drewN ?_ _) | (with_reducible refine Kd.C_drew ?_))); (case side2 => exact (Kd.R_reads' HO104.out).2.1); (case side3 => exact GV.below hgv (hb_ HB.out)); rintro e w34 ⟨rfl, hb⟩; refine ⟨_, rfl, ?_⟩; have n0_ := Aside0.mk (Kd.R_below (rk_ HO104.out) hb); have n1_ := Aside0.mk (below_step (hb_ HB.out) hb); clear HO104; clear HB; have HO104 := n0_; have HB := n1_; clear n0_ n1_; (try clear hb); (try clear hb2); (try clear hk); (try clear hi)) | ((with_reducible refine gate_callee (f := 40) rfl ?_); refine goesL_ (some 26) rfl rfl Tryd.func40 (by kernel_rfl) rfl #[.string t108] rfl (by (try simp only [List.map_toArray, List.map_cons, List.map_nil]); first | done | rfl | (simp only [List.length_drop, List.length_take]; rfl)) ?_; (with_reducible refine (refs_Parse.calls k t108 t110 t111 _ ?side1 A4.out).mono ?_); (case side1 => exact GV.below hgv (hb_ HB.out)); rintro e w35 ⟨v112, rfl, ho0, hb⟩; refine ⟨_, rfl, ?_⟩; have n0_ := Aside0.mk (Kd.R_elder' (rk_ HO104.out) (Kd.R_base ho0) hb); have n1_ := Aside0.mk (Kd.R_lower (Kd.R_new' ho0 (Kd.R_lt (rk_ HO104.out))) (below_size (hb_ HB.out))); have n2_ := Aside0.mk (below_step (hb_ HB.out) hb); clear HO104; clear HB; have HO104 := n0_; have HO113 := n1_; have HB := n2_; clear n0_ n1_ n2_; (try clear hb); (try clear hb2); (try clear hk); (try clear hi); (try clear ho0)) | ((with_reducible refine gate_callee (f := 36) rfl ?_); refine goesL_ (some 30) rfl rfl Tryd.func36 (by kernel_rfl) rfl #[.slice Ao32 y102.length co32] rfl (by (try simp only [List.map_toArray, List.map_cons, List.map_nil]); first | done | rfl | (simp only [List.length_drop, List.length_take]; rfl)) ?_; (with_reducible refine (refs_Check.calls k _ _ y102 t114 _ ?side1 ?side2 ?side3 A5.out).mono ?_); (case side1 => repeat (first | exact (Kd.R_reads' HO104.out).2.2 | (with_reducible refine Kd.C_alloc ?_ _) | (with_reducible refine Kd.C_drewN ?_ _) | (with_reducible refine Kd.C_drew ?_))); (case side2 => exact (Kd.R_reads' HO104.out).2.1); (case side3 => exact GV.below hgv (hb_ HB.out)); rintro e w36 ⟨rfl, hb⟩; refine ⟨_, rfl, ?_⟩; have n0_ := Aside0.mk (Kd.R_below (rk_ HO104.out) hb); have n1_ := Aside0.mk (Kd.R_below (rk_ HO113.out) hb); have n2_ := Aside0.mk (below_step (hb_ HB.out) hb); clear HO104; clear HO113; clear HB; have HO104 := n0_; have HO113 := n1_; have HB := n2_; clear n0_ n1_ n2_; (try clear hb); (try clear hb2); (try clear hk); (try clear hi)) | (go_at_call 71; have _t := tk4_; (with_reducible refine (graftagelaw37_id.calls k 49 t115 _ A8.out).mono ?_); rintro e w37 ⟨rfl, hb⟩; have n0_ := Aside0.mk (Kd.R_below (rk_ HO104.out) hb); have n1_ := Aside0.mk (Kd.R_below (rk_ HO113.out) hb); have n2_ := Aside0.mk (below_step (hb_ HB.out) hb); clear HO104; clear HO113; clear HB; have HO104 := n0_; have HO113 := n1_; have HB := n2_; clear n0_ n1_ n2_; (try clear hb); (try clear hb2); (try clear hk); (try clear hi); obtain ⟨Ao38, co38, eo38⟩ := Kd.R_slice HO113.out; subst eo38; clear tk4_) | (go_at_call 42; (with_reducible refine (graftageref37_Same.calls k _ _ y102 _ _ t110 true _ ?side1 ?side2 ?side3 ?side4 A13.out).mono ?_); (case side1 => repeat (first | exact (Kd.R_reads' HO104.out).2.2 | (with_reducible refine Kd.C_alloc ?_ _) | (with_reducible refine Kd.C_drewN ?_ _) | (with_reducible refine Kd.C_drew ?_))); (case side2 => exact (Kd.R_reads' HO104.out).2.1); (case side3 => repeat (first | exact (Kd.R_reads' HO113.out).2.2 | (with_reducible refine Kd.C_alloc ?_ _) | (with_reducible refine Kd.C_drewN ?_ _) | (with_reducible refine Kd.C_drew ?_))); (case side4 => exact (Kd.R_reads' HO113.out).2.1); rintro e w' ⟨rfl, ⟨nd, rfl⟩⟩) | (go_at_call 34; have _t := tk5_; (with_reducible refine (refs_Name.calls k (⟨#[114, 101, 102, 115, 47, 104, 101, 97, 100, 115, 47, 97, 46, 46, 98]⟩ : ByteArray) false _ ?side1 A15.out).mono ?_); (case side1 => exact GV.below hgv (hb_ HB.out)); rintro e w39 ⟨rfl, hb⟩; have n0_ := Aside0.mk (Kd.R_below (rk_ HO104.out) hb); have n1_ := Aside0.mk (Kd.R_below (rk_ HO113.out) hb); have n2_ := Aside0.mk (below_step (hb_ HB.out) hb); clear HO104; clear HO113; clear HB; have HO104 := n0_; have HO113 := n1_; have HB := n2_; clear n0_ n1_ n2_; (try clear hb); (try clear hb2); (try clear hk); (try clear hi); clear tk5_) | (go_at_call 34; have _t := tk6_; (with_reducible refine (refs_Name.calls k (⟨#[114, 101, 102, 115, 47, 97]⟩ : ByteArray) t118 _ ?side1 A28.out).mono ?_); (case side1 => exact GV.below hgv (hb_ HB.out)); rintro e w40 ⟨rfl, hb⟩; have n0_ := Aside0.mk (Kd.R_below (rk_ HO104.out) hb); have n1_ := Aside0.mk (Kd.R_below (rk_ HO113.out) hb); have n2_ := Aside0.mk (below_step (hb_ HB.out) hb); clear HO104; clear HO113; clear HB; have HO104 := n0_; have HO113 := n1_; have HB := n2_; clear n0_ n1_ n2_; (try clear hb); (try clear hb2); (try clear hk); (try clear hi); clear tk6_))
         go_ret
         exact ⟨by first | rfl | (simp [errW_none, errW_some] <;> rfl) | (simp [*, errW_none, errW_some] <;> rfl) | (simp [ne_nil_bool]; done) | (simp [*, ne_nil_bool]; done), hb_ HB.out⟩
       ·replace c14 := Bool.eq_false_iff.mpr c14
        subst c14
        have H1 : (some false) = some r := by rw [if_neg (show ¬ (false = true) by decide)] at H; exact H
        clear H
        have H := H1
        clear H1
        obtain rfl := Option.some.inj H
        go_enter Tryd.func33, Tryd.ntmps33
        have tk7_ : True := trivial
        have tk8_ : True := trivial
        go_wp2_with (first | (have _t := tk7_; (with_reducible refine gate_callee (f := 71) rfl ?_); refine goesL_ (some 10) rfl rfl Tryd.func71 (by kernel_rfl) rfl #[.int .u8 49] rfl (by (try simp only [List.map_toArray, List.map_cons, List.map_nil]); first | done | rfl | (simp only [List.length_drop, List.length_take]; rfl)) ?_; (with_reducible refine (graftagelaw37_id.calls k 49 t101 _ A1.out).mono ?_); rintro e w41 ⟨rfl, hb⟩; refine ⟨_, rfl, ?_⟩; have n0_ := Aside0.mk (below_step (hb_ HB.out) hb); clear HB; have HB := n0_; clear n0_; (try clear hb); (try clear hb2); (try clear hk); (try clear hi); clear tk7_) | ((with_reducible refine gate_dst (N := 12) rfl ?_); refine Kd.R_lit k55 _ 55 ?hg (N := 12) ?hd (xs := ([(⟨(⟨#[72, 69, 65, 68]⟩ : ByteArray), (⟨#[]⟩ : ByteArray), (⟨#[114, 101, 102, 115, 47, 104, 101, 97, 100, 115, 47, 109, 97, 105, 110]⟩ : ByteArray)⟩ : S55), (⟨(⟨#[114, 101, 102, 115, 47, 104, 101, 97, 100, 115, 47, 109, 97, 105, 110]⟩ : ByteArray), t101, (⟨#[]⟩ : ByteArray)⟩ : S55)] : List (S55))) (inner := [.string (⟨#[72, 69, 65, 68]⟩ : ByteArray), .string (⟨#[]⟩ : ByteArray), .string (⟨#[114, 101, 102, 115, 47, 104, 101, 97, 100, 115, 47, 109, 97, 105, 110]⟩ : ByteArray), .string (⟨#[114, 101, 102, 115, 47, 104, 101, 97, 100, 115, 47, 109, 97, 105, 110]⟩ : ByteArray), .string t101, .string (⟨#[]⟩ : ByteArray)]) (ok := fun _ => True) (okp := fun _ => True) ?hr ?hp (fun _ hk => hk) trivial (Below.refl _ _) (Nat.le_refl _) (by simp) ?_; (case hd => rfl); (case hg => rfl); (case hr => first | (go_simp; done) | (go_simp; rfl)); (case hp => exact (Reps.c3 (show Kd.M k55 _ _ _ (⟨(⟨#[72, 69, 65, 68]⟩ : ByteArray), (⟨#[]⟩ : ByteArray), (⟨#[114, 101, 102, 115, 47, 104, 101, 97, 100, 115, 47, 109, 97, 105, 110]⟩ : ByteArray)⟩ : S55) [.string (⟨#[72, 69, 65, 68]⟩ : ByteArray), .string (⟨#[]⟩ : ByteArray), .string (⟨#[114, 101, 102, 115, 47, 104, 101, 97, 100, 115, 47, 109, 97, 105, 110]⟩ : ByteArray)] from (k55_mkM _ _ _ (⟨(⟨#[72, 69, 65, 68]⟩ : ByteArray), (⟨#[]⟩ : ByteArray), (⟨#[114, 101, 102, 115, 47, 104, 101, 97, 100, 115, 47, 109, 97, 105, 110]⟩ : ByteArray)⟩ : S55) )) (Reps.c3 (show Kd.M k55 _ _ _ (⟨(⟨#[114, 101, 102, 115, 47, 104, 101, 97, 100, 115, 47, 109, 97, 105, 110]⟩ : ByteArray), t101, (⟨#[]⟩ : ByteArray)⟩ : S55) [.string (⟨#[114, 101, 102, 115, 47, 104, 101, 97, 100, 115, 47, 109, 97, 105, 110]⟩ : ByteArray), .string t101, .string (⟨#[]⟩ : ByteArray)] from (k55_mkM _ _ _ (⟨(⟨#[114, 101, 102, 115, 47, 104, 101, 97, 100, 115, 47, 109, 97, 105, 110]⟩ : ByteArray), t101, (⟨#[]⟩ : ByteArray)⟩ : S55) )) (Reps.none _ _)))); intro v103 w42 ho43 hb hg_ hnew_; clear hg_ hnew_; (first | rw [← Ny102.out] at ho43 | (simp only [Int.reduceToNat] at ho43; rw [← Ny102.out] at ho43)); have n0_ := Aside0.mk (Kd.R_lower ho43 (below_size (hb_ HB.out))); have n1_ := Aside0.mk (below_step (hb_ HB.out) hb); clear HB; have HO104 := n0_; have HB := n1_; clear n0_ n1_; clear hb ho43; obtain ⟨Ao44, co44, eo44⟩ := Kd.R_slice HO104.out; subst eo44) | ((with_reducible refine gate_callee (f := 43) rfl ?_); refine goesL_ (some 15) rfl rfl Tryd.func43 (by kernel_rfl) rfl #[.slice Ao44 y102.length co44, .string (⟨#[72, 69, 65, 68]⟩ : ByteArray)] rfl (by (try simp only [List.map_toArray, List.map_cons, List.map_nil]); first | done | rfl | (simp only [List.length_drop, List.length_take]; rfl)) ?_; (with_reducible refine (refs_Resolve.calls k _ _ y102 (⟨#[72, 69, 65, 68]⟩ : ByteArray) t105 t106 t107 _ ?side1 ?side2 ?side3 A2.out).mono ?_); (case side1 => repeat (first | exact (Kd.R_reads' HO104.out).2.2 | (with_reducible refine Kd.C_alloc ?_ _) | (with_reducible refine Kd.C_drewN ?_ _) | (with_reducible refine Kd.C_drew ?_))); (case side2 => exact (Kd.R_reads' HO104.out).2.1); (case side3 => exact GV.below hgv (hb_ HB.out)); rintro e w45 ⟨rfl, hb⟩; refine ⟨_, rfl, ?_⟩; have n0_ := Aside0.mk (Kd.R_below (rk_ HO104.out) hb); have n1_ := Aside0.mk (below_step (hb_ HB.out) hb); clear HO104; clear HB; have HO104 := n0_; have HB := n1_; clear n0_ n1_; (try clear hb); (try clear hb2); (try clear hk); (try clear hi)) | ((with_reducible refine gate_callee (f := 38) rfl ?_); refine goesL_ (some 21) rfl rfl Tryd.func38 (by kernel_rfl) rfl #[.slice Ao44 y102.length co44] rfl (by (try simp only [List.map_toArray, List.map_cons, List.map_nil]); first | done | rfl | (simp only [List.length_drop, List.length_take]; rfl)) ?_; (with_reducible refine (refs_Text.calls k _ _ y102 t108 t109 _ ?side1 ?side2 ?side3 A3.out).mono ?_); (case side1 => repeat (first | exact (Kd.R_reads' HO104.out).2.2 | (with_reducible refine Kd.C_alloc ?_ _) | (with_reducible refine Kd.C_drewN ?_ _) | (with_reducible refine Kd.C_drew ?_))); (case side2 => exact (Kd.R_reads' HO104.out).2.1); (case side3 => exact GV.below hgv (hb_ HB.out)); rintro e w46 ⟨rfl, hb⟩; refine ⟨_, rfl, ?_⟩; have n0_ := Aside0.mk (Kd.R_below (rk_ HO104.out) hb); have n1_ := Aside0.mk (below_step (hb_ HB.out) hb); clear HO104; clear HB; have HO104 := n0_; have HB := n1_; clear n0_ n1_; (try clear hb); (try clear hb2); (try clear hk); (try clear hi)) | ((with_reducible refine gate_callee (f := 40) rfl ?_); refine goesL_ (some 26) rfl rfl Tryd.func40 (by kernel_rfl) rfl #[.string t108] rfl (by (try simp only [List.map_toArray, List.map_cons, List.map_nil]); first | done | rfl | (simp only [List.length_drop, List.length_take]; rfl)) ?_; (with_reducible refine (refs_Parse.calls k t108 t110 t111 _ ?side1 A4.out).mono ?_); (case side1 => exact GV.below hgv (hb_ HB.out)); rintro e w47 ⟨v112, rfl, ho0, hb⟩; refine ⟨_, rfl, ?_⟩; have n0_ := Aside0.mk (Kd.R_elder' (rk_ HO104.out) (Kd.R_base ho0) hb); have n1_ := Aside0.mk (Kd.R_lower (Kd.R_new' ho0 (Kd.R_lt (rk_ HO104.out))) (below_size (hb_ HB.out))); have n2_ := Aside0.mk (below_step (hb_ HB.out) hb); clear HO104; clear HB; have HO104 := n0_; have HO113 := n1_; have HB := n2_; clear n0_ n1_ n2_; (try clear hb); (try clear hb2); (try clear hk); (try clear hi); (try clear ho0)) | ((with_reducible refine gate_callee (f := 36) rfl ?_); refine goesL_ (some 30) rfl rfl Tryd.func36 (by kernel_rfl) rfl #[.slice Ao44 y102.length co44] rfl (by (try simp only [List.map_toArray, List.map_cons, List.map_nil]); first | done | rfl | (simp only [List.length_drop, List.length_take]; rfl)) ?_; (with_reducible refine (refs_Check.calls k _ _ y102 t114 _ ?side1 ?side2 ?side3 A5.out).mono ?_); (case side1 => repeat (first | exact (Kd.R_reads' HO104.out).2.2 | (with_reducible refine Kd.C_alloc ?_ _) | (with_reducible refine Kd.C_drewN ?_ _) | (with_reducible refine Kd.C_drew ?_))); (case side2 => exact (Kd.R_reads' HO104.out).2.1); (case side3 => exact GV.below hgv (hb_ HB.out)); rintro e w48 ⟨rfl, hb⟩; refine ⟨_, rfl, ?_⟩; have n0_ := Aside0.mk (Kd.R_below (rk_ HO104.out) hb); have n1_ := Aside0.mk (Kd.R_below (rk_ HO113.out) hb); have n2_ := Aside0.mk (below_step (hb_ HB.out) hb); clear HO104; clear HO113; clear HB; have HO104 := n0_; have HO113 := n1_; have HB := n2_; clear n0_ n1_ n2_; (try clear hb); (try clear hb2); (try clear hk); (try clear hi)) | (go_at_call 71; have _t := tk8_; (with_reducible refine (graftagelaw37_id.calls k 49 t115 _ A8.out).mono ?_); rintro e w49 ⟨rfl, hb⟩; have n0_ := Aside0.mk (Kd.R_below (rk_ HO104.out) hb); have n1_ := Aside0.mk (Kd.R_below (rk_ HO113.out) hb); have n2_ := Aside0.mk (below_step (hb_ HB.out) hb); clear HO104; clear HO113; clear HB; have HO104 := n0_; have HO113 := n1_; have HB := n2_; clear n0_ n1_ n2_; (try clear hb); (try clear hb2); (try clear hk); (try clear hi); obtain ⟨Ao50, co50, eo50⟩ := Kd.R_slice HO113.out; subst eo50; clear tk8_) | (go_at_call 42; (with_reducible refine (graftageref37_Same.calls k _ _ y102 _ _ t110 false _ ?side1 ?side2 ?side3 ?side4 A13.out).mono ?_); (case side1 => repeat (first | exact (Kd.R_reads' HO104.out).2.2 | (with_reducible refine Kd.C_alloc ?_ _) | (with_reducible refine Kd.C_drewN ?_ _) | (with_reducible refine Kd.C_drew ?_))); (case side2 => exact (Kd.R_reads' HO104.out).2.1); (case side3 => repeat (first | exact (Kd.R_reads' HO113.out).2.2 | (with_reducible refine Kd.C_alloc ?_ _) | (with_reducible refine Kd.C_drewN ?_ _) | (with_reducible refine Kd.C_drew ?_))); (case side4 => exact (Kd.R_reads' HO113.out).2.1); rintro e w' ⟨rfl, ⟨nd, rfl⟩⟩))
        go_ret
        exact ⟨by first | rfl | (simp [errW_none, errW_some] <;> rfl) | (simp [*, errW_none, errW_some] <;> rfl) | (simp [ne_nil_bool]; done) | (simp [*, ne_nil_bool]; done), hb_ HB.out⟩
      ·rw [if_neg c12] at H
       have c12b0 : (t111 == 0) = false := beq_eq_false_iff_ne.mpr c12
       have c12b1 : (t111 != 0) = true := bne_iff_ne.mpr c12
       obtain rfl := Option.some.inj H
       go_enter Tryd.func33, Tryd.ntmps33
       have tk9_ : True := trivial
       have tk10_ : True := trivial
       go_wp2_with (first | (have _t := tk9_; (with_reducible refine gate_callee (f := 71) rfl ?_); refine goesL_ (some 10) rfl rfl Tryd.func71 (by kernel_rfl) rfl #[.int .u8 49] rfl (by (try simp only [List.map_toArray, List.map_cons, List.map_nil]); first | done | rfl | (simp only [List.length_drop, List.length_take]; rfl)) ?_; (with_reducible refine (graftagelaw37_id.calls k 49 t101 _ A1.out).mono ?_); rintro e w51 ⟨rfl, hb⟩; refine ⟨_, rfl, ?_⟩; have n0_ := Aside0.mk (below_step (hb_ HB.out) hb); clear HB; have HB := n0_; clear n0_; (try clear hb); (try clear hb2); (try clear hk); (try clear hi); clear tk9_) | ((with_reducible refine gate_dst (N := 12) rfl ?_); refine Kd.R_lit k55 _ 55 ?hg (N := 12) ?hd (xs := ([(⟨(⟨#[72, 69, 65, 68]⟩ : ByteArray), (⟨#[]⟩ : ByteArray), (⟨#[114, 101, 102, 115, 47, 104, 101, 97, 100, 115, 47, 109, 97, 105, 110]⟩ : ByteArray)⟩ : S55), (⟨(⟨#[114, 101, 102, 115, 47, 104, 101, 97, 100, 115, 47, 109, 97, 105, 110]⟩ : ByteArray), t101, (⟨#[]⟩ : ByteArray)⟩ : S55)] : List (S55))) (inner := [.string (⟨#[72, 69, 65, 68]⟩ : ByteArray), .string (⟨#[]⟩ : ByteArray), .string (⟨#[114, 101, 102, 115, 47, 104, 101, 97, 100, 115, 47, 109, 97, 105, 110]⟩ : ByteArray), .string (⟨#[114, 101, 102, 115, 47, 104, 101, 97, 100, 115, 47, 109, 97, 105, 110]⟩ : ByteArray), .string t101, .string (⟨#[]⟩ : ByteArray)]) (ok := fun _ => True) (okp := fun _ => True) ?hr ?hp (fun _ hk => hk) trivial (Below.refl _ _) (Nat.le_refl _) (by simp) ?_; (case hd => rfl); (case hg => rfl); (case hr => first | (go_simp; done) | (go_simp; rfl)); (case hp => exact (Reps.c3 (show Kd.M k55 _ _ _ (⟨(⟨#[72, 69, 65, 68]⟩ : ByteArray), (⟨#[]⟩ : ByteArray), (⟨#[114, 101, 102, 115, 47, 104, 101, 97, 100, 115, 47, 109, 97, 105, 110]⟩ : ByteArray)⟩ : S55) [.string (⟨#[72, 69, 65, 68]⟩ : ByteArray), .string (⟨#[]⟩ : ByteArray), .string (⟨#[114, 101, 102, 115, 47, 104, 101, 97, 100, 115, 47, 109, 97, 105, 110]⟩ : ByteArray)] from (k55_mkM _ _ _ (⟨(⟨#[72, 69, 65, 68]⟩ : ByteArray), (⟨#[]⟩ : ByteArray), (⟨#[114, 101, 102, 115, 47, 104, 101, 97, 100, 115, 47, 109, 97, 105, 110]⟩ : ByteArray)⟩ : S55) )) (Reps.c3 (show Kd.M k55 _ _ _ (⟨(⟨#[114, 101, 102, 115, 47, 104, 101, 97, 100, 115, 47, 109, 97, 105, 110]⟩ : ByteArray), t101, (⟨#[]⟩ : ByteArray)⟩ : S55) [.string (⟨#[114, 101, 102, 115, 47, 104, 101, 97, 100, 115, 47, 109, 97, 105, 110]⟩ : ByteArray), .string t101, .string (⟨#[]⟩ : ByteArray)] from (k55_mkM _ _ _ (⟨(⟨#[114, 101, 102, 115, 47, 104, 101, 97, 100, 115, 47, 109, 97, 105, 110]⟩ : ByteArray), t101, (⟨#[]⟩ : ByteArray)⟩ : S55) )) (Reps.none _ _)))); intro v103 w52 ho53 hb hg_ hnew_; clear hg_ hnew_; (first | rw [← Ny102.out] at ho53 | (simp only [Int.reduceToNat] at ho53; rw [← Ny102.out] at ho53)); have n0_ := Aside0.mk (Kd.R_lower ho53 (below_size (hb_ HB.out))); have n1_ := Aside0.mk (below_step (hb_ HB.out) hb); clear HB; have HO104 := n0_; have HB := n1_; clear n0_ n1_; clear hb ho53; obtain ⟨Ao54, co54, eo54⟩ := Kd.R_slice HO104.out; subst eo54) | ((with_reducible refine gate_callee (f := 43) rfl ?_); refine goesL_ (some 15) rfl rfl Tryd.func43 (by kernel_rfl) rfl #[.slice Ao54 y102.length co54, .string (⟨#[72, 69, 65, 68]⟩ : ByteArray)] rfl (by (try simp only [List.map_toArray, List.map_cons, List.map_nil]); first | done | rfl | (simp only [List.length_drop, List.length_take]; rfl)) ?_; (with_reducible refine (refs_Resolve.calls k _ _ y102 (⟨#[72, 69, 65, 68]⟩ : ByteArray) t105 t106 t107 _ ?side1 ?side2 ?side3 A2.out).mono ?_); (case side1 => repeat (first | exact (Kd.R_reads' HO104.out).2.2 | (with_reducible refine Kd.C_alloc ?_ _) | (with_reducible refine Kd.C_drewN ?_ _) | (with_reducible refine Kd.C_drew ?_))); (case side2 => exact (Kd.R_reads' HO104.out).2.1); (case side3 => exact GV.below hgv (hb_ HB.out)); rintro e w55 ⟨rfl, hb⟩; refine ⟨_, rfl, ?_⟩; have n0_ := Aside0.mk (Kd.R_below (rk_ HO104.out) hb); have n1_ := Aside0.mk (below_step (hb_ HB.out) hb); clear HO104; clear HB; have HO104 := n0_; have HB := n1_; clear n0_ n1_; (try clear hb); (try clear hb2); (try clear hk); (try clear hi)) | ((with_reducible refine gate_callee (f := 38) rfl ?_); refine goesL_ (some 21) rfl rfl Tryd.func38 (by kernel_rfl) rfl #[.slice Ao54 y102.length co54] rfl (by (try simp only [List.map_toArray, List.map_cons, List.map_nil]); first | done | rfl | (simp only [List.length_drop, List.length_take]; rfl)) ?_; (with_reducible refine (refs_Text.calls k _ _ y102 t108 t109 _ ?side1 ?side2 ?side3 A3.out).mono ?_); (case side1 => repeat (first | exact (Kd.R_reads' HO104.out).2.2 | (with_reducible refine Kd.C_alloc ?_ _) | (with_reducible refine Kd.C_drewN ?_ _) | (with_reducible refine Kd.C_drew ?_))); (case side2 => exact (Kd.R_reads' HO104.out).2.1); (case side3 => exact GV.below hgv (hb_ HB.out)); rintro e w56 ⟨rfl, hb⟩; refine ⟨_, rfl, ?_⟩; have n0_ := Aside0.mk (Kd.R_below (rk_ HO104.out) hb); have n1_ := Aside0.mk (below_step (hb_ HB.out) hb); clear HO104; clear HB; have HO104 := n0_; have HB := n1_; clear n0_ n1_; (try clear hb); (try clear hb2); (try clear hk); (try clear hi)) | ((with_reducible refine gate_callee (f := 40) rfl ?_); refine goesL_ (some 26) rfl rfl Tryd.func40 (by kernel_rfl) rfl #[.string t108] rfl (by (try simp only [List.map_toArray, List.map_cons, List.map_nil]); first | done | rfl | (simp only [List.length_drop, List.length_take]; rfl)) ?_; (with_reducible refine (refs_Parse.calls k t108 t110 t111 _ ?side1 A4.out).mono ?_); (case side1 => exact GV.below hgv (hb_ HB.out)); rintro e w57 ⟨v112, rfl, ho0, hb⟩; refine ⟨_, rfl, ?_⟩; have n0_ := Aside0.mk (Kd.R_elder' (rk_ HO104.out) (Kd.R_base ho0) hb); have n1_ := Aside0.mk (Kd.R_lower (Kd.R_new' ho0 (Kd.R_lt (rk_ HO104.out))) (below_size (hb_ HB.out))); have n2_ := Aside0.mk (below_step (hb_ HB.out) hb); clear HO104; clear HB; have HO104 := n0_; have HO113 := n1_; have HB := n2_; clear n0_ n1_ n2_; (try clear hb); (try clear hb2); (try clear hk); (try clear hi); (try clear ho0)) | ((with_reducible refine gate_callee (f := 36) rfl ?_); refine goesL_ (some 30) rfl rfl Tryd.func36 (by kernel_rfl) rfl #[.slice Ao54 y102.length co54] rfl (by (try simp only [List.map_toArray, List.map_cons, List.map_nil]); first | done | rfl | (simp only [List.length_drop, List.length_take]; rfl)) ?_; (with_reducible refine (refs_Check.calls k _ _ y102 t114 _ ?side1 ?side2 ?side3 A5.out).mono ?_); (case side1 => repeat (first | exact (Kd.R_reads' HO104.out).2.2 | (with_reducible refine Kd.C_alloc ?_ _) | (with_reducible refine Kd.C_drewN ?_ _) | (with_reducible refine Kd.C_drew ?_))); (case side2 => exact (Kd.R_reads' HO104.out).2.1); (case side3 => exact GV.below hgv (hb_ HB.out)); rintro e w58 ⟨rfl, hb⟩; refine ⟨_, rfl, ?_⟩; have n0_ := Aside0.mk (Kd.R_below (rk_ HO104.out) hb); have n1_ := Aside0.mk (Kd.R_below (rk_ HO113.out) hb); have n2_ := Aside0.mk (below_step (hb_ HB.out) hb); clear HO104; clear HO113; clear HB; have HO104 := n0_; have HO113 := n1_; have HB := n2_; clear n0_ n1_ n2_; (try clear hb); (try clear hb2); (try clear hk); (try clear hi)) | (go_at_call 71; have _t := tk10_; (with_reducible refine (graftagelaw37_id.calls k 49 t115 _ A8.out).mono ?_); rintro e w59 ⟨rfl, hb⟩; have n0_ := Aside0.mk (Kd.R_below (rk_ HO104.out) hb); have n1_ := Aside0.mk (Kd.R_below (rk_ HO113.out) hb); have n2_ := Aside0.mk (below_step (hb_ HB.out) hb); clear HO104; clear HO113; clear HB; have HO104 := n0_; have HO113 := n1_; have HB := n2_; clear n0_ n1_ n2_; (try clear hb); (try clear hb2); (try clear hk); (try clear hi); clear tk10_))
       go_ret
       exact ⟨by first | rfl | (simp [errW_none, errW_some] <;> rfl) | (simp [*, errW_none, errW_some] <;> rfl) | (simp [ne_nil_bool]; done) | (simp [*, ne_nil_bool]; done), hb_ HB.out⟩
     ·rw [if_neg c11] at H
      have c11b0 : (t109 == 0) = false := beq_eq_false_iff_ne.mpr c11
      have c11b1 : (t109 != 0) = true := bne_iff_ne.mpr c11
      obtain rfl := Option.some.inj H
      go_enter Tryd.func33, Tryd.ntmps33
      have tk11_ : True := trivial
      have tk12_ : True := trivial
      go_wp2_with (first | (have _t := tk11_; (with_reducible refine gate_callee (f := 71) rfl ?_); refine goesL_ (some 10) rfl rfl Tryd.func71 (by kernel_rfl) rfl #[.int .u8 49] rfl (by (try simp only [List.map_toArray, List.map_cons, List.map_nil]); first | done | rfl | (simp only [List.length_drop, List.length_take]; rfl)) ?_; (with_reducible refine (graftagelaw37_id.calls k 49 t101 _ A1.out).mono ?_); rintro e w60 ⟨rfl, hb⟩; refine ⟨_, rfl, ?_⟩; have n0_ := Aside0.mk (below_step (hb_ HB.out) hb); clear HB; have HB := n0_; clear n0_; (try clear hb); (try clear hb2); (try clear hk); (try clear hi); clear tk11_) | ((with_reducible refine gate_dst (N := 12) rfl ?_); refine Kd.R_lit k55 _ 55 ?hg (N := 12) ?hd (xs := ([(⟨(⟨#[72, 69, 65, 68]⟩ : ByteArray), (⟨#[]⟩ : ByteArray), (⟨#[114, 101, 102, 115, 47, 104, 101, 97, 100, 115, 47, 109, 97, 105, 110]⟩ : ByteArray)⟩ : S55), (⟨(⟨#[114, 101, 102, 115, 47, 104, 101, 97, 100, 115, 47, 109, 97, 105, 110]⟩ : ByteArray), t101, (⟨#[]⟩ : ByteArray)⟩ : S55)] : List (S55))) (inner := [.string (⟨#[72, 69, 65, 68]⟩ : ByteArray), .string (⟨#[]⟩ : ByteArray), .string (⟨#[114, 101, 102, 115, 47, 104, 101, 97, 100, 115, 47, 109, 97, 105, 110]⟩ : ByteArray), .string (⟨#[114, 101, 102, 115, 47, 104, 101, 97, 100, 115, 47, 109, 97, 105, 110]⟩ : ByteArray), .string t101, .string (⟨#[]⟩ : ByteArray)]) (ok := fun _ => True) (okp := fun _ => True) ?hr ?hp (fun _ hk => hk) trivial (Below.refl _ _) (Nat.le_refl _) (by simp) ?_; (case hd => rfl); (case hg => rfl); (case hr => first | (go_simp; done) | (go_simp; rfl)); (case hp => exact (Reps.c3 (show Kd.M k55 _ _ _ (⟨(⟨#[72, 69, 65, 68]⟩ : ByteArray), (⟨#[]⟩ : ByteArray), (⟨#[114, 101, 102, 115, 47, 104, 101, 97, 100, 115, 47, 109, 97, 105, 110]⟩ : ByteArray)⟩ : S55) [.string (⟨#[72, 69, 65, 68]⟩ : ByteArray), .string (⟨#[]⟩ : ByteArray), .string (⟨#[114, 101, 102, 115, 47, 104, 101, 97, 100, 115, 47, 109, 97, 105, 110]⟩ : ByteArray)] from (k55_mkM _ _ _ (⟨(⟨#[72, 69, 65, 68]⟩ : ByteArray), (⟨#[]⟩ : ByteArray), (⟨#[114, 101, 102, 115, 47, 104, 101, 97, 100, 115, 47, 109, 97, 105, 110]⟩ : ByteArray)⟩ : S55) )) (Reps.c3 (show Kd.M k55 _ _ _ (⟨(⟨#[114, 101, 102, 115, 47, 104, 101, 97, 100, 115, 47, 109, 97, 105, 110]⟩ : ByteArray), t101, (⟨#[]⟩ : ByteArray)⟩ : S55) [.string (⟨#[114, 101, 102, 115, 47, 104, 101, 97, 100, 115, 47, 109, 97, 105, 110]⟩ : ByteArray), .string t101, .string (⟨#[]⟩ : ByteArray)] from (k55_mkM _ _ _ (⟨(⟨#[114, 101, 102, 115, 47, 104, 101, 97, 100, 115, 47, 109, 97, 105, 110]⟩ : ByteArray), t101, (⟨#[]⟩ : ByteArray)⟩ : S55) )) (Reps.none _ _)))); intro v103 w61 ho62 hb hg_ hnew_; clear hg_ hnew_; (first | rw [← Ny102.out] at ho62 | (simp only [Int.reduceToNat] at ho62; rw [← Ny102.out] at ho62)); have n0_ := Aside0.mk (Kd.R_lower ho62 (below_size (hb_ HB.out))); have n1_ := Aside0.mk (below_step (hb_ HB.out) hb); clear HB; have HO104 := n0_; have HB := n1_; clear n0_ n1_; clear hb ho62; obtain ⟨Ao63, co63, eo63⟩ := Kd.R_slice HO104.out; subst eo63) | ((with_reducible refine gate_callee (f := 43) rfl ?_); refine goesL_ (some 15) rfl rfl Tryd.func43 (by kernel_rfl) rfl #[.slice Ao63 y102.length co63, .string (⟨#[72, 69, 65, 68]⟩ : ByteArray)] rfl (by (try simp only [List.map_toArray, List.map_cons, List.map_nil]); first | done | rfl | (simp only [List.length_drop, List.length_take]; rfl)) ?_; (with_reducible refine (refs_Resolve.calls k _ _ y102 (⟨#[72, 69, 65, 68]⟩ : ByteArray) t105 t106 t107 _ ?side1 ?side2 ?side3 A2.out).mono ?_); (case side1 => repeat (first | exact (Kd.R_reads' HO104.out).2.2 | (with_reducible refine Kd.C_alloc ?_ _) | (with_reducible refine Kd.C_drewN ?_ _) | (with_reducible refine Kd.C_drew ?_))); (case side2 => exact (Kd.R_reads' HO104.out).2.1); (case side3 => exact GV.below hgv (hb_ HB.out)); rintro e w64 ⟨rfl, hb⟩; refine ⟨_, rfl, ?_⟩; have n0_ := Aside0.mk (Kd.R_below (rk_ HO104.out) hb); have n1_ := Aside0.mk (below_step (hb_ HB.out) hb); clear HO104; clear HB; have HO104 := n0_; have HB := n1_; clear n0_ n1_; (try clear hb); (try clear hb2); (try clear hk); (try clear hi)) | ((with_reducible refine gate_callee (f := 38) rfl ?_); refine goesL_ (some 21) rfl rfl Tryd.func38 (by kernel_rfl) rfl #[.slice Ao63 y102.length co63] rfl (by (try simp only [List.map_toArray, List.map_cons, List.map_nil]); first | done | rfl | (simp only [List.length_drop, List.length_take]; rfl)) ?_; (with_reducible refine (refs_Text.calls k _ _ y102 t108 t109 _ ?side1 ?side2 ?side3 A3.out).mono ?_); (case side1 => repeat (first | exact (Kd.R_reads' HO104.out).2.2 | (with_reducible refine Kd.C_alloc ?_ _) | (with_reducible refine Kd.C_drewN ?_ _) | (with_reducible refine Kd.C_drew ?_))); (case side2 => exact (Kd.R_reads' HO104.out).2.1); (case side3 => exact GV.below hgv (hb_ HB.out)); rintro e w65 ⟨rfl, hb⟩; refine ⟨_, rfl, ?_⟩; have n0_ := Aside0.mk (Kd.R_below (rk_ HO104.out) hb); have n1_ := Aside0.mk (below_step (hb_ HB.out) hb); clear HO104; clear HB; have HO104 := n0_; have HB := n1_; clear n0_ n1_; (try clear hb); (try clear hb2); (try clear hk); (try clear hi)) | ((with_reducible refine gate_callee (f := 40) rfl ?_); refine goesL_ (some 26) rfl rfl Tryd.func40 (by kernel_rfl) rfl #[.string t108] rfl (by (try simp only [List.map_toArray, List.map_cons, List.map_nil]); first | done | rfl | (simp only [List.length_drop, List.length_take]; rfl)) ?_; (with_reducible refine (refs_Parse.calls k t108 t110 t111 _ ?side1 A4.out).mono ?_); (case side1 => exact GV.below hgv (hb_ HB.out)); rintro e w66 ⟨v112, rfl, ho0, hb⟩; refine ⟨_, rfl, ?_⟩; have n0_ := Aside0.mk (Kd.R_elder' (rk_ HO104.out) (Kd.R_base ho0) hb); have n1_ := Aside0.mk (Kd.R_lower (Kd.R_new' ho0 (Kd.R_lt (rk_ HO104.out))) (below_size (hb_ HB.out))); have n2_ := Aside0.mk (below_step (hb_ HB.out) hb); clear HO104; clear HB; have HO104 := n0_; have HO113 := n1_; have HB := n2_; clear n0_ n1_ n2_; (try clear hb); (try clear hb2); (try clear hk); (try clear hi); (try clear ho0)) | ((with_reducible refine gate_callee (f := 36) rfl ?_); refine goesL_ (some 30) rfl rfl Tryd.func36 (by kernel_rfl) rfl #[.slice Ao63 y102.length co63] rfl (by (try simp only [List.map_toArray, List.map_cons, List.map_nil]); first | done | rfl | (simp only [List.length_drop, List.length_take]; rfl)) ?_; (with_reducible refine (refs_Check.calls k _ _ y102 t114 _ ?side1 ?side2 ?side3 A5.out).mono ?_); (case side1 => repeat (first | exact (Kd.R_reads' HO104.out).2.2 | (with_reducible refine Kd.C_alloc ?_ _) | (with_reducible refine Kd.C_drewN ?_ _) | (with_reducible refine Kd.C_drew ?_))); (case side2 => exact (Kd.R_reads' HO104.out).2.1); (case side3 => exact GV.below hgv (hb_ HB.out)); rintro e w67 ⟨rfl, hb⟩; refine ⟨_, rfl, ?_⟩; have n0_ := Aside0.mk (Kd.R_below (rk_ HO104.out) hb); have n1_ := Aside0.mk (Kd.R_below (rk_ HO113.out) hb); have n2_ := Aside0.mk (below_step (hb_ HB.out) hb); clear HO104; clear HO113; clear HB; have HO104 := n0_; have HO113 := n1_; have HB := n2_; clear n0_ n1_ n2_; (try clear hb); (try clear hb2); (try clear hk); (try clear hi)) | (go_at_call 71; have _t := tk12_; (with_reducible refine (graftagelaw37_id.calls k 49 t115 _ A8.out).mono ?_); rintro e w68 ⟨rfl, hb⟩; have n0_ := Aside0.mk (Kd.R_below (rk_ HO104.out) hb); have n1_ := Aside0.mk (Kd.R_below (rk_ HO113.out) hb); have n2_ := Aside0.mk (below_step (hb_ HB.out) hb); clear HO104; clear HO113; clear HB; have HO104 := n0_; have HO113 := n1_; have HB := n2_; clear n0_ n1_ n2_; (try clear hb); (try clear hb2); (try clear hk); (try clear hi); clear tk12_))
      go_ret
      exact ⟨by first | rfl | (simp [errW_none, errW_some] <;> rfl) | (simp [*, errW_none, errW_some] <;> rfl) | (simp [ne_nil_bool]; done) | (simp [*, ne_nil_bool]; done), hb_ HB.out⟩
    ·rw [if_neg c10] at H
     have c10b0 : (t107 == 0) = false := beq_eq_false_iff_ne.mpr c10
     have c10b1 : (t107 != 0) = true := bne_iff_ne.mpr c10
     obtain rfl := Option.some.inj H
     go_enter Tryd.func33, Tryd.ntmps33
     have tk13_ : True := trivial
     have tk14_ : True := trivial
     go_wp2_with (first | (have _t := tk13_; (with_reducible refine gate_callee (f := 71) rfl ?_); refine goesL_ (some 10) rfl rfl Tryd.func71 (by kernel_rfl) rfl #[.int .u8 49] rfl (by (try simp only [List.map_toArray, List.map_cons, List.map_nil]); first | done | rfl | (simp only [List.length_drop, List.length_take]; rfl)) ?_; (with_reducible refine (graftagelaw37_id.calls k 49 t101 _ A1.out).mono ?_); rintro e w69 ⟨rfl, hb⟩; refine ⟨_, rfl, ?_⟩; have n0_ := Aside0.mk (below_step (hb_ HB.out) hb); clear HB; have HB := n0_; clear n0_; (try clear hb); (try clear hb2); (try clear hk); (try clear hi); clear tk13_) | ((with_reducible refine gate_dst (N := 12) rfl ?_); refine Kd.R_lit k55 _ 55 ?hg (N := 12) ?hd (xs := ([(⟨(⟨#[72, 69, 65, 68]⟩ : ByteArray), (⟨#[]⟩ : ByteArray), (⟨#[114, 101, 102, 115, 47, 104, 101, 97, 100, 115, 47, 109, 97, 105, 110]⟩ : ByteArray)⟩ : S55), (⟨(⟨#[114, 101, 102, 115, 47, 104, 101, 97, 100, 115, 47, 109, 97, 105, 110]⟩ : ByteArray), t101, (⟨#[]⟩ : ByteArray)⟩ : S55)] : List (S55))) (inner := [.string (⟨#[72, 69, 65, 68]⟩ : ByteArray), .string (⟨#[]⟩ : ByteArray), .string (⟨#[114, 101, 102, 115, 47, 104, 101, 97, 100, 115, 47, 109, 97, 105, 110]⟩ : ByteArray), .string (⟨#[114, 101, 102, 115, 47, 104, 101, 97, 100, 115, 47, 109, 97, 105, 110]⟩ : ByteArray), .string t101, .string (⟨#[]⟩ : ByteArray)]) (ok := fun _ => True) (okp := fun _ => True) ?hr ?hp (fun _ hk => hk) trivial (Below.refl _ _) (Nat.le_refl _) (by simp) ?_; (case hd => rfl); (case hg => rfl); (case hr => first | (go_simp; done) | (go_simp; rfl)); (case hp => exact (Reps.c3 (show Kd.M k55 _ _ _ (⟨(⟨#[72, 69, 65, 68]⟩ : ByteArray), (⟨#[]⟩ : ByteArray), (⟨#[114, 101, 102, 115, 47, 104, 101, 97, 100, 115, 47, 109, 97, 105, 110]⟩ : ByteArray)⟩ : S55) [.string (⟨#[72, 69, 65, 68]⟩ : ByteArray), .string (⟨#[]⟩ : ByteArray), .string (⟨#[114, 101, 102, 115, 47, 104, 101, 97, 100, 115, 47, 109, 97, 105, 110]⟩ : ByteArray)] from (k55_mkM _ _ _ (⟨(⟨#[72, 69, 65, 68]⟩ : ByteArray), (⟨#[]⟩ : ByteArray), (⟨#[114, 101, 102, 115, 47, 104, 101, 97, 100, 115, 47, 109, 97, 105, 110]⟩ : ByteArray)⟩ : S55) )) (Reps.c3 (show Kd.M k55 _ _ _ (⟨(⟨#[114, 101, 102, 115, 47, 104, 101, 97, 100, 115, 47, 109, 97, 105, 110]⟩ : ByteArray), t101, (⟨#[]⟩ : ByteArray)⟩ : S55) [.string (⟨#[114, 101, 102, 115, 47, 104, 101, 97, 100, 115, 47, 109, 97, 105, 110]⟩ : ByteArray), .string t101, .string (⟨#[]⟩ : ByteArray)] from (k55_mkM _ _ _ (⟨(⟨#[114, 101, 102, 115, 47, 104, 101, 97, 100, 115, 47, 109, 97, 105, 110]⟩ : ByteArray), t101, (⟨#[]⟩ : ByteArray)⟩ : S55) )) (Reps.none _ _)))); intro v103 w70 ho71 hb hg_ hnew_; clear hg_ hnew_; (first | rw [← Ny102.out] at ho71 | (simp only [Int.reduceToNat] at ho71; rw [← Ny102.out] at ho71)); have n0_ := Aside0.mk (Kd.R_lower ho71 (below_size (hb_ HB.out))); have n1_ := Aside0.mk (below_step (hb_ HB.out) hb); clear HB; have HO104 := n0_; have HB := n1_; clear n0_ n1_; clear hb ho71; obtain ⟨Ao72, co72, eo72⟩ := Kd.R_slice HO104.out; subst eo72) | ((with_reducible refine gate_callee (f := 43) rfl ?_); refine goesL_ (some 15) rfl rfl Tryd.func43 (by kernel_rfl) rfl #[.slice Ao72 y102.length co72, .string (⟨#[72, 69, 65, 68]⟩ : ByteArray)] rfl (by (try simp only [List.map_toArray, List.map_cons, List.map_nil]); first | done | rfl | (simp only [List.length_drop, List.length_take]; rfl)) ?_; (with_reducible refine (refs_Resolve.calls k _ _ y102 (⟨#[72, 69, 65, 68]⟩ : ByteArray) t105 t106 t107 _ ?side1 ?side2 ?side3 A2.out).mono ?_); (case side1 => repeat (first | exact (Kd.R_reads' HO104.out).2.2 | (with_reducible refine Kd.C_alloc ?_ _) | (with_reducible refine Kd.C_drewN ?_ _) | (with_reducible refine Kd.C_drew ?_))); (case side2 => exact (Kd.R_reads' HO104.out).2.1); (case side3 => exact GV.below hgv (hb_ HB.out)); rintro e w73 ⟨rfl, hb⟩; refine ⟨_, rfl, ?_⟩; have n0_ := Aside0.mk (Kd.R_below (rk_ HO104.out) hb); have n1_ := Aside0.mk (below_step (hb_ HB.out) hb); clear HO104; clear HB; have HO104 := n0_; have HB := n1_; clear n0_ n1_; (try clear hb); (try clear hb2); (try clear hk); (try clear hi)) | ((with_reducible refine gate_callee (f := 38) rfl ?_); refine goesL_ (some 21) rfl rfl Tryd.func38 (by kernel_rfl) rfl #[.slice Ao72 y102.length co72] rfl (by (try simp only [List.map_toArray, List.map_cons, List.map_nil]); first | done | rfl | (simp only [List.length_drop, List.length_take]; rfl)) ?_; (with_reducible refine (refs_Text.calls k _ _ y102 t108 t109 _ ?side1 ?side2 ?side3 A3.out).mono ?_); (case side1 => repeat (first | exact (Kd.R_reads' HO104.out).2.2 | (with_reducible refine Kd.C_alloc ?_ _) | (with_reducible refine Kd.C_drewN ?_ _) | (with_reducible refine Kd.C_drew ?_))); (case side2 => exact (Kd.R_reads' HO104.out).2.1); (case side3 => exact GV.below hgv (hb_ HB.out)); rintro e w74 ⟨rfl, hb⟩; refine ⟨_, rfl, ?_⟩; have n0_ := Aside0.mk (Kd.R_below (rk_ HO104.out) hb); have n1_ := Aside0.mk (below_step (hb_ HB.out) hb); clear HO104; clear HB; have HO104 := n0_; have HB := n1_; clear n0_ n1_; (try clear hb); (try clear hb2); (try clear hk); (try clear hi)) | ((with_reducible refine gate_callee (f := 40) rfl ?_); refine goesL_ (some 26) rfl rfl Tryd.func40 (by kernel_rfl) rfl #[.string t108] rfl (by (try simp only [List.map_toArray, List.map_cons, List.map_nil]); first | done | rfl | (simp only [List.length_drop, List.length_take]; rfl)) ?_; (with_reducible refine (refs_Parse.calls k t108 t110 t111 _ ?side1 A4.out).mono ?_); (case side1 => exact GV.below hgv (hb_ HB.out)); rintro e w75 ⟨v112, rfl, ho0, hb⟩; refine ⟨_, rfl, ?_⟩; have n0_ := Aside0.mk (Kd.R_elder' (rk_ HO104.out) (Kd.R_base ho0) hb); have n1_ := Aside0.mk (Kd.R_lower (Kd.R_new' ho0 (Kd.R_lt (rk_ HO104.out))) (below_size (hb_ HB.out))); have n2_ := Aside0.mk (below_step (hb_ HB.out) hb); clear HO104; clear HB; have HO104 := n0_; have HO113 := n1_; have HB := n2_; clear n0_ n1_ n2_; (try clear hb); (try clear hb2); (try clear hk); (try clear hi); (try clear ho0)) | ((with_reducible refine gate_callee (f := 36) rfl ?_); refine goesL_ (some 30) rfl rfl Tryd.func36 (by kernel_rfl) rfl #[.slice Ao72 y102.length co72] rfl (by (try simp only [List.map_toArray, List.map_cons, List.map_nil]); first | done | rfl | (simp only [List.length_drop, List.length_take]; rfl)) ?_; (with_reducible refine (refs_Check.calls k _ _ y102 t114 _ ?side1 ?side2 ?side3 A5.out).mono ?_); (case side1 => repeat (first | exact (Kd.R_reads' HO104.out).2.2 | (with_reducible refine Kd.C_alloc ?_ _) | (with_reducible refine Kd.C_drewN ?_ _) | (with_reducible refine Kd.C_drew ?_))); (case side2 => exact (Kd.R_reads' HO104.out).2.1); (case side3 => exact GV.below hgv (hb_ HB.out)); rintro e w76 ⟨rfl, hb⟩; refine ⟨_, rfl, ?_⟩; have n0_ := Aside0.mk (Kd.R_below (rk_ HO104.out) hb); have n1_ := Aside0.mk (Kd.R_below (rk_ HO113.out) hb); have n2_ := Aside0.mk (below_step (hb_ HB.out) hb); clear HO104; clear HO113; clear HB; have HO104 := n0_; have HO113 := n1_; have HB := n2_; clear n0_ n1_ n2_; (try clear hb); (try clear hb2); (try clear hk); (try clear hi)) | (go_at_call 71; have _t := tk14_; (with_reducible refine (graftagelaw37_id.calls k 49 t115 _ A8.out).mono ?_); rintro e w77 ⟨rfl, hb⟩; have n0_ := Aside0.mk (Kd.R_below (rk_ HO104.out) hb); have n1_ := Aside0.mk (Kd.R_below (rk_ HO113.out) hb); have n2_ := Aside0.mk (below_step (hb_ HB.out) hb); clear HO104; clear HO113; clear HB; have HO104 := n0_; have HO113 := n1_; have HB := n2_; clear n0_ n1_ n2_; (try clear hb); (try clear hb2); (try clear hk); (try clear hi); clear tk14_))
     go_ret
     exact ⟨by first | rfl | (simp [errW_none, errW_some] <;> rfl) | (simp [*, errW_none, errW_some] <;> rfl) | (simp [ne_nil_bool]; done) | (simp [*, ne_nil_bool]; done), hb_ HB.out⟩
   ·rw [if_neg c9] at H
    have c9b0 : (t106.toList == t115.toList) = false := beq_eq_false_iff_ne.mpr c9
    have c9b1 : (t106.toList != t115.toList) = true := bne_iff_ne.mpr c9
    obtain rfl := Option.some.inj H
    go_enter Tryd.func33, Tryd.ntmps33
    have tk15_ : True := trivial
    have tk16_ : True := trivial
    go_wp2_with (first | (have _t := tk15_; (with_reducible refine gate_callee (f := 71) rfl ?_); refine goesL_ (some 10) rfl rfl Tryd.func71 (by kernel_rfl) rfl #[.int .u8 49] rfl (by (try simp only [List.map_toArray, List.map_cons, List.map_nil]); first | done | rfl | (simp only [List.length_drop, List.length_take]; rfl)) ?_; (with_reducible refine (graftagelaw37_id.calls k 49 t101 _ A1.out).mono ?_); rintro e w78 ⟨rfl, hb⟩; refine ⟨_, rfl, ?_⟩; have n0_ := Aside0.mk (below_step (hb_ HB.out) hb); clear HB; have HB := n0_; clear n0_; (try clear hb); (try clear hb2); (try clear hk); (try clear hi); clear tk15_) | ((with_reducible refine gate_dst (N := 12) rfl ?_); refine Kd.R_lit k55 _ 55 ?hg (N := 12) ?hd (xs := ([(⟨(⟨#[72, 69, 65, 68]⟩ : ByteArray), (⟨#[]⟩ : ByteArray), (⟨#[114, 101, 102, 115, 47, 104, 101, 97, 100, 115, 47, 109, 97, 105, 110]⟩ : ByteArray)⟩ : S55), (⟨(⟨#[114, 101, 102, 115, 47, 104, 101, 97, 100, 115, 47, 109, 97, 105, 110]⟩ : ByteArray), t101, (⟨#[]⟩ : ByteArray)⟩ : S55)] : List (S55))) (inner := [.string (⟨#[72, 69, 65, 68]⟩ : ByteArray), .string (⟨#[]⟩ : ByteArray), .string (⟨#[114, 101, 102, 115, 47, 104, 101, 97, 100, 115, 47, 109, 97, 105, 110]⟩ : ByteArray), .string (⟨#[114, 101, 102, 115, 47, 104, 101, 97, 100, 115, 47, 109, 97, 105, 110]⟩ : ByteArray), .string t101, .string (⟨#[]⟩ : ByteArray)]) (ok := fun _ => True) (okp := fun _ => True) ?hr ?hp (fun _ hk => hk) trivial (Below.refl _ _) (Nat.le_refl _) (by simp) ?_; (case hd => rfl); (case hg => rfl); (case hr => first | (go_simp; done) | (go_simp; rfl)); (case hp => exact (Reps.c3 (show Kd.M k55 _ _ _ (⟨(⟨#[72, 69, 65, 68]⟩ : ByteArray), (⟨#[]⟩ : ByteArray), (⟨#[114, 101, 102, 115, 47, 104, 101, 97, 100, 115, 47, 109, 97, 105, 110]⟩ : ByteArray)⟩ : S55) [.string (⟨#[72, 69, 65, 68]⟩ : ByteArray), .string (⟨#[]⟩ : ByteArray), .string (⟨#[114, 101, 102, 115, 47, 104, 101, 97, 100, 115, 47, 109, 97, 105, 110]⟩ : ByteArray)] from (k55_mkM _ _ _ (⟨(⟨#[72, 69, 65, 68]⟩ : ByteArray), (⟨#[]⟩ : ByteArray), (⟨#[114, 101, 102, 115, 47, 104, 101, 97, 100, 115, 47, 109, 97, 105, 110]⟩ : ByteArray)⟩ : S55) )) (Reps.c3 (show Kd.M k55 _ _ _ (⟨(⟨#[114, 101, 102, 115, 47, 104, 101, 97, 100, 115, 47, 109, 97, 105, 110]⟩ : ByteArray), t101, (⟨#[]⟩ : ByteArray)⟩ : S55) [.string (⟨#[114, 101, 102, 115, 47, 104, 101, 97, 100, 115, 47, 109, 97, 105, 110]⟩ : ByteArray), .string t101, .string (⟨#[]⟩ : ByteArray)] from (k55_mkM _ _ _ (⟨(⟨#[114, 101, 102, 115, 47, 104, 101, 97, 100, 115, 47, 109, 97, 105, 110]⟩ : ByteArray), t101, (⟨#[]⟩ : ByteArray)⟩ : S55) )) (Reps.none _ _)))); intro v103 w79 ho80 hb hg_ hnew_; clear hg_ hnew_; (first | rw [← Ny102.out] at ho80 | (simp only [Int.reduceToNat] at ho80; rw [← Ny102.out] at ho80)); have n0_ := Aside0.mk (Kd.R_lower ho80 (below_size (hb_ HB.out))); have n1_ := Aside0.mk (below_step (hb_ HB.out) hb); clear HB; have HO104 := n0_; have HB := n1_; clear n0_ n1_; clear hb ho80; obtain ⟨Ao81, co81, eo81⟩ := Kd.R_slice HO104.out; subst eo81) | ((with_reducible refine gate_callee (f := 43) rfl ?_); refine goesL_ (some 15) rfl rfl Tryd.func43 (by kernel_rfl) rfl #[.slice Ao81 y102.length co81, .string (⟨#[72, 69, 65, 68]⟩ : ByteArray)] rfl (by (try simp only [List.map_toArray, List.map_cons, List.map_nil]); first | done | rfl | (simp only [List.length_drop, List.length_take]; rfl)) ?_; (with_reducible refine (refs_Resolve.calls k _ _ y102 (⟨#[72, 69, 65, 68]⟩ : ByteArray) t105 t106 t107 _ ?side1 ?side2 ?side3 A2.out).mono ?_); (case side1 => repeat (first | exact (Kd.R_reads' HO104.out).2.2 | (with_reducible refine Kd.C_alloc ?_ _) | (with_reducible refine Kd.C_drewN ?_ _) | (with_reducible refine Kd.C_drew ?_))); (case side2 => exact (Kd.R_reads' HO104.out).2.1); (case side3 => exact GV.below hgv (hb_ HB.out)); rintro e w82 ⟨rfl, hb⟩; refine ⟨_, rfl, ?_⟩; have n0_ := Aside0.mk (Kd.R_below (rk_ HO104.out) hb); have n1_ := Aside0.mk (below_step (hb_ HB.out) hb); clear HO104; clear HB; have HO104 := n0_; have HB := n1_; clear n0_ n1_; (try clear hb); (try clear hb2); (try clear hk); (try clear hi)) | ((with_reducible refine gate_callee (f := 38) rfl ?_); refine goesL_ (some 21) rfl rfl Tryd.func38 (by kernel_rfl) rfl #[.slice Ao81 y102.length co81] rfl (by (try simp only [List.map_toArray, List.map_cons, List.map_nil]); first | done | rfl | (simp only [List.length_drop, List.length_take]; rfl)) ?_; (with_reducible refine (refs_Text.calls k _ _ y102 t108 t109 _ ?side1 ?side2 ?side3 A3.out).mono ?_); (case side1 => repeat (first | exact (Kd.R_reads' HO104.out).2.2 | (with_reducible refine Kd.C_alloc ?_ _) | (with_reducible refine Kd.C_drewN ?_ _) | (with_reducible refine Kd.C_drew ?_))); (case side2 => exact (Kd.R_reads' HO104.out).2.1); (case side3 => exact GV.below hgv (hb_ HB.out)); rintro e w83 ⟨rfl, hb⟩; refine ⟨_, rfl, ?_⟩; have n0_ := Aside0.mk (Kd.R_below (rk_ HO104.out) hb); have n1_ := Aside0.mk (below_step (hb_ HB.out) hb); clear HO104; clear HB; have HO104 := n0_; have HB := n1_; clear n0_ n1_; (try clear hb); (try clear hb2); (try clear hk); (try clear hi)) | ((with_reducible refine gate_callee (f := 40) rfl ?_); refine goesL_ (some 26) rfl rfl Tryd.func40 (by kernel_rfl) rfl #[.string t108] rfl (by (try simp only [List.map_toArray, List.map_cons, List.map_nil]); first | done | rfl | (simp only [List.length_drop, List.length_take]; rfl)) ?_; (with_reducible refine (refs_Parse.calls k t108 t110 t111 _ ?side1 A4.out).mono ?_); (case side1 => exact GV.below hgv (hb_ HB.out)); rintro e w84 ⟨v112, rfl, ho0, hb⟩; refine ⟨_, rfl, ?_⟩; have n0_ := Aside0.mk (Kd.R_elder' (rk_ HO104.out) (Kd.R_base ho0) hb); have n1_ := Aside0.mk (Kd.R_lower (Kd.R_new' ho0 (Kd.R_lt (rk_ HO104.out))) (below_size (hb_ HB.out))); have n2_ := Aside0.mk (below_step (hb_ HB.out) hb); clear HO104; clear HB; have HO104 := n0_; have HO113 := n1_; have HB := n2_; clear n0_ n1_ n2_; (try clear hb); (try clear hb2); (try clear hk); (try clear hi); (try clear ho0)) | ((with_reducible refine gate_callee (f := 36) rfl ?_); refine goesL_ (some 30) rfl rfl Tryd.func36 (by kernel_rfl) rfl #[.slice Ao81 y102.length co81] rfl (by (try simp only [List.map_toArray, List.map_cons, List.map_nil]); first | done | rfl | (simp only [List.length_drop, List.length_take]; rfl)) ?_; (with_reducible refine (refs_Check.calls k _ _ y102 t114 _ ?side1 ?side2 ?side3 A5.out).mono ?_); (case side1 => repeat (first | exact (Kd.R_reads' HO104.out).2.2 | (with_reducible refine Kd.C_alloc ?_ _) | (with_reducible refine Kd.C_drewN ?_ _) | (with_reducible refine Kd.C_drew ?_))); (case side2 => exact (Kd.R_reads' HO104.out).2.1); (case side3 => exact GV.below hgv (hb_ HB.out)); rintro e w85 ⟨rfl, hb⟩; refine ⟨_, rfl, ?_⟩; have n0_ := Aside0.mk (Kd.R_below (rk_ HO104.out) hb); have n1_ := Aside0.mk (Kd.R_below (rk_ HO113.out) hb); have n2_ := Aside0.mk (below_step (hb_ HB.out) hb); clear HO104; clear HO113; clear HB; have HO104 := n0_; have HO113 := n1_; have HB := n2_; clear n0_ n1_ n2_; (try clear hb); (try clear hb2); (try clear hk); (try clear hi)) | (go_at_call 71; have _t := tk16_; (with_reducible refine (graftagelaw37_id.calls k 49 t115 _ A8.out).mono ?_); rintro e w86 ⟨rfl, hb⟩; have n0_ := Aside0.mk (Kd.R_below (rk_ HO104.out) hb); have n1_ := Aside0.mk (Kd.R_below (rk_ HO113.out) hb); have n2_ := Aside0.mk (below_step (hb_ HB.out) hb); clear HO104; clear HO113; clear HB; have HO104 := n0_; have HO113 := n1_; have HB := n2_; clear n0_ n1_ n2_; (try clear hb); (try clear hb2); (try clear hk); (try clear hi); clear tk16_))
    go_ret
    exact ⟨by first | rfl | (simp [errW_none, errW_some] <;> rfl) | (simp [*, errW_none, errW_some] <;> rfl) | (simp [ne_nil_bool]; done) | (simp [*, ne_nil_bool]; done), hb_ HB.out⟩
  ·rw [if_neg c7] at H
   have c7b0 : (t105.toList == ([114, 101, 102, 115, 47, 104, 101, 97, 100, 115, 47, 109, 97, 105, 110] : List UInt8)) = false := beq_eq_false_iff_ne.mpr c7
   have c7b1 : (t105.toList != ([114, 101, 102, 115, 47, 104, 101, 97, 100, 115, 47, 109, 97, 105, 110] : List UInt8)) = true := bne_iff_ne.mpr c7
   obtain rfl := Option.some.inj H
   go_enter Tryd.func33, Tryd.ntmps33
   go_wp2_with (first | ((with_reducible refine gate_callee (f := 71) rfl ?_); refine goesL_ (some 10) rfl rfl Tryd.func71 (by kernel_rfl) rfl #[.int .u8 49] rfl (by (try simp only [List.map_toArray, List.map_cons, List.map_nil]); first | done | rfl | (simp only [List.length_drop, List.length_take]; rfl)) ?_; (with_reducible refine (graftagelaw37_id.calls k 49 t101 _ A1.out).mono ?_); rintro e w87 ⟨rfl, hb⟩; refine ⟨_, rfl, ?_⟩; have n0_ := Aside0.mk (below_step (hb_ HB.out) hb); clear HB; have HB := n0_; clear n0_; (try clear hb); (try clear hb2); (try clear hk); (try clear hi)) | ((with_reducible refine gate_dst (N := 12) rfl ?_); refine Kd.R_lit k55 _ 55 ?hg (N := 12) ?hd (xs := ([(⟨(⟨#[72, 69, 65, 68]⟩ : ByteArray), (⟨#[]⟩ : ByteArray), (⟨#[114, 101, 102, 115, 47, 104, 101, 97, 100, 115, 47, 109, 97, 105, 110]⟩ : ByteArray)⟩ : S55), (⟨(⟨#[114, 101, 102, 115, 47, 104, 101, 97, 100, 115, 47, 109, 97, 105, 110]⟩ : ByteArray), t101, (⟨#[]⟩ : ByteArray)⟩ : S55)] : List (S55))) (inner := [.string (⟨#[72, 69, 65, 68]⟩ : ByteArray), .string (⟨#[]⟩ : ByteArray), .string (⟨#[114, 101, 102, 115, 47, 104, 101, 97, 100, 115, 47, 109, 97, 105, 110]⟩ : ByteArray), .string (⟨#[114, 101, 102, 115, 47, 104, 101, 97, 100, 115, 47, 109, 97, 105, 110]⟩ : ByteArray), .string t101, .string (⟨#[]⟩ : ByteArray)]) (ok := fun _ => True) (okp := fun _ => True) ?hr ?hp (fun _ hk => hk) trivial (Below.refl _ _) (Nat.le_refl _) (by simp) ?_; (case hd => rfl); (case hg => rfl); (case hr => first | (go_simp; done) | (go_simp; rfl)); (case hp => exact (Reps.c3 (show Kd.M k55 _ _ _ (⟨(⟨#[72, 69, 65, 68]⟩ : ByteArray), (⟨#[]⟩ : ByteArray), (⟨#[114, 101, 102, 115, 47, 104, 101, 97, 100, 115, 47, 109, 97, 105, 110]⟩ : ByteArray)⟩ : S55) [.string (⟨#[72, 69, 65, 68]⟩ : ByteArray), .string (⟨#[]⟩ : ByteArray), .string (⟨#[114, 101, 102, 115, 47, 104, 101, 97, 100, 115, 47, 109, 97, 105, 110]⟩ : ByteArray)] from (k55_mkM _ _ _ (⟨(⟨#[72, 69, 65, 68]⟩ : ByteArray), (⟨#[]⟩ : ByteArray), (⟨#[114, 101, 102, 115, 47, 104, 101, 97, 100, 115, 47, 109, 97, 105, 110]⟩ : ByteArray)⟩ : S55) )) (Reps.c3 (show Kd.M k55 _ _ _ (⟨(⟨#[114, 101, 102, 115, 47, 104, 101, 97, 100, 115, 47, 109, 97, 105, 110]⟩ : ByteArray), t101, (⟨#[]⟩ : ByteArray)⟩ : S55) [.string (⟨#[114, 101, 102, 115, 47, 104, 101, 97, 100, 115, 47, 109, 97, 105, 110]⟩ : ByteArray), .string t101, .string (⟨#[]⟩ : ByteArray)] from (k55_mkM _ _ _ (⟨(⟨#[114, 101, 102, 115, 47, 104, 101, 97, 100, 115, 47, 109, 97, 105, 110]⟩ : ByteArray), t101, (⟨#[]⟩ : ByteArray)⟩ : S55) )) (Reps.none _ _)))); intro v103 w88 ho89 hb hg_ hnew_; clear hg_ hnew_; (first | rw [← Ny102.out] at ho89 | (simp only [Int.reduceToNat] at ho89; rw [← Ny102.out] at ho89)); have n0_ := Aside0.mk (Kd.R_lower ho89 (below_size (hb_ HB.out))); have n1_ := Aside0.mk (below_step (hb_ HB.out) hb); clear HB; have HO104 := n0_; have HB := n1_; clear n0_ n1_; clear hb ho89; obtain ⟨Ao90, co90, eo90⟩ := Kd.R_slice HO104.out; subst eo90) | ((with_reducible refine gate_callee (f := 43) rfl ?_); refine goesL_ (some 15) rfl rfl Tryd.func43 (by kernel_rfl) rfl #[.slice Ao90 y102.length co90, .string (⟨#[72, 69, 65, 68]⟩ : ByteArray)] rfl (by (try simp only [List.map_toArray, List.map_cons, List.map_nil]); first | done | rfl | (simp only [List.length_drop, List.length_take]; rfl)) ?_; (with_reducible refine (refs_Resolve.calls k _ _ y102 (⟨#[72, 69, 65, 68]⟩ : ByteArray) t105 t106 t107 _ ?side1 ?side2 ?side3 A2.out).mono ?_); (case side1 => repeat (first | exact (Kd.R_reads' HO104.out).2.2 | (with_reducible refine Kd.C_alloc ?_ _) | (with_reducible refine Kd.C_drewN ?_ _) | (with_reducible refine Kd.C_drew ?_))); (case side2 => exact (Kd.R_reads' HO104.out).2.1); (case side3 => exact GV.below hgv (hb_ HB.out)); rintro e w91 ⟨rfl, hb⟩; refine ⟨_, rfl, ?_⟩; have n0_ := Aside0.mk (Kd.R_below (rk_ HO104.out) hb); have n1_ := Aside0.mk (below_step (hb_ HB.out) hb); clear HO104; clear HB; have HO104 := n0_; have HB := n1_; clear n0_ n1_; (try clear hb); (try clear hb2); (try clear hk); (try clear hi)) | ((with_reducible refine gate_callee (f := 38) rfl ?_); refine goesL_ (some 21) rfl rfl Tryd.func38 (by kernel_rfl) rfl #[.slice Ao90 y102.length co90] rfl (by (try simp only [List.map_toArray, List.map_cons, List.map_nil]); first | done | rfl | (simp only [List.length_drop, List.length_take]; rfl)) ?_; (with_reducible refine (refs_Text.calls k _ _ y102 t108 t109 _ ?side1 ?side2 ?side3 A3.out).mono ?_); (case side1 => repeat (first | exact (Kd.R_reads' HO104.out).2.2 | (with_reducible refine Kd.C_alloc ?_ _) | (with_reducible refine Kd.C_drewN ?_ _) | (with_reducible refine Kd.C_drew ?_))); (case side2 => exact (Kd.R_reads' HO104.out).2.1); (case side3 => exact GV.below hgv (hb_ HB.out)); rintro e w92 ⟨rfl, hb⟩; refine ⟨_, rfl, ?_⟩; have n0_ := Aside0.mk (Kd.R_below (rk_ HO104.out) hb); have n1_ := Aside0.mk (below_step (hb_ HB.out) hb); clear HO104; clear HB; have HO104 := n0_; have HB := n1_; clear n0_ n1_; (try clear hb); (try clear hb2); (try clear hk); (try clear hi)) | ((with_reducible refine gate_callee (f := 40) rfl ?_); refine goesL_ (some 26) rfl rfl Tryd.func40 (by kernel_rfl) rfl #[.string t108] rfl (by (try simp only [List.map_toArray, List.map_cons, List.map_nil]); first | done | rfl | (simp only [List.length_drop, List.length_take]; rfl)) ?_; (with_reducible refine (refs_Parse.calls k t108 t110 t111 _ ?side1 A4.out).mono ?_); (case side1 => exact GV.below hgv (hb_ HB.out)); rintro e w93 ⟨v112, rfl, ho0, hb⟩; refine ⟨_, rfl, ?_⟩; have n0_ := Aside0.mk (Kd.R_elder' (rk_ HO104.out) (Kd.R_base ho0) hb); have n1_ := Aside0.mk (Kd.R_lower (Kd.R_new' ho0 (Kd.R_lt (rk_ HO104.out))) (below_size (hb_ HB.out))); have n2_ := Aside0.mk (below_step (hb_ HB.out) hb); clear HO104; clear HB; have HO104 := n0_; have HO113 := n1_; have HB := n2_; clear n0_ n1_ n2_; (try clear hb); (try clear hb2); (try clear hk); (try clear hi); (try clear ho0)) | ((with_reducible refine gate_callee (f := 36) rfl ?_); refine goesL_ (some 30) rfl rfl Tryd.func36 (by kernel_rfl) rfl #[.slice Ao90 y102.length co90] rfl (by (try simp only [List.map_toArray, List.map_cons, List.map_nil]); first | done | rfl | (simp only [List.length_drop, List.length_take]; rfl)) ?_; (with_reducible refine (refs_Check.calls k _ _ y102 t114 _ ?side1 ?side2 ?side3 A5.out).mono ?_); (case side1 => repeat (first | exact (Kd.R_reads' HO104.out).2.2 | (with_reducible refine Kd.C_alloc ?_ _) | (with_reducible refine Kd.C_drewN ?_ _) | (with_reducible refine Kd.C_drew ?_))); (case side2 => exact (Kd.R_reads' HO104.out).2.1); (case side3 => exact GV.below hgv (hb_ HB.out)); rintro e w94 ⟨rfl, hb⟩; refine ⟨_, rfl, ?_⟩; have n0_ := Aside0.mk (Kd.R_below (rk_ HO104.out) hb); have n1_ := Aside0.mk (Kd.R_below (rk_ HO113.out) hb); have n2_ := Aside0.mk (below_step (hb_ HB.out) hb); clear HO104; clear HO113; clear HB; have HO104 := n0_; have HO113 := n1_; have HB := n2_; clear n0_ n1_ n2_; (try clear hb); (try clear hb2); (try clear hk); (try clear hi)))
   go_ret
   exact ⟨by first | rfl | (simp [errW_none, errW_some] <;> rfl) | (simp [*, errW_none, errW_some] <;> rfl) | (simp [ne_nil_bool]; done) | (simp [*, ne_nil_bool]; done), hb_ HB.out⟩
 ·rw [if_neg c6] at H
  have c6b0 : (t114 == 0) = false := beq_eq_false_iff_ne.mpr c6
  have c6b1 : (t114 != 0) = true := bne_iff_ne.mpr c6
  obtain rfl := Option.some.inj H
  go_enter Tryd.func33, Tryd.ntmps33
  go_wp2_with (first | ((with_reducible refine gate_callee (f := 71) rfl ?_); refine goesL_ (some 10) rfl rfl Tryd.func71 (by kernel_rfl) rfl #[.int .u8 49] rfl (by (try simp only [List.map_toArray, List.map_cons, List.map_nil]); first | done | rfl | (simp only [List.length_drop, List.length_take]; rfl)) ?_; (with_reducible refine (graftagelaw37_id.calls k 49 t101 _ A1.out).mono ?_); rintro e w95 ⟨rfl, hb⟩; refine ⟨_, rfl, ?_⟩; have n0_ := Aside0.mk (below_step (hb_ HB.out) hb); clear HB; have HB := n0_; clear n0_; (try clear hb); (try clear hb2); (try clear hk); (try clear hi)) | ((with_reducible refine gate_dst (N := 12) rfl ?_); refine Kd.R_lit k55 _ 55 ?hg (N := 12) ?hd (xs := ([(⟨(⟨#[72, 69, 65, 68]⟩ : ByteArray), (⟨#[]⟩ : ByteArray), (⟨#[114, 101, 102, 115, 47, 104, 101, 97, 100, 115, 47, 109, 97, 105, 110]⟩ : ByteArray)⟩ : S55), (⟨(⟨#[114, 101, 102, 115, 47, 104, 101, 97, 100, 115, 47, 109, 97, 105, 110]⟩ : ByteArray), t101, (⟨#[]⟩ : ByteArray)⟩ : S55)] : List (S55))) (inner := [.string (⟨#[72, 69, 65, 68]⟩ : ByteArray), .string (⟨#[]⟩ : ByteArray), .string (⟨#[114, 101, 102, 115, 47, 104, 101, 97, 100, 115, 47, 109, 97, 105, 110]⟩ : ByteArray), .string (⟨#[114, 101, 102, 115, 47, 104, 101, 97, 100, 115, 47, 109, 97, 105, 110]⟩ : ByteArray), .string t101, .string (⟨#[]⟩ : ByteArray)]) (ok := fun _ => True) (okp := fun _ => True) ?hr ?hp (fun _ hk => hk) trivial (Below.refl _ _) (Nat.le_refl _) (by simp) ?_; (case hd => rfl); (case hg => rfl); (case hr => first | (go_simp; done) | (go_simp; rfl)); (case hp => exact (Reps.c3 (show Kd.M k55 _ _ _ (⟨(⟨#[72, 69, 65, 68]⟩ : ByteArray), (⟨#[]⟩ : ByteArray), (⟨#[114, 101, 102, 115, 47, 104, 101, 97, 100, 115, 47, 109, 97, 105, 110]⟩ : ByteArray)⟩ : S55) [.string (⟨#[72, 69, 65, 68]⟩ : ByteArray), .string (⟨#[]⟩ : ByteArray), .string (⟨#[114, 101, 102, 115, 47, 104, 101, 97, 100, 115, 47, 109, 97, 105, 110]⟩ : ByteArray)] from (k55_mkM _ _ _ (⟨(⟨#[72, 69, 65, 68]⟩ : ByteArray), (⟨#[]⟩ : ByteArray), (⟨#[114, 101, 102, 115, 47, 104, 101, 97, 100, 115, 47, 109, 97, 105, 110]⟩ : ByteArray)⟩ : S55) )) (Reps.c3 (show Kd.M k55 _ _ _ (⟨(⟨#[114, 101, 102, 115, 47, 104, 101, 97, 100, 115, 47, 109, 97, 105, 110]⟩ : ByteArray), t101, (⟨#[]⟩ : ByteArray)⟩ : S55) [.string (⟨#[114, 101, 102, 115, 47, 104, 101, 97, 100, 115, 47, 109, 97, 105, 110]⟩ : ByteArray), .string t101, .string (⟨#[]⟩ : ByteArray)] from (k55_mkM _ _ _ (⟨(⟨#[114, 101, 102, 115, 47, 104, 101, 97, 100, 115, 47, 109, 97, 105, 110]⟩ : ByteArray), t101, (⟨#[]⟩ : ByteArray)⟩ : S55) )) (Reps.none _ _)))); intro v103 w96 ho97 hb hg_ hnew_; clear hg_ hnew_; (first | rw [← Ny102.out] at ho97 | (simp only [Int.reduceToNat] at ho97; rw [← Ny102.out] at ho97)); have n0_ := Aside0.mk (Kd.R_lower ho97 (below_size (hb_ HB.out))); have n1_ := Aside0.mk (below_step (hb_ HB.out) hb); clear HB; have HO104 := n0_; have HB := n1_; clear n0_ n1_; clear hb ho97; obtain ⟨Ao98, co98, eo98⟩ := Kd.R_slice HO104.out; subst eo98) | ((with_reducible refine gate_callee (f := 43) rfl ?_); refine goesL_ (some 15) rfl rfl Tryd.func43 (by kernel_rfl) rfl #[.slice Ao98 y102.length co98, .string (⟨#[72, 69, 65, 68]⟩ : ByteArray)] rfl (by (try simp only [List.map_toArray, List.map_cons, List.map_nil]); first | done | rfl | (simp only [List.length_drop, List.length_take]; rfl)) ?_; (with_reducible refine (refs_Resolve.calls k _ _ y102 (⟨#[72, 69, 65, 68]⟩ : ByteArray) t105 t106 t107 _ ?side1 ?side2 ?side3 A2.out).mono ?_); (case side1 => repeat (first | exact (Kd.R_reads' HO104.out).2.2 | (with_reducible refine Kd.C_alloc ?_ _) | (with_reducible refine Kd.C_drewN ?_ _) | (with_reducible refine Kd.C_drew ?_))); (case side2 => exact (Kd.R_reads' HO104.out).2.1); (case side3 => exact GV.below hgv (hb_ HB.out)); rintro e w99 ⟨rfl, hb⟩; refine ⟨_, rfl, ?_⟩; have n0_ := Aside0.mk (Kd.R_below (rk_ HO104.out) hb); have n1_ := Aside0.mk (below_step (hb_ HB.out) hb); clear HO104; clear HB; have HO104 := n0_; have HB := n1_; clear n0_ n1_; (try clear hb); (try clear hb2); (try clear hk); (try clear hi)) | ((with_reducible refine gate_callee (f := 38) rfl ?_); refine goesL_ (some 21) rfl rfl Tryd.func38 (by kernel_rfl) rfl #[.slice Ao98 y102.length co98] rfl (by (try simp only [List.map_toArray, List.map_cons, List.map_nil]); first | done | rfl | (simp only [List.length_drop, List.length_take]; rfl)) ?_; (with_reducible refine (refs_Text.calls k _ _ y102 t108 t109 _ ?side1 ?side2 ?side3 A3.out).mono ?_); (case side1 => repeat (first | exact (Kd.R_reads' HO104.out).2.2 | (with_reducible refine Kd.C_alloc ?_ _) | (with_reducible refine Kd.C_drewN ?_ _) | (with_reducible refine Kd.C_drew ?_))); (case side2 => exact (Kd.R_reads' HO104.out).2.1); (case side3 => exact GV.below hgv (hb_ HB.out)); rintro e w100 ⟨rfl, hb⟩; refine ⟨_, rfl, ?_⟩; have n0_ := Aside0.mk (Kd.R_below (rk_ HO104.out) hb); have n1_ := Aside0.mk (below_step (hb_ HB.out) hb); clear HO104; clear HB; have HO104 := n0_; have HB := n1_; clear n0_ n1_; (try clear hb); (try clear hb2); (try clear hk); (try clear hi)) | ((with_reducible refine gate_callee (f := 40) rfl ?_); refine goesL_ (some 26) rfl rfl Tryd.func40 (by kernel_rfl) rfl #[.string t108] rfl (by (try simp only [List.map_toArray, List.map_cons, List.map_nil]); first | done | rfl | (simp only [List.length_drop, List.length_take]; rfl)) ?_; (with_reducible refine (refs_Parse.calls k t108 t110 t111 _ ?side1 A4.out).mono ?_); (case side1 => exact GV.below hgv (hb_ HB.out)); rintro e w101 ⟨v112, rfl, ho0, hb⟩; refine ⟨_, rfl, ?_⟩; have n0_ := Aside0.mk (Kd.R_elder' (rk_ HO104.out) (Kd.R_base ho0) hb); have n1_ := Aside0.mk (Kd.R_lower (Kd.R_new' ho0 (Kd.R_lt (rk_ HO104.out))) (below_size (hb_ HB.out))); have n2_ := Aside0.mk (below_step (hb_ HB.out) hb); clear HO104; clear HB; have HO104 := n0_; have HO113 := n1_; have HB := n2_; clear n0_ n1_ n2_; (try clear hb); (try clear hb2); (try clear hk); (try clear hi); (try clear ho0)) | ((with_reducible refine gate_callee (f := 36) rfl ?_); refine goesL_ (some 30) rfl rfl Tryd.func36 (by kernel_rfl) rfl #[.slice Ao98 y102.length co98] rfl (by (try simp only [List.map_toArray, List.map_cons, List.map_nil]); first | done | rfl | (simp only [List.length_drop, List.length_take]; rfl)) ?_; (with_reducible refine (refs_Check.calls k _ _ y102 t114 _ ?side1 ?side2 ?side3 A5.out).mono ?_); (case side1 => repeat (first | exact (Kd.R_reads' HO104.out).2.2 | (with_reducible refine Kd.C_alloc ?_ _) | (with_reducible refine Kd.C_drewN ?_ _) | (with_reducible refine Kd.C_drew ?_))); (case side2 => exact (Kd.R_reads' HO104.out).2.1); (case side3 => exact GV.below hgv (hb_ HB.out)); rintro e w102 ⟨rfl, hb⟩; refine ⟨_, rfl, ?_⟩; have n0_ := Aside0.mk (Kd.R_below (rk_ HO104.out) hb); have n1_ := Aside0.mk (Kd.R_below (rk_ HO113.out) hb); have n2_ := Aside0.mk (below_step (hb_ HB.out) hb); clear HO104; clear HO113; clear HB; have HO104 := n0_; have HO113 := n1_; have HB := n2_; clear n0_ n1_ n2_; (try clear hb); (try clear hb2); (try clear hk); (try clear hi)))
  go_ret
  exact ⟨by first | rfl | (simp [errW_none, errW_some] <;> rfl) | (simp [*, errW_none, errW_some] <;> rfl) | (simp [ne_nil_bool]; done) | (simp [*, ne_nil_bool]; done), hb_ HB.out⟩

end Go.Proofs.YtccbpbdfihnlgaaDoor.Q


/- refs.Full: by hand (its heads are an array). -/
namespace Go.Proofs.YtccbpbdfihnlgaaDoor.Q
open Go.RowKit Go.Proofs.YtccbpbdfihnlgaaDoorW.PrintWords Go.Proofs.YtccbpbdfihnlgaaDoorW.PrintLast Go.Proofs.YtccbpbdfihnlgaaDoorW.PrintMore
def headF : Nat → ByteArray
  | 0 => ⟨#[]⟩
  | 1 => ⟨#[114, 101, 102, 115, 47]⟩
  | 2 => ⟨#[114, 101, 102, 115, 47, 116, 97, 103, 115, 47]⟩
  | 3 => ⟨#[114, 101, 102, 115, 47, 104, 101, 97, 100, 115, 47]⟩
  | _ => ⟨#[114, 101, 102, 115, 47, 114, 101, 109, 111, 116, 101, 115, 47]⟩
def refs_Full.l0 (k : Nat) (l0 : List (S55)) (a1 : ByteArray) : Nat → Nat → Option (ByteArray × Int)
  | 0, _ => some (⟨#[]⟩, 5)
  | d + 1, i => if a1.size ≤ 9223372036854775000 then ((refs_Find.f k l0 (headF i ++ a1)).bind fun q => if q.2.2.2 = true then some (headF i ++ a1, 0) else refs_Full.l0 k l0 a1 d (i + 1)) else none
def refs_Full.f (k : Nat) (l0 : List (S55)) (a1 : ByteArray) : Option (ByteArray × Int) := refs_Full.l0 k l0 a1 5 0
theorem headF_size (i : Nat) : (headF i).size ≤ 13 := by
  unfold headF
  split <;> decide
def headsV : Value := .agg #[.string ⟨#[]⟩, .string ⟨#[114, 101, 102, 115, 47]⟩, .string ⟨#[114, 101, 102, 115, 47, 116, 97, 103, 115, 47]⟩, .string ⟨#[114, 101, 102, 115, 47, 104, 101, 97, 100, 115, 47]⟩, .string ⟨#[114, 101, 102, 115, 47, 114, 101, 109, 111, 116, 101, 115, 47]⟩]
theorem heads_index (x : Int) (h0 : 0 ≤ x) (h5 : x < 5) (W : World) : (Instr.index 101 headsV (.int .i64 x)).run Tryd.prog W = .ok (.string (headF x.toNat)) W := by
  have hu := Tryd.underlying101
  have hz := Tryd.sizeOf9
  have ha := Tryd.isAgg9
  have : x = 0 ∨ x = 1 ∨ x = 2 ∨ x = 3 ∨ x = 4 := by omega
  rcases this with rfl | rfl | rfl | rfl | rfl <;> simp [Instr.index, headsV, headF, asIntOf, run_underlying hu, hz, Go.part, ha]
set_option maxHeartbeats 8000000 in
set_option maxRecDepth 100000 in
theorem refs_Full.calls (k : Nat) (A0 : Option Addr) (c0 : Nat) (l0 : List (S55)) (a1 : ByteArray) (r1 : ByteArray) (r2 : Int) (w : World) (hr0 : Kd.C k55 w A0 l0.length l0) (hc0 : l0.length ≤ c0) (h : refs_Full.f k l0 a1 = some (r1, r2)) :
    Calls Tryd.prog 45 #[.slice A0 l0.length c0, .string a1] w fun e w' => e = .returned (.tuple #[.string r1, .int .i64 r2]) ∧ Below w.heap.size w w' := by
  have hu55 := Tryd.underlying55
  have HR0 := Aside0.mk hr0
  have HC0 := Aside0.mk hc0
  have H' := Aside0.mk (show refs_Full.l0 k l0 a1 5 0 = some (r1, r2) from h)
  clear hr0 hc0 h
  go_enter Tryd.func45, Tryd.ntmps45
  go_wp2
  go_loopg [11] 5 (fun g v11 wr => ∃ (i : Nat) (x : Int), v11 = .int .i64 x ∧ x = (i : Int) ∧ i + g = 5 ∧ Aside0 (Below w.heap.size w wr) ∧ Aside0 (refs_Full.l0 k l0 a1 g i = some (r1, r2)))
  case atStart => exact ⟨0, 0, rfl, rfl, rfl, ⟨Below.refl _ _⟩, H'⟩
  case round =>
    clear H'
    obtain ⟨i, x, rfl, hxi, hig, HB, H⟩ := hrel
    cases gk with
    | zero =>
      have h5 : ¬ (x < 5) := by omega
      have H0 := H.out
      rw [refs_Full.l0] at H0
      obtain ⟨rfl, rfl⟩ := Prod.mk.inj (Option.some.inj H0)
      clear H H0
      go_wp2
      go_ret2
      exact ⟨rfl, HB.out⟩
    | succ g =>
      have H0 := H.out
      rw [refs_Full.l0] at H0
      by_cases hz : a1.size ≤ 9223372036854775000
      case neg => rw [if_neg hz] at H0; cases H0
      rw [if_pos hz] at H0
      obtain ⟨⟨q1, q2, q3, b⟩, hf, H1⟩ := Option.bind_eq_some_iff.1 H0
      have HF := Aside0.mk hf
      have HH := Aside0.mk H1
      clear H H0 H1 hf
      have hsz := headF_size i
      have h5 : x < 5 := by omega
      have hx0 := heads_index x (by omega) h5
      rw [show x.toNat = i by omega] at hx0
      unfold headsV at hx0
      have hw1 : IntKind.i64.wrap (x + 1) = x + 1 := by rw [IntKind.wrap_i64]; omega
      have HX := Aside0.mk (show x = (i : Int) ∧ i + (g + 1) = 5 from ⟨hxi, hig⟩)
      obtain ⟨hd, hhd⟩ : ∃ q, q = headF i := ⟨_, rfl⟩
      have HHD := Aside0.mk hhd
      rw [← hhd] at hx0 HF hsz
      have hcat : hd.size + a1.size ≤ 9223372036854775807 := by omega
      clear hxi hig hhd hsz hz
      cases b with
      | true =>
        have H1 := HH.out
        simp only [if_true] at H1
        obtain ⟨e1, e2⟩ := Prod.mk.inj (Option.some.inj H1)
        rw [← HHD.out] at e1
        subst e1 e2
        clear H1 HH
        go_wp2_with (first | (go_at_call 44; (with_reducible refine (refs_Find.calls k A0 c0 l0 _ q1 q2 q3 true _ (Kd.C_below HR0.out HB.out) HC0.out HF.out).mono ?_); rintro e w5 ⟨rfl, hb⟩; have HB5 := Aside0.mk (below_step HB.out hb); clear hb) | ((with_reducible refine gate_dst (N := 8) rfl ?_); refine box_event ?hg (N := 8) ?hd (cs := #[.string ⟨#[]⟩, .string ⟨#[]⟩, .string ⟨#[]⟩]) (t := 55) ?hr ?_; (case hd => rfl); (case hg => rfl); (case hr => first | (go_simp; done) | (go_simp; rfl)); intro gb hg w6 hbox hb2; have HB6 := Aside0.mk (below_step HB5.out hb2); have GE6 := Aside0.mk (show w.heap.size ≤ gb by rw [hg]; exact HB5.out.size); have BK6 := Aside0.mk hbox; clear hb2 hbox hg; have hcz0 : w6.cell? ⟨gb, 0, none⟩ = some (.string (⟨#[]⟩ : ByteArray)) := (blk_cell BK6.out 0).trans rfl; have hcz1 : w6.cell? ⟨gb, 1, none⟩ = some (.string (⟨#[]⟩ : ByteArray)) := (blk_cell BK6.out 1).trans rfl; have hcz2 : w6.cell? ⟨gb, 2, none⟩ = some (.string (⟨#[]⟩ : ByteArray)) := (blk_cell BK6.out 2).trans rfl; have hfz0 := blk_frozen BK6.out 0; have hfz1 := blk_frozen BK6.out 1; have hfz2 := blk_frozen BK6.out 2))
        go_ret2
        exact ⟨rfl, by repeat (first | exact HB6.out | refine below_set ?_ GE6.out)⟩
      | false =>
        have H1 := HH.out
        simp only [Bool.false_eq_true, if_false] at H1
        have HN := Aside0.mk H1
        clear H1 HH
        go_wp2_with (first | (go_at_call 44; (with_reducible refine (refs_Find.calls k A0 c0 l0 _ q1 q2 q3 false _ (Kd.C_below HR0.out HB.out) HC0.out HF.out).mono ?_); rintro e w5 ⟨rfl, hb⟩; have HB5 := Aside0.mk (below_step HB.out hb); clear hb) | ((with_reducible refine gate_dst (N := 8) rfl ?_); refine box_event ?hg (N := 8) ?hd (cs := #[.string ⟨#[]⟩, .string ⟨#[]⟩, .string ⟨#[]⟩]) (t := 55) ?hr ?_; (case hd => rfl); (case hg => rfl); (case hr => first | (go_simp; done) | (go_simp; rfl)); intro gb hg w6 hbox hb2; have HB6 := Aside0.mk (below_step HB5.out hb2); have GE6 := Aside0.mk (show w.heap.size ≤ gb by rw [hg]; exact HB5.out.size); have BK6 := Aside0.mk hbox; clear hb2 hbox hg; have hcz0 : w6.cell? ⟨gb, 0, none⟩ = some (.string (⟨#[]⟩ : ByteArray)) := (blk_cell BK6.out 0).trans rfl; have hcz1 : w6.cell? ⟨gb, 1, none⟩ = some (.string (⟨#[]⟩ : ByteArray)) := (blk_cell BK6.out 1).trans rfl; have hcz2 : w6.cell? ⟨gb, 2, none⟩ = some (.string (⟨#[]⟩ : ByteArray)) := (blk_cell BK6.out 2).trans rfl; have hfz0 := blk_frozen BK6.out 0; have hfz1 := blk_frozen BK6.out 1; have hfz2 := blk_frozen BK6.out 2))
        go_roundg g
        case measure => omega
        case rel => exact ⟨i + 1, x + 1, rfl, by have := HX.out; omega, by have := HX.out; omega, ⟨by repeat (first | exact HB6.out | refine below_set ?_ GE6.out)⟩, HN⟩
end Go.Proofs.YtccbpbdfihnlgaaDoor.Q


/- Contracts of Go functions as calls of plain Lean functions, written by a program of this session over the kit's print. -/
namespace Go.Proofs.YtccbpbdfihnlgaaDoor.Q
open Go.RowKit Go.Proofs.YtccbpbdfihnlgaaDoorW.PrintWords Go.Proofs.YtccbpbdfihnlgaaDoorW.PrintLast Go.Proofs.YtccbpbdfihnlgaaDoorW.PrintMore
attribute [local go_sem] max2_int min2_int max_two min_two max_three min_three max_four min_four   -- for this text's walks alone

/-! ### graftagelaw37_RefsEnds: function 12 -/
mutual
def graftagelaw37_RefsEnds.j0 : Nat → List (S55) → ByteArray → Bool → Option (Bool)
  | 0, _, _, _ => none
  | k + 1, x0, x1, x26 => if x26 = true then ((graftagelaw37_lives.f k).bind fun t103 => (some t103)) else ((refs_Resolve.f k x0 x1).bind fun bt104 => (if bt104.2.2 = 0 then ((refs_Find.f k x0 bt104.1).bind fun bt107 => ((refs_Name.f k bt104.1).bind fun t112 => (if t112 = true then (if (bt107.2.2.2 != (bt104.2.1.toList != ([] : List UInt8))) = true then (graftagelaw37_RefsEnds.j1 k x0 x1 true) else (if bt107.2.2.1.toList = ([] : List UInt8) then (graftagelaw37_RefsEnds.j1 k x0 x1 (bt107.2.1.toList != bt104.2.1.toList)) else (graftagelaw37_RefsEnds.j1 k x0 x1 true))) else (graftagelaw37_RefsEnds.j1 k x0 x1 true)))) else ((refs_Full.f k x0 x1).bind fun bt121 => ((refs_Find.f k x0 bt121.1).bind fun bt123 => (if ((bt121.2 == 0) == bt123.2.2.2) = true then ((graftagelaw37_lives.f k).bind fun t128 => (some t128)) else (some false))))))
def graftagelaw37_RefsEnds.j1 : Nat → List (S55) → ByteArray → Bool → Option (Bool)
  | 0, _, _, _ => none
  | k + 1, x0, x1, x62 => if x62 = true then (some false) else ((refs_Full.f k x0 x1).bind fun bt113 => ((refs_Find.f k x0 bt113.1).bind fun bt115 => (if ((bt113.2 == 0) == bt115.2.2.2) = true then ((graftagelaw37_lives.f k).bind fun t120 => (some t120)) else (some false))))
end
def graftagelaw37_RefsEnds.f (k : Nat) (l0 : List (S55)) (a1 : ByteArray) : Option (Bool) := (graftageref37_Few.f k l0).bind fun t101 => (if t101 = true then (if (a1.size : Int) > 300 then (graftagelaw37_RefsEnds.j0 k l0 a1 true) else ((refs_Check.f k l0).bind fun t102 => (graftagelaw37_RefsEnds.j0 k l0 a1 (t102 != 0)))) else (graftagelaw37_RefsEnds.j0 k l0 a1 true))
set_option maxHeartbeats 8000000 in
set_option maxRecDepth 100000 in
theorem graftagelaw37_RefsEnds.calls (k : Nat) (A0 : Option Addr) (c0 : Nat) (l0 : List (S55)) (a1 : ByteArray) (r : Bool) (w : World) (hr0 : Kd.C k55 w A0 l0.length l0) (hc0 : l0.length ≤ c0) (hgv : GV w) (h : graftagelaw37_RefsEnds.f k l0 a1 = some r) :
    Calls Tryd.prog 12 #[.slice A0 l0.length c0, .string a1] w fun e w' => e = .returned (.bool r) ∧ Below w.heap.size w w' := by
  have hu55 := Tryd.underlying55
  have HR0 := Aside0.mk hr0
  have HC0 := Aside0.mk hc0
  clear hr0 hc0
  have HB := Aside0.mk (Below.refl w.heap.size w)
  have H : ((graftageref37_Few.f k l0).bind fun t101 => (if t101 = true then (if (a1.size : Int) > 300 then (graftagelaw37_RefsEnds.j0 k l0 a1 true) else ((refs_Check.f k l0).bind fun t102 => (graftagelaw37_RefsEnds.j0 k l0 a1 (t102 != 0)))) else (graftagelaw37_RefsEnds.j0 k l0 a1 true))) = some r := h
  clear h
  have HC3 := Aside0.mk H
  clear H
  go_enter Tryd.func12, Tryd.ntmps12
  go_upto_region 1 with (fail)
  go_cut [26] (fun v26 wc => ∃ (kq : Nat) (x26_2 : Bool), v26 = .bool x26_2 ∧ Aside0 (graftagelaw37_RefsEnds.j0 kq l0 a1 x26_2 = some r) ∧ Aside0 (kq ≤ k) ∧ Aside0 (Below w.heap.size w wc))
  case first =>
    have H := HC3.out
    clear HC3
    replace H := Option.bind_eq_some_iff.mp H
    obtain ⟨t101, A40, H⟩ := H
    replace H : (if t101 = true then (if (a1.size : Int) > 300 then (graftagelaw37_RefsEnds.j0 k l0 a1 true) else ((refs_Check.f k l0).bind fun t102 => (graftagelaw37_RefsEnds.j0 k l0 a1 (t102 != 0)))) else (graftagelaw37_RefsEnds.j0 k l0 a1 true)) = some r := H
    have A4 := Aside0.mk A40
    clear A40
    by_cases c5 : t101 = true
    · subst c5
      have H1 : (if (a1.size : Int) > 300 then (graftagelaw37_RefsEnds.j0 k l0 a1 true) else ((refs_Check.f k l0).bind fun t102 => (graftagelaw37_RefsEnds.j0 k l0 a1 (t102 != 0)))) = some r := by rw [if_pos rfl] at H; exact H
      clear H
      have H := H1
      clear H1
      by_cases c6 : (a1.size : Int) > 300
      · rw [if_pos c6] at H
        have c6b0 : decide (300 < (a1.size : Int)) = true := decide_eq_true c6
        have c6b1 : decide (300 < a1.size) = true := decide_eq_true (by omega)
        clear c6
        (first | rw [c6b0] | (simp only [i64_w, i32_w]; rw [c6b0]) | skip)
        have H' := Aside0.mk H
        clear H
        go_wp2_with (first | ((with_reducible refine gate_callee (f := 32) rfl ?_); refine goesL_ (some 15) rfl rfl Tryd.func32 (by kernel_rfl) rfl #[.slice A0 l0.length c0] rfl (by (try simp only [List.map_toArray, List.map_cons, List.map_nil]); first | done | rfl | (simp only [List.length_drop, List.length_take]; rfl)) ?_; (with_reducible refine (graftageref37_Few.calls k _ _ l0 true _ ?side1 ?side2 A4.out).mono ?_); (case side1 => repeat (first | exact (Kd.C_below HR0.out HB.out) | (with_reducible refine Kd.C_alloc ?_ _) | (with_reducible refine Kd.C_drewN ?_ _) | (with_reducible refine Kd.C_drew ?_))); (case side2 => exact HC0.out); rintro e w' ⟨rfl, ⟨nd, rfl⟩⟩; refine ⟨_, rfl, ?_⟩))
        go_meet
        case rel => exact ⟨_, (true), (by first | rfl | (simp; done) | (simp [*]; done) | (simp [ne_nil_bool]; done) | (simp [*, ne_nil_bool]; done)), H', ⟨by first | omega | exact Nat.le_refl _⟩, ⟨by repeat (first | (with_reducible first | exact HB.out | apply below_alloc | apply pw_below_drewN | apply below_drew1) | exact HB.out)⟩⟩
      · rw [if_neg c6] at H
        have c6b0 : decide (300 < (a1.size : Int)) = false := decide_eq_false c6
        have c6b1 : decide (300 < a1.size) = false := decide_eq_false (by omega)
        clear c6
        (first | rw [c6b0] | (simp only [i64_w, i32_w]; rw [c6b0]) | skip)
        replace H := Option.bind_eq_some_iff.mp H
        obtain ⟨t102, A70, H⟩ := H
        replace H : (graftagelaw37_RefsEnds.j0 k l0 a1 (t102 != 0)) = some r := H
        have A7 := Aside0.mk A70
        clear A70
        have H' := Aside0.mk H
        clear H
        go_wp2_with (first | ((with_reducible refine gate_callee (f := 32) rfl ?_); refine goesL_ (some 15) rfl rfl Tryd.func32 (by kernel_rfl) rfl #[.slice A0 l0.length c0] rfl (by (try simp only [List.map_toArray, List.map_cons, List.map_nil]); first | done | rfl | (simp only [List.length_drop, List.length_take]; rfl)) ?_; (with_reducible refine (graftageref37_Few.calls k _ _ l0 true _ ?side1 ?side2 A4.out).mono ?_); (case side1 => repeat (first | exact (Kd.C_below HR0.out HB.out) | (with_reducible refine Kd.C_alloc ?_ _) | (with_reducible refine Kd.C_drewN ?_ _) | (with_reducible refine Kd.C_drew ?_))); (case side2 => exact HC0.out); rintro e w' ⟨rfl, ⟨nd, rfl⟩⟩; refine ⟨_, rfl, ?_⟩) | (go_at_call 36; (with_reducible refine (refs_Check.calls k _ _ l0 t102 _ ?side1 ?side2 ?side3 A7.out).mono ?_); (case side1 => repeat (first | exact (Kd.C_below HR0.out (by repeat (first | (with_reducible first | exact HB.out | apply below_alloc | apply pw_below_drewN | apply below_drew1) | exact HB.out))) | (with_reducible refine Kd.C_alloc ?_ _) | (with_reducible refine Kd.C_drewN ?_ _) | (with_reducible refine Kd.C_drew ?_))); (case side2 => exact HC0.out); (case side3 => exact GV.below hgv (by repeat (first | (with_reducible first | exact HB.out | apply below_alloc | apply pw_below_drewN | apply below_drew1) | exact HB.out))); rintro e w8 ⟨rfl, hb⟩; have n0_ := Aside0.mk (below_step (by repeat (first | (with_reducible first | exact HB.out | apply below_alloc | apply pw_below_drewN | apply below_drew1) | exact HB.out)) hb); clear HB; have HB := n0_; clear n0_; (try clear hb); (try clear hb2); (try clear hk); (try clear hi)))
        go_meet
        case rel => exact ⟨_, ((t102 != 0)), (by first | rfl | (simp; done) | (simp [*]; done) | (simp [ne_nil_bool]; done) | (simp [*, ne_nil_bool]; done)), H', ⟨by first | omega | exact Nat.le_refl _⟩, ⟨by repeat (first | (with_reducible first | exact HB.out | apply below_alloc | apply pw_below_drewN | apply below_drew1) | exact HB.out)⟩⟩
    · replace c5 := Bool.eq_false_iff.mpr c5
      subst c5
      have H1 : (graftagelaw37_RefsEnds.j0 k l0 a1 true) = some r := by rw [if_neg (show ¬ (false = true) by decide)] at H; exact H
      clear H
      have H := H1
      clear H1
      have H' := Aside0.mk H
      clear H
      go_wp2_with (first | ((with_reducible refine gate_callee (f := 32) rfl ?_); refine goesL_ (some 15) rfl rfl Tryd.func32 (by kernel_rfl) rfl #[.slice A0 l0.length c0] rfl (by (try simp only [List.map_toArray, List.map_cons, List.map_nil]); first | done | rfl | (simp only [List.length_drop, List.length_take]; rfl)) ?_; (with_reducible refine (graftageref37_Few.calls k _ _ l0 false _ ?side1 ?side2 A4.out).mono ?_); (case side1 => repeat (first | exact (Kd.C_below HR0.out HB.out) | (with_reducible refine Kd.C_alloc ?_ _) | (with_reducible refine Kd.C_drewN ?_ _) | (with_reducible refine Kd.C_drew ?_))); (case side2 => exact HC0.out); rintro e w' ⟨rfl, ⟨nd, rfl⟩⟩; refine ⟨_, rfl, ?_⟩))
      go_meet
      case rel => exact ⟨_, (true), (by first | rfl | (simp; done) | (simp [*]; done) | (simp [ne_nil_bool]; done) | (simp [*, ne_nil_bool]; done)), H', ⟨by first | omega | exact Nat.le_refl _⟩, ⟨by repeat (first | (with_reducible first | exact HB.out | apply below_alloc | apply pw_below_drewN | apply below_drew1) | exact HB.out)⟩⟩
  case rest =>
    clear HC3
    try clear c1
    try clear p2
    try clear c3
    try clear c5
    try clear c6
    try clear c6b0
    try clear c6b1
    obtain ⟨kq, x26_2, rfl, HA, HJ2, HB⟩ := hcut
    cases kq with
    | zero => exact absurd HA.out (by simp [graftagelaw37_RefsEnds.j0])
    | succ kj2 =>
      have H := HA.out
      clear HA
      simp only [graftagelaw37_RefsEnds.j0] at H
      by_cases c9 : x26_2 = true
      · subst c9
        have H1 : ((graftagelaw37_lives.f kj2).bind fun t103 => (some t103)) = some r := by rw [if_pos rfl] at H; exact H
        clear H
        have H := H1
        clear H1
        replace H := Option.bind_eq_some_iff.mp H
        obtain ⟨t103, A100, H⟩ := H
        replace H : (some t103) = some r := H
        have A10 := Aside0.mk A100
        clear A100
        obtain rfl := Option.some.inj H
        go_wp2_with (first | ((with_reducible refine gate_callee (f := 33) rfl ?_); refine goesL_ (some 27) rfl rfl Tryd.func33 (by kernel_rfl) rfl #[] rfl (by (try simp only [List.map_toArray, List.map_cons, List.map_nil]); first | done | rfl | (simp only [List.length_drop, List.length_take]; rfl)) ?_; (with_reducible refine (graftagelaw37_lives.calls kj2  t103 _ ?side1 A10.out).mono ?_); (case side1 => exact GV.below hgv (by repeat (first | (with_reducible first | exact HB.out | apply below_alloc | apply pw_below_drewN | apply below_drew1) | exact HB.out))); rintro e w11 ⟨rfl, hb⟩; refine ⟨_, rfl, ?_⟩; have n0_ := Aside0.mk (below_step (by repeat (first | (with_reducible first | exact HB.out | apply below_alloc | apply pw_below_drewN | apply below_drew1) | exact HB.out)) hb); clear HB; have HB := n0_; clear n0_; (try clear hb); (try clear hb2); (try clear hk); (try clear hi)))
        go_ret
        exact ⟨by first | rfl | (simp [errW_none, errW_some] <;> rfl) | (simp [*, errW_none, errW_some] <;> rfl) | (simp [ne_nil_bool]; done) | (simp [*, ne_nil_bool]; done), by repeat (first | (with_reducible first | exact HB.out | apply below_alloc | apply pw_below_drewN | apply below_drew1) | exact HB.out)⟩
      · replace c9 := Bool.eq_false_iff.mpr c9
        subst c9
        have H1 : ((refs_Resolve.f kj2 l0 a1).bind fun bt104 => (if bt104.2.2 = 0 then ((refs_Find.f kj2 l0 bt104.1).bind fun bt107 => ((refs_Name.f kj2 bt104.1).bind fun t112 => (if t112 = true then (if (bt107.2.2.2 != (bt104.2.1.toList != ([] : List UInt8))) = true then (graftagelaw37_RefsEnds.j1 kj2 l0 a1 true) else (if bt107.2.2.1.toList = ([] : List UInt8) then (graftagelaw37_RefsEnds.j1 kj2 l0 a1 (bt107.2.1.toList != bt104.2.1.toList)) else (graftagelaw37_RefsEnds.j1 kj2 l0 a1 true))) else (graftagelaw37_RefsEnds.j1 kj2 l0 a1 true)))) else ((refs_Full.f kj2 l0 a1).bind fun bt121 => ((refs_Find.f kj2 l0 bt121.1).bind fun bt123 => (if ((bt121.2 == 0) == bt123.2.2.2) = true then ((graftagelaw37_lives.f kj2).bind fun t128 => (some t128)) else (some false)))))) = some r := by rw [if_neg (show ¬ (false = true) by decide)] at H; exact H
        clear H
        have H := H1
        clear H1
        replace H := Option.bind_eq_some_iff.mp H
        obtain ⟨⟨t104, t105, t106⟩, A120, H⟩ := H
        replace H : (if t106 = 0 then ((refs_Find.f kj2 l0 t104).bind fun bt107 => ((refs_Name.f kj2 t104).bind fun t112 => (if t112 = true then (if (bt107.2.2.2 != (t105.toList != ([] : List UInt8))) = true then (graftagelaw37_RefsEnds.j1 kj2 l0 a1 true) else (if bt107.2.2.1.toList = ([] : List UInt8) then (graftagelaw37_RefsEnds.j1 kj2 l0 a1 (bt107.2.1.toList != t105.toList)) else (graftagelaw37_RefsEnds.j1 kj2 l0 a1 true))) else (graftagelaw37_RefsEnds.j1 kj2 l0 a1 true)))) else ((refs_Full.f kj2 l0 a1).bind fun bt121 => ((refs_Find.f kj2 l0 bt121.1).bind fun bt123 => (if ((bt121.2 == 0) == bt123.2.2.2) = true then ((graftagelaw37_lives.f kj2).bind fun t128 => (some t128)) else (some false))))) = some r := H
        have A12 := Aside0.mk A120
        clear A120
        by_cases c13 : t106 = 0
        · rw [if_pos c13] at H
          have c13b0 : (t106 == 0) = true := beq_iff_eq.mpr c13
          have c13b1 : (t106 != 0) = false := bne_eq_false_iff_eq.mpr c13
          clear c13
          replace H := Option.bind_eq_some_iff.mp H
          obtain ⟨⟨t107, t108, t109, t110⟩, A140, H⟩ := H
          replace H : ((refs_Name.f kj2 t104).bind fun t112 => (if t112 = true then (if (t110 != (t105.toList != ([] : List UInt8))) = true then (graftagelaw37_RefsEnds.j1 kj2 l0 a1 true) else (if t109.toList = ([] : List UInt8) then (graftagelaw37_RefsEnds.j1 kj2 l0 a1 (t108.toList != t105.toList)) else (graftagelaw37_RefsEnds.j1 kj2 l0 a1 true))) else (graftagelaw37_RefsEnds.j1 kj2 l0 a1 true))) = some r := H
          have A14 := Aside0.mk A140
          clear A140
          have HC15 := Aside0.mk H
          clear H
          go_upto_region 6 with (first | ((with_reducible refine gate_callee (f := 43) rfl ?_); refine goesL_ (some 31) rfl rfl Tryd.func43 (by kernel_rfl) rfl #[.slice A0 l0.length c0, .string a1] rfl (by (try simp only [List.map_toArray, List.map_cons, List.map_nil]); first | done | rfl | (simp only [List.length_drop, List.length_take]; rfl)) ?_; (with_reducible refine (refs_Resolve.calls kj2 _ _ l0 a1 t104 t105 t106 _ ?side1 ?side2 ?side3 A12.out).mono ?_); (case side1 => repeat (first | exact (Kd.C_below HR0.out HB.out) | (with_reducible refine Kd.C_alloc ?_ _) | (with_reducible refine Kd.C_drewN ?_ _) | (with_reducible refine Kd.C_drew ?_))); (case side2 => exact HC0.out); (case side3 => exact GV.below hgv (by repeat (first | (with_reducible first | exact HB.out | apply below_alloc | apply pw_below_drewN | apply below_drew1) | exact HB.out))); rintro e w16 ⟨rfl, hb⟩; refine ⟨_, rfl, ?_⟩; have n0_ := Aside0.mk (below_step (by repeat (first | (with_reducible first | exact HB.out | apply below_alloc | apply pw_below_drewN | apply below_drew1) | exact HB.out)) hb); clear HB; have HB := n0_; clear n0_; (try clear hb); (try clear hb2); (try clear hk); (try clear hi)) | ((with_reducible refine gate_callee (f := 44) rfl ?_); refine goesL_ (some 40) rfl rfl Tryd.func44 (by kernel_rfl) rfl #[.slice A0 l0.length c0, .string t104] rfl (by (try simp only [List.map_toArray, List.map_cons, List.map_nil]); first | done | rfl | (simp only [List.length_drop, List.length_take]; rfl)) ?_; (with_reducible refine (refs_Find.calls kj2 _ _ l0 t104 t107 t108 t109 t110 _ ?side1 ?side2 A14.out).mono ?_); (case side1 => repeat (first | exact (Kd.C_below HR0.out HB.out) | (with_reducible refine Kd.C_alloc ?_ _) | (with_reducible refine Kd.C_drewN ?_ _) | (with_reducible refine Kd.C_drew ?_))); (case side2 => exact HC0.out); rintro e w17 ⟨rfl, hb⟩; refine ⟨_, rfl, ?_⟩; have n0_ := Aside0.mk (below_step (by repeat (first | (with_reducible first | exact HB.out | apply below_alloc | apply pw_below_drewN | apply below_drew1) | exact HB.out)) hb); clear HB; have HB := n0_; clear n0_; (try clear hb); (try clear hb2); (try clear hk); (try clear hi)) | ((with_reducible refine gate_dst (N := 8) rfl ?_); (try (refine gate_guard (by rfl) ?_; dsimp only)); refine box_event ?hg (N := 8) ?hd (cs := #[.string (⟨#[]⟩ : ByteArray), .string (⟨#[]⟩ : ByteArray), .string (⟨#[]⟩ : ByteArray)]) (t := 55) ?hr ?_; (case hd => rfl); (case hg => rfl); (case hr => first | (go_simp; done) | (go_simp; rfl)); intro gb111 hg w18 hbox hb; have n0_ := Aside0.mk (below_step (by repeat (first | (with_reducible first | exact HB.out | apply below_alloc | apply pw_below_drewN | apply below_drew1) | exact HB.out)) hb); have n1_ := Aside0.mk (hbox); have n2_ := Aside0.mk ((by rw [hg]; exact (below_size (by repeat (first | (with_reducible first | exact HB.out | apply below_alloc | apply pw_below_drewN | apply below_drew1) | exact HB.out))) : w.heap.size ≤ gb111)); have n3_ := Aside0.mk ((by rw [hg]; exact (below_size (by repeat (first | (with_reducible first | exact HB.out | apply below_alloc | apply pw_below_drewN | apply below_drew1) | exact HB.out))) : w.heap.size ≤ gb111)); clear HB; have HB := n0_; have BK111 := n1_; have GW111 := n2_; have GE111 := n3_; clear n0_ n1_ n2_ n3_; clear hb hbox hg; have hcz19_0 : w18.cell? ⟨gb111, 0, none⟩ = some (.string (⟨#[]⟩ : ByteArray)) := (blk_cell BK111.out 0).trans rfl; have hcz19_1 : w18.cell? ⟨gb111, 1, none⟩ = some (.string (⟨#[]⟩ : ByteArray)) := (blk_cell BK111.out 1).trans rfl; have hcz19_2 : w18.cell? ⟨gb111, 2, none⟩ = some (.string (⟨#[]⟩ : ByteArray)) := (blk_cell BK111.out 2).trans rfl; have hfz19_0 := blk_frozen BK111.out 0; have hfz19_1 := blk_frozen BK111.out 1; have hfz19_2 := blk_frozen BK111.out 2))
          (try simp only [Act.put, List.setIfInBounds_toArray, List.set_cons_zero, List.set_cons_succ])
          go_cut [62] (fun v62 wc => ∃ (kq : Nat) (x62_14 : Bool), v62 = .bool x62_14 ∧ Aside0 (graftagelaw37_RefsEnds.j1 kq l0 a1 x62_14 = some r) ∧ Aside0 (kq ≤ kj2) ∧ Aside0 (wc.heap[gb111]? = some (.cells #[.string t107, .string t108, .string t109] 55 (0, 0))) ∧ Aside0 (Below w.heap.size w wc))
          case first =>
            have H := HC15.out
            clear HC15
            replace H := Option.bind_eq_some_iff.mp H
            obtain ⟨t112, A200, H⟩ := H
            replace H : (if t112 = true then (if (t110 != (t105.toList != ([] : List UInt8))) = true then (graftagelaw37_RefsEnds.j1 kj2 l0 a1 true) else (if t109.toList = ([] : List UInt8) then (graftagelaw37_RefsEnds.j1 kj2 l0 a1 (t108.toList != t105.toList)) else (graftagelaw37_RefsEnds.j1 kj2 l0 a1 true))) else (graftagelaw37_RefsEnds.j1 kj2 l0 a1 true)) = some r := H
            have A20 := Aside0.mk A200
            clear A200
            by_cases c21 : t112 = true
            · subst c21
              have H1 : (if (t110 != (t105.toList != ([] : List UInt8))) = true then (graftagelaw37_RefsEnds.j1 kj2 l0 a1 true) else (if t109.toList = ([] : List UInt8) then (graftagelaw37_RefsEnds.j1 kj2 l0 a1 (t108.toList != t105.toList)) else (graftagelaw37_RefsEnds.j1 kj2 l0 a1 true))) = some r := by rw [if_pos rfl] at H; exact H
              clear H
              have H := H1
              clear H1
              by_cases e22 : t105.toList = ([] : List UInt8)
              · have e22b0 : (t105.toList == ([] : List UInt8)) = true := beq_iff_eq.mpr e22
                have e22b1 : (t105.toList != ([] : List UInt8)) = false := bne_eq_false_iff_eq.mpr e22
                have e22b2 : t105.toList.isEmpty = true := by rw [e22]; rfl
                rw [e22b1] at H
                clear e22
                cases t110 with
                | true =>
                  rw [if_pos (by rfl)] at H
                  have H' := Aside0.mk H
                  clear H
                  go_wp2_with (first | ((with_reducible refine gate_callee (f := 34) rfl ?_); refine goesL_ (some 44) rfl rfl Tryd.func34 (by kernel_rfl) rfl #[.string t104] rfl (by (try simp only [List.map_toArray, List.map_cons, List.map_nil]); first | done | rfl | (simp only [List.length_drop, List.length_take]; rfl)) ?_; (with_reducible refine (refs_Name.calls kj2 t104 true _ ?side1 A20.out).mono ?_); (case side1 => exact GV.below hgv (by repeat (first | (with_reducible first | exact HB.out | apply below_alloc | apply pw_below_drewN | apply below_drew1 | refine below_set ?_ GE111.out) | exact HB.out))); rintro e w23 ⟨rfl, hb⟩; refine ⟨_, rfl, ?_⟩; have n0_ := Aside0.mk (blk_below (g := gb111) (o := .cells #[.string t107, .string t108, .string t109] 55 (0, 0)) (by (with_reducible repeat (first | refine blk_drewN ?_ _ | refine blk_drew ?_ | refine blk_alloc ?_ _)); refine blk_put (cs := #[.string t107, .string t108, .string (⟨#[]⟩ : ByteArray)]) ?_ 2 _ rfl; (with_reducible repeat (first | refine blk_drewN ?_ _ | refine blk_drew ?_ | refine blk_alloc ?_ _)); refine blk_put (cs := #[.string t107, .string (⟨#[]⟩ : ByteArray), .string (⟨#[]⟩ : ByteArray)]) ?_ 1 _ rfl; (with_reducible repeat (first | refine blk_drewN ?_ _ | refine blk_drew ?_ | refine blk_alloc ?_ _)); refine blk_put (cs := #[.string (⟨#[]⟩ : ByteArray), .string (⟨#[]⟩ : ByteArray), .string (⟨#[]⟩ : ByteArray)]) ?_ 0 _ rfl; (with_reducible repeat (first | refine blk_drewN ?_ _ | refine blk_drew ?_ | refine blk_alloc ?_ _)); exact BK111.out) hb); have n1_ := Aside0.mk (below_step (by repeat (first | (with_reducible first | exact HB.out | apply below_alloc | apply pw_below_drewN | apply below_drew1 | refine below_set ?_ GE111.out) | exact HB.out)) hb); clear BK111; clear HB; have BK111 := n0_; have HB := n1_; clear n0_ n1_; (try clear hb); (try clear hb2); (try clear hk); (try clear hi)))
                  go_meet
                  case rel => exact ⟨_, (true), (by first | rfl | (simp; done) | (simp [*]; done) | (simp [ne_nil_bool]; done) | (simp [*, ne_nil_bool]; done)), H', ⟨by have := HJ2.out; first | omega | exact Nat.le_refl _⟩, ⟨by (with_reducible repeat (first | refine blk_drewN ?_ _ | refine blk_drew ?_ | refine blk_alloc ?_ _)); exact BK111.out⟩, ⟨by repeat (first | (with_reducible first | exact HB.out | apply below_alloc | apply pw_below_drewN | apply below_drew1 | refine below_set ?_ GE111.out) | exact HB.out)⟩⟩
                | false =>
                  rw [if_neg (by decide)] at H
                  by_cases c24 : t109.toList = ([] : List UInt8)
                  · rw [if_pos c24] at H
                    have c24b0 : (t109.toList == ([] : List UInt8)) = true := beq_iff_eq.mpr c24
                    have c24b1 : (t109.toList != ([] : List UInt8)) = false := bne_eq_false_iff_eq.mpr c24
                    clear c24
                    have H' := Aside0.mk H
                    clear H
                    go_wp2_with (first | ((with_reducible refine gate_callee (f := 34) rfl ?_); refine goesL_ (some 44) rfl rfl Tryd.func34 (by kernel_rfl) rfl #[.string t104] rfl (by (try simp only [List.map_toArray, List.map_cons, List.map_nil]); first | done | rfl | (simp only [List.length_drop, List.length_take]; rfl)) ?_; (with_reducible refine (refs_Name.calls kj2 t104 true _ ?side1 A20.out).mono ?_); (case side1 => exact GV.below hgv (by repeat (first | (with_reducible first | exact HB.out | apply below_alloc | apply pw_below_drewN | apply below_drew1 | refine below_set ?_ GE111.out) | exact HB.out))); rintro e w25 ⟨rfl, hb⟩; refine ⟨_, rfl, ?_⟩; have n0_ := Aside0.mk (blk_below (g := gb111) (o := .cells #[.string t107, .string t108, .string t109] 55 (0, 0)) (by (with_reducible repeat (first | refine blk_drewN ?_ _ | refine blk_drew ?_ | refine blk_alloc ?_ _)); refine blk_put (cs := #[.string t107, .string t108, .string (⟨#[]⟩ : ByteArray)]) ?_ 2 _ rfl; (with_reducible repeat (first | refine blk_drewN ?_ _ | refine blk_drew ?_ | refine blk_alloc ?_ _)); refine blk_put (cs := #[.string t107, .string (⟨#[]⟩ : ByteArray), .string (⟨#[]⟩ : ByteArray)]) ?_ 1 _ rfl; (with_reducible repeat (first | refine blk_drewN ?_ _ | refine blk_drew ?_ | refine blk_alloc ?_ _)); refine blk_put (cs := #[.string (⟨#[]⟩ : ByteArray), .string (⟨#[]⟩ : ByteArray), .string (⟨#[]⟩ : ByteArray)]) ?_ 0 _ rfl; (with_reducible repeat (first | refine blk_drewN ?_ _ | refine blk_drew ?_ | refine blk_alloc ?_ _)); exact BK111.out) hb); have n1_ := Aside0.mk (below_step (by repeat (first | (with_reducible first | exact HB.out | apply below_alloc | apply pw_below_drewN | apply below_drew1 | refine below_set ?_ GE111.out) | exact HB.out)) hb); clear BK111; clear HB; have BK111 := n0_; have HB := n1_; clear n0_ n1_; (try clear hb); (try clear hb2); (try clear hk); (try clear hi); have hcz26_0 : w25.cell? ⟨gb111, 0, none⟩ = some (.string t107) := (blk_cell BK111.out 0).trans rfl; have hcz26_1 : w25.cell? ⟨gb111, 1, none⟩ = some (.string t108) := (blk_cell BK111.out 1).trans rfl; have hcz26_2 : w25.cell? ⟨gb111, 2, none⟩ = some (.string t109) := (blk_cell BK111.out 2).trans rfl; have hfz26_0 := blk_frozen BK111.out 0; have hfz26_1 := blk_frozen BK111.out 1; have hfz26_2 := blk_frozen BK111.out 2))
                    go_meet
                    case rel => exact ⟨_, ((t108.toList != t105.toList)), (by first | rfl | (simp; done) | (simp [*]; done) | (simp [ne_nil_bool]; done) | (simp [*, ne_nil_bool]; done)), H', ⟨by have := HJ2.out; first | omega | exact Nat.le_refl _⟩, ⟨by (with_reducible repeat (first | refine blk_drewN ?_ _ | refine blk_drew ?_ | refine blk_alloc ?_ _)); exact BK111.out⟩, ⟨by repeat (first | (with_reducible first | exact HB.out | apply below_alloc | apply pw_below_drewN | apply below_drew1 | refine below_set ?_ GE111.out) | exact HB.out)⟩⟩
                  · rw [if_neg c24] at H
                    have c24b0 : (t109.toList == ([] : List UInt8)) = false := beq_eq_false_iff_ne.mpr c24
                    have c24b1 : (t109.toList != ([] : List UInt8)) = true := bne_iff_ne.mpr c24
                    have H' := Aside0.mk H
                    clear H
                    go_wp2_with (first | ((with_reducible refine gate_callee (f := 34) rfl ?_); refine goesL_ (some 44) rfl rfl Tryd.func34 (by kernel_rfl) rfl #[.string t104] rfl (by (try simp only [List.map_toArray, List.map_cons, List.map_nil]); first | done | rfl | (simp only [List.length_drop, List.length_take]; rfl)) ?_; (with_reducible refine (refs_Name.calls kj2 t104 true _ ?side1 A20.out).mono ?_); (case side1 => exact GV.below hgv (by repeat (first | (with_reducible first | exact HB.out | apply below_alloc | apply pw_below_drewN | apply below_drew1 | refine below_set ?_ GE111.out) | exact HB.out))); rintro e w27 ⟨rfl, hb⟩; refine ⟨_, rfl, ?_⟩; have n0_ := Aside0.mk (blk_below (g := gb111) (o := .cells #[.string t107, .string t108, .string t109] 55 (0, 0)) (by (with_reducible repeat (first | refine blk_drewN ?_ _ | refine blk_drew ?_ | refine blk_alloc ?_ _)); refine blk_put (cs := #[.string t107, .string t108, .string (⟨#[]⟩ : ByteArray)]) ?_ 2 _ rfl; (with_reducible repeat (first | refine blk_drewN ?_ _ | refine blk_drew ?_ | refine blk_alloc ?_ _)); refine blk_put (cs := #[.string t107, .string (⟨#[]⟩ : ByteArray), .string (⟨#[]⟩ : ByteArray)]) ?_ 1 _ rfl; (with_reducible repeat (first | refine blk_drewN ?_ _ | refine blk_drew ?_ | refine blk_alloc ?_ _)); refine blk_put (cs := #[.string (⟨#[]⟩ : ByteArray), .string (⟨#[]⟩ : ByteArray), .string (⟨#[]⟩ : ByteArray)]) ?_ 0 _ rfl; (with_reducible repeat (first | refine blk_drewN ?_ _ | refine blk_drew ?_ | refine blk_alloc ?_ _)); exact BK111.out) hb); have n1_ := Aside0.mk (below_step (by repeat (first | (with_reducible first | exact HB.out | apply below_alloc | apply pw_below_drewN | apply below_drew1 | refine below_set ?_ GE111.out) | exact HB.out)) hb); clear BK111; clear HB; have BK111 := n0_; have HB := n1_; clear n0_ n1_; (try clear hb); (try clear hb2); (try clear hk); (try clear hi); have hcz28_0 : w27.cell? ⟨gb111, 0, none⟩ = some (.string t107) := (blk_cell BK111.out 0).trans rfl; have hcz28_1 : w27.cell? ⟨gb111, 1, none⟩ = some (.string t108) := (blk_cell BK111.out 1).trans rfl; have hcz28_2 : w27.cell? ⟨gb111, 2, none⟩ = some (.string t109) := (blk_cell BK111.out 2).trans rfl; have hfz28_0 := blk_frozen BK111.out 0; have hfz28_1 := blk_frozen BK111.out 1; have hfz28_2 := blk_frozen BK111.out 2))
                    go_meet
                    case rel => exact ⟨_, (true), (by first | rfl | (simp; done) | (simp [*]; done) | (simp [ne_nil_bool]; done) | (simp [*, ne_nil_bool]; done)), H', ⟨by have := HJ2.out; first | omega | exact Nat.le_refl _⟩, ⟨by (with_reducible repeat (first | refine blk_drewN ?_ _ | refine blk_drew ?_ | refine blk_alloc ?_ _)); exact BK111.out⟩, ⟨by repeat (first | (with_reducible first | exact HB.out | apply below_alloc | apply pw_below_drewN | apply below_drew1 | refine below_set ?_ GE111.out) | exact HB.out)⟩⟩
              · have e22b0 : (t105.toList == ([] : List UInt8)) = false := beq_eq_false_iff_ne.mpr e22
                have e22b1 : (t105.toList != ([] : List UInt8)) = true := bne_iff_ne.mpr e22
                have e22b2 : t105.toList.isEmpty = false := by cases h_ : t105.toList with | nil => exact absurd h_ e22 | cons _ _ => rfl
                rw [e22b1] at H
                cases t110 with
                | true =>
                  rw [if_neg (by decide)] at H
                  by_cases c24 : t109.toList = ([] : List UInt8)
                  · rw [if_pos c24] at H
                    have c24b0 : (t109.toList == ([] : List UInt8)) = true := beq_iff_eq.mpr c24
                    have c24b1 : (t109.toList != ([] : List UInt8)) = false := bne_eq_false_iff_eq.mpr c24
                    clear c24
                    have H' := Aside0.mk H
                    clear H
                    go_wp2_with (first | ((with_reducible refine gate_callee (f := 34) rfl ?_); refine goesL_ (some 44) rfl rfl Tryd.func34 (by kernel_rfl) rfl #[.string t104] rfl (by (try simp only [List.map_toArray, List.map_cons, List.map_nil]); first | done | rfl | (simp only [List.length_drop, List.length_take]; rfl)) ?_; (with_reducible refine (refs_Name.calls kj2 t104 true _ ?side1 A20.out).mono ?_); (case side1 => exact GV.below hgv (by repeat (first | (with_reducible first | exact HB.out | apply below_alloc | apply pw_below_drewN | apply below_drew1 | refine below_set ?_ GE111.out) | exact HB.out))); rintro e w25 ⟨rfl, hb⟩; refine ⟨_, rfl, ?_⟩; have n0_ := Aside0.mk (blk_below (g := gb111) (o := .cells #[.string t107, .string t108, .string t109] 55 (0, 0)) (by (with_reducible repeat (first | refine blk_drewN ?_ _ | refine blk_drew ?_ | refine blk_alloc ?_ _)); refine blk_put (cs := #[.string t107, .string t108, .string (⟨#[]⟩ : ByteArray)]) ?_ 2 _ rfl; (with_reducible repeat (first | refine blk_drewN ?_ _ | refine blk_drew ?_ | refine blk_alloc ?_ _)); refine blk_put (cs := #[.string t107, .string (⟨#[]⟩ : ByteArray), .string (⟨#[]⟩ : ByteArray)]) ?_ 1 _ rfl; (with_reducible repeat (first | refine blk_drewN ?_ _ | refine blk_drew ?_ | refine blk_alloc ?_ _)); refine blk_put (cs := #[.string (⟨#[]⟩ : ByteArray), .string (⟨#[]⟩ : ByteArray), .string (⟨#[]⟩ : ByteArray)]) ?_ 0 _ rfl; (with_reducible repeat (first | refine blk_drewN ?_ _ | refine blk_drew ?_ | refine blk_alloc ?_ _)); exact BK111.out) hb); have n1_ := Aside0.mk (below_step (by repeat (first | (with_reducible first | exact HB.out | apply below_alloc | apply pw_below_drewN | apply below_drew1 | refine below_set ?_ GE111.out) | exact HB.out)) hb); clear BK111; clear HB; have BK111 := n0_; have HB := n1_; clear n0_ n1_; (try clear hb); (try clear hb2); (try clear hk); (try clear hi); have hcz26_0 : w25.cell? ⟨gb111, 0, none⟩ = some (.string t107) := (blk_cell BK111.out 0).trans rfl; have hcz26_1 : w25.cell? ⟨gb111, 1, none⟩ = some (.string t108) := (blk_cell BK111.out 1).trans rfl; have hcz26_2 : w25.cell? ⟨gb111, 2, none⟩ = some (.string t109) := (blk_cell BK111.out 2).trans rfl; have hfz26_0 := blk_frozen BK111.out 0; have hfz26_1 := blk_frozen BK111.out 1; have hfz26_2 := blk_frozen BK111.out 2))
                    go_meet
                    case rel => exact ⟨_, ((t108.toList != t105.toList)), (by first | rfl | (simp; done) | (simp [*]; done) | (simp [ne_nil_bool]; done) | (simp [*, ne_nil_bool]; done)), H', ⟨by have := HJ2.out; first | omega | exact Nat.le_refl _⟩, ⟨by (with_reducible repeat (first | refine blk_drewN ?_ _ | refine blk_drew ?_ | refine blk_alloc ?_ _)); exact BK111.out⟩, ⟨by repeat (first | (with_reducible first | exact HB.out | apply below_alloc | apply pw_below_drewN | apply below_drew1 | refine below_set ?_ GE111.out) | exact HB.out)⟩⟩
                  · rw [if_neg c24] at H
                    have c24b0 : (t109.toList == ([] : List UInt8)) = false := beq_eq_false_iff_ne.mpr c24
                    have c24b1 : (t109.toList != ([] : List UInt8)) = true := bne_iff_ne.mpr c24
                    have H' := Aside0.mk H
                    clear H
                    go_wp2_with (first | ((with_reducible refine gate_callee (f := 34) rfl ?_); refine goesL_ (some 44) rfl rfl Tryd.func34 (by kernel_rfl) rfl #[.string t104] rfl (by (try simp only [List.map_toArray, List.map_cons, List.map_nil]); first | done | rfl | (simp only [List.length_drop, List.length_take]; rfl)) ?_; (with_reducible refine (refs_Name.calls kj2 t104 true _ ?side1 A20.out).mono ?_); (case side1 => exact GV.below hgv (by repeat (first | (with_reducible first | exact HB.out | apply below_alloc | apply pw_below_drewN | apply below_drew1 | refine below_set ?_ GE111.out) | exact HB.out))); rintro e w27 ⟨rfl, hb⟩; refine ⟨_, rfl, ?_⟩; have n0_ := Aside0.mk (blk_below (g := gb111) (o := .cells #[.string t107, .string t108, .string t109] 55 (0, 0)) (by (with_reducible repeat (first | refine blk_drewN ?_ _ | refine blk_drew ?_ | refine blk_alloc ?_ _)); refine blk_put (cs := #[.string t107, .string t108, .string (⟨#[]⟩ : ByteArray)]) ?_ 2 _ rfl; (with_reducible repeat (first | refine blk_drewN ?_ _ | refine blk_drew ?_ | refine blk_alloc ?_ _)); refine blk_put (cs := #[.string t107, .string (⟨#[]⟩ : ByteArray), .string (⟨#[]⟩ : ByteArray)]) ?_ 1 _ rfl; (with_reducible repeat (first | refine blk_drewN ?_ _ | refine blk_drew ?_ | refine blk_alloc ?_ _)); refine blk_put (cs := #[.string (⟨#[]⟩ : ByteArray), .string (⟨#[]⟩ : ByteArray), .string (⟨#[]⟩ : ByteArray)]) ?_ 0 _ rfl; (with_reducible repeat (first | refine blk_drewN ?_ _ | refine blk_drew ?_ | refine blk_alloc ?_ _)); exact BK111.out) hb); have n1_ := Aside0.mk (below_step (by repeat (first | (with_reducible first | exact HB.out | apply below_alloc | apply pw_below_drewN | apply below_drew1 | refine below_set ?_ GE111.out) | exact HB.out)) hb); clear BK111; clear HB; have BK111 := n0_; have HB := n1_; clear n0_ n1_; (try clear hb); (try clear hb2); (try clear hk); (try clear hi); have hcz28_0 : w27.cell? ⟨gb111, 0, none⟩ = some (.string t107) := (blk_cell BK111.out 0).trans rfl; have hcz28_1 : w27.cell? ⟨gb111, 1, none⟩ = some (.string t108) := (blk_cell BK111.out 1).trans rfl; have hcz28_2 : w27.cell? ⟨gb111, 2, none⟩ = some (.string t109) := (blk_cell BK111.out 2).trans rfl; have hfz28_0 := blk_frozen BK111.out 0; have hfz28_1 := blk_frozen BK111.out 1; have hfz28_2 := blk_frozen BK111.out 2))
                    go_meet
                    case rel => exact ⟨_, (true), (by first | rfl | (simp; done) | (simp [*]; done) | (simp [ne_nil_bool]; done) | (simp [*, ne_nil_bool]; done)), H', ⟨by have := HJ2.out; first | omega | exact Nat.le_refl _⟩, ⟨by (with_reducible repeat (first | refine blk_drewN ?_ _ | refine blk_drew ?_ | refine blk_alloc ?_ _)); exact BK111.out⟩, ⟨by repeat (first | (with_reducible first | exact HB.out | apply below_alloc | apply pw_below_drewN | apply below_drew1 | refine below_set ?_ GE111.out) | exact HB.out)⟩⟩
                | false =>
                  rw [if_pos (by rfl)] at H
                  have H' := Aside0.mk H
                  clear H
                  go_wp2_with (first | ((with_reducible refine gate_callee (f := 34) rfl ?_); refine goesL_ (some 44) rfl rfl Tryd.func34 (by kernel_rfl) rfl #[.string t104] rfl (by (try simp only [List.map_toArray, List.map_cons, List.map_nil]); first | done | rfl | (simp only [List.length_drop, List.length_take]; rfl)) ?_; (with_reducible refine (refs_Name.calls kj2 t104 true _ ?side1 A20.out).mono ?_); (case side1 => exact GV.below hgv (by repeat (first | (with_reducible first | exact HB.out | apply below_alloc | apply pw_below_drewN | apply below_drew1 | refine below_set ?_ GE111.out) | exact HB.out))); rintro e w23 ⟨rfl, hb⟩; refine ⟨_, rfl, ?_⟩; have n0_ := Aside0.mk (blk_below (g := gb111) (o := .cells #[.string t107, .string t108, .string t109] 55 (0, 0)) (by (with_reducible repeat (first | refine blk_drewN ?_ _ | refine blk_drew ?_ | refine blk_alloc ?_ _)); refine blk_put (cs := #[.string t107, .string t108, .string (⟨#[]⟩ : ByteArray)]) ?_ 2 _ rfl; (with_reducible repeat (first | refine blk_drewN ?_ _ | refine blk_drew ?_ | refine blk_alloc ?_ _)); refine blk_put (cs := #[.string t107, .string (⟨#[]⟩ : ByteArray), .string (⟨#[]⟩ : ByteArray)]) ?_ 1 _ rfl; (with_reducible repeat (first | refine blk_drewN ?_ _ | refine blk_drew ?_ | refine blk_alloc ?_ _)); refine blk_put (cs := #[.string (⟨#[]⟩ : ByteArray), .string (⟨#[]⟩ : ByteArray), .string (⟨#[]⟩ : ByteArray)]) ?_ 0 _ rfl; (with_reducible repeat (first | refine blk_drewN ?_ _ | refine blk_drew ?_ | refine blk_alloc ?_ _)); exact BK111.out) hb); have n1_ := Aside0.mk (below_step (by repeat (first | (with_reducible first | exact HB.out | apply below_alloc | apply pw_below_drewN | apply below_drew1 | refine below_set ?_ GE111.out) | exact HB.out)) hb); clear BK111; clear HB; have BK111 := n0_; have HB := n1_; clear n0_ n1_; (try clear hb); (try clear hb2); (try clear hk); (try clear hi)))
                  go_meet
                  case rel => exact ⟨_, (true), (by first | rfl | (simp; done) | (simp [*]; done) | (simp [ne_nil_bool]; done) | (simp [*, ne_nil_bool]; done)), H', ⟨by have := HJ2.out; first | omega | exact Nat.le_refl _⟩, ⟨by (with_reducible repeat (first | refine blk_drewN ?_ _ | refine blk_drew ?_ | refine blk_alloc ?_ _)); exact BK111.out⟩, ⟨by repeat (first | (with_reducible first | exact HB.out | apply below_alloc | apply pw_below_drewN | apply below_drew1 | refine below_set ?_ GE111.out) | exact HB.out)⟩⟩
            · replace c21 := Bool.eq_false_iff.mpr c21
              subst c21
              have H1 : (graftagelaw37_RefsEnds.j1 kj2 l0 a1 true) = some r := by rw [if_neg (show ¬ (false = true) by decide)] at H; exact H
              clear H
              have H := H1
              clear H1
              have H' := Aside0.mk H
              clear H
              go_wp2_with (first | ((with_reducible refine gate_callee (f := 34) rfl ?_); refine goesL_ (some 44) rfl rfl Tryd.func34 (by kernel_rfl) rfl #[.string t104] rfl (by (try simp only [List.map_toArray, List.map_cons, List.map_nil]); first | done | rfl | (simp only [List.length_drop, List.length_take]; rfl)) ?_; (with_reducible refine (refs_Name.calls kj2 t104 false _ ?side1 A20.out).mono ?_); (case side1 => exact GV.below hgv (by repeat (first | (with_reducible first | exact HB.out | apply below_alloc | apply pw_below_drewN | apply below_drew1 | refine below_set ?_ GE111.out) | exact HB.out))); rintro e w29 ⟨rfl, hb⟩; refine ⟨_, rfl, ?_⟩; have n0_ := Aside0.mk (blk_below (g := gb111) (o := .cells #[.string t107, .string t108, .string t109] 55 (0, 0)) (by (with_reducible repeat (first | refine blk_drewN ?_ _ | refine blk_drew ?_ | refine blk_alloc ?_ _)); refine blk_put (cs := #[.string t107, .string t108, .string (⟨#[]⟩ : ByteArray)]) ?_ 2 _ rfl; (with_reducible repeat (first | refine blk_drewN ?_ _ | refine blk_drew ?_ | refine blk_alloc ?_ _)); refine blk_put (cs := #[.string t107, .string (⟨#[]⟩ : ByteArray), .string (⟨#[]⟩ : ByteArray)]) ?_ 1 _ rfl; (with_reducible repeat (first | refine blk_drewN ?_ _ | refine blk_drew ?_ | refine blk_alloc ?_ _)); refine blk_put (cs := #[.string (⟨#[]⟩ : ByteArray), .string (⟨#[]⟩ : ByteArray), .string (⟨#[]⟩ : ByteArray)]) ?_ 0 _ rfl; (with_reducible repeat (first | refine blk_drewN ?_ _ | refine blk_drew ?_ | refine blk_alloc ?_ _)); exact BK111.out) hb); have n1_ := Aside0.mk (below_step (by repeat (first | (with_reducible first | exact HB.out | apply below_alloc | apply pw_below_drewN | apply below_drew1 | refine below_set ?_ GE111.out) | exact HB.out)) hb); clear BK111; clear HB; have BK111 := n0_; have HB := n1_; clear n0_ n1_; (try clear hb); (try clear hb2); (try clear hk); (try clear hi)))
              go_meet
              case rel => exact ⟨_, (true), (by first | rfl | (simp; done) | (simp [*]; done) | (simp [ne_nil_bool]; done) | (simp [*, ne_nil_bool]; done)), H', ⟨by have := HJ2.out; first | omega | exact Nat.le_refl _⟩, ⟨by (with_reducible repeat (first | refine blk_drewN ?_ _ | refine blk_drew ?_ | refine blk_alloc ?_ _)); exact BK111.out⟩, ⟨by repeat (first | (with_reducible first | exact HB.out | apply below_alloc | apply pw_below_drewN | apply below_drew1 | refine below_set ?_ GE111.out) | exact HB.out)⟩⟩
          case rest =>
            clear HC15
            try clear c1
            try clear c2
            try clear p2
            try clear c3
            try clear c4
            try clear c5
            try clear c6
            try clear c6b0
            try clear c6b1
            try clear c9
            try clear c12
            try clear c13
            try clear c13b0
            try clear c13b1
            try clear c21
            try clear c22
            try clear c22b0
            try clear c22b1
            try clear c22b2
            try clear c24
            try clear c24b0
            try clear c24b1
            try clear hcz19_0
            try clear hcz19_1
            try clear hcz19_2
            try clear hcz26_0
            try clear hcz26_1
            try clear hcz26_2
            try clear hcz28_0
            try clear hcz28_1
            try clear hcz28_2
            try clear hfz19_0
            try clear hfz19_1
            try clear hfz19_2
            try clear hfz26_0
            try clear hfz26_1
            try clear hfz26_2
            try clear hfz28_0
            try clear hfz28_1
            try clear hfz28_2
            try clear p2
            obtain ⟨kq, x62_14, rfl, HA, HJ14, BK111, HB⟩ := hcut
            cases kq with
            | zero => exact absurd HA.out (by simp [graftagelaw37_RefsEnds.j1])
            | succ kj14 =>
              have H := HA.out
              clear HA
              simp only [graftagelaw37_RefsEnds.j1] at H
              by_cases c30 : x62_14 = true
              · subst c30
                have H1 : (some false) = some r := by rw [if_pos rfl] at H; exact H
                clear H
                have H := H1
                clear H1
                obtain rfl := Option.some.inj H
                go_wp2
                go_ret
                exact ⟨by first | rfl | (simp [errW_none, errW_some] <;> rfl) | (simp [*, errW_none, errW_some] <;> rfl) | (simp [ne_nil_bool]; done) | (simp [*, ne_nil_bool]; done), by repeat (first | (with_reducible first | exact HB.out | apply below_alloc | apply pw_below_drewN | apply below_drew1 | refine below_set ?_ GE111.out) | exact HB.out)⟩
              · replace c30 := Bool.eq_false_iff.mpr c30
                subst c30
                have H1 : ((refs_Full.f kj14 l0 a1).bind fun bt113 => ((refs_Find.f kj14 l0 bt113.1).bind fun bt115 => (if ((bt113.2 == 0) == bt115.2.2.2) = true then ((graftagelaw37_lives.f kj14).bind fun t120 => (some t120)) else (some false)))) = some r := by rw [if_neg (show ¬ (false = true) by decide)] at H; exact H
                clear H
                have H := H1
                clear H1
                replace H := Option.bind_eq_some_iff.mp H
                obtain ⟨⟨t113, t114⟩, A310, H⟩ := H
                replace H : ((refs_Find.f kj14 l0 t113).bind fun bt115 => (if ((t114 == 0) == bt115.2.2.2) = true then ((graftagelaw37_lives.f kj14).bind fun t120 => (some t120)) else (some false))) = some r := H
                have A31 := Aside0.mk A310
                clear A310
                replace H := Option.bind_eq_some_iff.mp H
                obtain ⟨⟨t115, t116, t117, t118⟩, A320, H⟩ := H
                replace H : (if ((t114 == 0) == t118) = true then ((graftagelaw37_lives.f kj14).bind fun t120 => (some t120)) else (some false)) = some r := H
                have A32 := Aside0.mk A320
                clear A320
                by_cases c33 : ((t114 == 0) == t118) = true
                · rw [if_pos c33] at H
                  have c33b0 : ((t114 == 0) == t118) = true := c33
                  (try (have c33b1 : decide ((t114 == 0) = t118) = true := by simpa using c33))
                  (try (have c33b2 : ((t114 == 0) == t118) = true := by simpa using c33))
                  clear c33
                  replace H := Option.bind_eq_some_iff.mp H
                  obtain ⟨t120, A340, H⟩ := H
                  replace H : (some t120) = some r := H
                  have A34 := Aside0.mk A340
                  clear A340
                  obtain rfl := Option.some.inj H
                  go_wp2_with (first | ((with_reducible refine gate_callee (f := 45) rfl ?_); refine goesL_ (some 66) rfl rfl Tryd.func45 (by kernel_rfl) rfl #[.slice A0 l0.length c0, .string a1] rfl (by (try simp only [List.map_toArray, List.map_cons, List.map_nil]); first | done | rfl | (simp only [List.length_drop, List.length_take]; rfl)) ?_; (with_reducible refine (refs_Full.calls kj14 _ _ l0 a1 t113 t114 _ ?side1 ?side2 A31.out).mono ?_); (case side1 => repeat (first | exact (Kd.C_below HR0.out HB.out) | (with_reducible refine Kd.C_alloc ?_ _) | (with_reducible refine Kd.C_drewN ?_ _) | (with_reducible refine Kd.C_drew ?_))); (case side2 => exact HC0.out); rintro e w35 ⟨rfl, hb⟩; refine ⟨_, rfl, ?_⟩; have n0_ := Aside0.mk (blk_below (g := gb111) (o := .cells #[.string t107, .string t108, .string t109] 55 (0, 0)) (by (with_reducible repeat (first | refine blk_drewN ?_ _ | refine blk_drew ?_ | refine blk_alloc ?_ _)); exact BK111.out) hb); have n1_ := Aside0.mk (below_step (by repeat (first | (with_reducible first | exact HB.out | apply below_alloc | apply pw_below_drewN | apply below_drew1 | refine below_set ?_ GE111.out) | exact HB.out)) hb); clear BK111; clear HB; have BK111 := n0_; have HB := n1_; clear n0_ n1_; (try clear hb); (try clear hb2); (try clear hk); (try clear hi)) | ((with_reducible refine gate_callee (f := 44) rfl ?_); refine goesL_ (some 72) rfl rfl Tryd.func44 (by kernel_rfl) rfl #[.slice A0 l0.length c0, .string t113] rfl (by (try simp only [List.map_toArray, List.map_cons, List.map_nil]); first | done | rfl | (simp only [List.length_drop, List.length_take]; rfl)) ?_; (with_reducible refine (refs_Find.calls kj14 _ _ l0 t113 t115 t116 t117 t118 _ ?side1 ?side2 A32.out).mono ?_); (case side1 => repeat (first | exact (Kd.C_below HR0.out HB.out) | (with_reducible refine Kd.C_alloc ?_ _) | (with_reducible refine Kd.C_drewN ?_ _) | (with_reducible refine Kd.C_drew ?_))); (case side2 => exact HC0.out); rintro e w36 ⟨rfl, hb⟩; refine ⟨_, rfl, ?_⟩; have n0_ := Aside0.mk (blk_below (g := gb111) (o := .cells #[.string t107, .string t108, .string t109] 55 (0, 0)) (by (with_reducible repeat (first | refine blk_drewN ?_ _ | refine blk_drew ?_ | refine blk_alloc ?_ _)); exact BK111.out) hb); have n1_ := Aside0.mk (below_step (by repeat (first | (with_reducible first | exact HB.out | apply below_alloc | apply pw_below_drewN | apply below_drew1 | refine below_set ?_ GE111.out) | exact HB.out)) hb); clear BK111; clear HB; have BK111 := n0_; have HB := n1_; clear n0_ n1_; (try clear hb); (try clear hb2); (try clear hk); (try clear hi)) | ((with_reducible refine gate_dst (N := 12) rfl ?_); (try (refine gate_guard (by rfl) ?_; dsimp only)); refine box_event ?hg (N := 12) ?hd (cs := #[.string (⟨#[]⟩ : ByteArray), .string (⟨#[]⟩ : ByteArray), .string (⟨#[]⟩ : ByteArray)]) (t := 55) ?hr ?_; (case hd => rfl); (case hg => rfl); (case hr => first | (go_simp; done) | (go_simp; rfl)); intro gb119 hg w37 hbox hb; have n0_ := Aside0.mk (blk_below (g := gb111) (o := .cells #[.string t107, .string t108, .string t109] 55 (0, 0)) (by (with_reducible repeat (first | refine blk_drewN ?_ _ | refine blk_drew ?_ | refine blk_alloc ?_ _)); exact BK111.out) hb); have n1_ := Aside0.mk (below_step (by repeat (first | (with_reducible first | exact HB.out | apply below_alloc | apply pw_below_drewN | apply below_drew1 | refine below_set ?_ GE111.out) | exact HB.out)) hb); have n2_ := Aside0.mk (hbox); have n3_ := Aside0.mk ((by rw [hg]; exact (below_size (by repeat (first | (with_reducible first | exact HB.out | apply below_alloc | apply pw_below_drewN | apply below_drew1 | refine below_set ?_ GE111.out) | exact HB.out))) : w.heap.size ≤ gb119)); have n4_ := Aside0.mk ((by rw [hg]; exact (below_size (by repeat (first | (with_reducible first | exact HB.out | apply below_alloc | apply pw_below_drewN | apply below_drew1 | refine below_set ?_ GE111.out) | exact HB.out))) : w.heap.size ≤ gb119)); have n5_ := Aside0.mk ((by rw [hg]; exact Nat.ne_of_lt (blk_lt (g := gb111) (o := .cells #[.string t107, .string t108, .string t109] 55 (0, 0)) (by (with_reducible repeat (first | refine blk_drewN ?_ _ | refine blk_drew ?_ | refine blk_alloc ?_ _)); exact BK111.out)) : gb111 ≠ gb119)); have n6_ := Aside0.mk ((by rw [hg]; exact Nat.ne_of_gt (blk_lt (g := gb111) (o := .cells #[.string t107, .string t108, .string t109] 55 (0, 0)) (by (with_reducible repeat (first | refine blk_drewN ?_ _ | refine blk_drew ?_ | refine blk_alloc ?_ _)); exact BK111.out)) : gb119 ≠ gb111)); clear BK111; clear HB; have BK111 := n0_; have HB := n1_; have BK119 := n2_; have GW119 := n3_; have GE119 := n4_; have NB111_119 := n5_; have NB119_111 := n6_; clear n0_ n1_ n2_ n3_ n4_ n5_ n6_; clear hb hbox hg; have hnb38 := NB119_111.out; have hnc38 := NB111_119.out; have hcz39_0 : w37.cell? ⟨gb119, 0, none⟩ = some (.string (⟨#[]⟩ : ByteArray)) := (blk_cell BK119.out 0).trans rfl; have hcz39_1 : w37.cell? ⟨gb119, 1, none⟩ = some (.string (⟨#[]⟩ : ByteArray)) := (blk_cell BK119.out 1).trans rfl; have hcz39_2 : w37.cell? ⟨gb119, 2, none⟩ = some (.string (⟨#[]⟩ : ByteArray)) := (blk_cell BK119.out 2).trans rfl; have hfz39_0 := blk_frozen BK119.out 0; have hfz39_1 := blk_frozen BK119.out 1; have hfz39_2 := blk_frozen BK119.out 2) | (go_at_call 33; (with_reducible refine (graftagelaw37_lives.calls kj14  t120 _ ?side1 A34.out).mono ?_); (case side1 => exact GV.below hgv (by repeat (first | (with_reducible first | exact HB.out | apply below_alloc | apply pw_below_drewN | apply below_drew1 | refine below_set ?_ GE111.out | refine below_set ?_ GE119.out) | exact HB.out))); rintro e w40 ⟨rfl, hb⟩; have n0_ := Aside0.mk (blk_below (g := gb111) (o := .cells #[.string t107, .string t108, .string t109] 55 (0, 0)) (by (with_reducible repeat (first | refine blk_drewN ?_ _ | refine blk_drew ?_ | refine blk_alloc ?_ _)); refine blk_far ?_ NB111_119.out _; (with_reducible repeat (first | refine blk_drewN ?_ _ | refine blk_drew ?_ | refine blk_alloc ?_ _)); refine blk_far ?_ NB111_119.out _; (with_reducible repeat (first | refine blk_drewN ?_ _ | refine blk_drew ?_ | refine blk_alloc ?_ _)); refine blk_far ?_ NB111_119.out _; (with_reducible repeat (first | refine blk_drewN ?_ _ | refine blk_drew ?_ | refine blk_alloc ?_ _)); exact BK111.out) hb); have n1_ := Aside0.mk (blk_below (g := gb119) (o := .cells #[.string t115, .string t116, .string t117] 55 (0, 0)) (by (with_reducible repeat (first | refine blk_drewN ?_ _ | refine blk_drew ?_ | refine blk_alloc ?_ _)); refine blk_put (cs := #[.string t115, .string t116, .string (⟨#[]⟩ : ByteArray)]) ?_ 2 _ rfl; (with_reducible repeat (first | refine blk_drewN ?_ _ | refine blk_drew ?_ | refine blk_alloc ?_ _)); refine blk_put (cs := #[.string t115, .string (⟨#[]⟩ : ByteArray), .string (⟨#[]⟩ : ByteArray)]) ?_ 1 _ rfl; (with_reducible repeat (first | refine blk_drewN ?_ _ | refine blk_drew ?_ | refine blk_alloc ?_ _)); refine blk_put (cs := #[.string (⟨#[]⟩ : ByteArray), .string (⟨#[]⟩ : ByteArray), .string (⟨#[]⟩ : ByteArray)]) ?_ 0 _ rfl; (with_reducible repeat (first | refine blk_drewN ?_ _ | refine blk_drew ?_ | refine blk_alloc ?_ _)); exact BK119.out) hb); have n2_ := Aside0.mk (below_step (by repeat (first | (with_reducible first | exact HB.out | apply below_alloc | apply pw_below_drewN | apply below_drew1 | refine below_set ?_ GE111.out | refine below_set ?_ GE119.out) | exact HB.out)) hb); clear BK111; clear BK119; clear HB; have BK111 := n0_; have BK119 := n1_; have HB := n2_; clear n0_ n1_ n2_; (try clear hb); (try clear hb2); (try clear hk); (try clear hi)))
                  go_ret
                  exact ⟨by first | rfl | (simp [errW_none, errW_some] <;> rfl) | (simp [*, errW_none, errW_some] <;> rfl) | (simp [ne_nil_bool]; done) | (simp [*, ne_nil_bool]; done), by repeat (first | (with_reducible first | exact HB.out | apply below_alloc | apply pw_below_drewN | apply below_drew1 | refine below_set ?_ GE111.out | refine below_set ?_ GE119.out) | exact HB.out)⟩
                · rw [if_neg c33] at H
                  have c33b0 : ((t114 == 0) == t118) = false := by simpa using c33
                  (try (have c33b1 : decide ((t114 == 0) = t118) = false := by simpa using c33))
                  (try (have c33b2 : ((t114 == 0) == t118) = false := by simpa using c33))
                  (try (have c33b3 : ¬ ((t114 == 0) = t118) := by simpa using c33))
                  clear c33
                  obtain rfl := Option.some.inj H
                  go_wp2_with (first | ((with_reducible refine gate_callee (f := 45) rfl ?_); refine goesL_ (some 66) rfl rfl Tryd.func45 (by kernel_rfl) rfl #[.slice A0 l0.length c0, .string a1] rfl (by (try simp only [List.map_toArray, List.map_cons, List.map_nil]); first | done | rfl | (simp only [List.length_drop, List.length_take]; rfl)) ?_; (with_reducible refine (refs_Full.calls kj14 _ _ l0 a1 t113 t114 _ ?side1 ?side2 A31.out).mono ?_); (case side1 => repeat (first | exact (Kd.C_below HR0.out HB.out) | (with_reducible refine Kd.C_alloc ?_ _) | (with_reducible refine Kd.C_drewN ?_ _) | (with_reducible refine Kd.C_drew ?_))); (case side2 => exact HC0.out); rintro e w41 ⟨rfl, hb⟩; refine ⟨_, rfl, ?_⟩; have n0_ := Aside0.mk (blk_below (g := gb111) (o := .cells #[.string t107, .string t108, .string t109] 55 (0, 0)) (by (with_reducible repeat (first | refine blk_drewN ?_ _ | refine blk_drew ?_ | refine blk_alloc ?_ _)); exact BK111.out) hb); have n1_ := Aside0.mk (below_step (by repeat (first | (with_reducible first | exact HB.out | apply below_alloc | apply pw_below_drewN | apply below_drew1 | refine below_set ?_ GE111.out) | exact HB.out)) hb); clear BK111; clear HB; have BK111 := n0_; have HB := n1_; clear n0_ n1_; (try clear hb); (try clear hb2); (try clear hk); (try clear hi)) | ((with_reducible refine gate_callee (f := 44) rfl ?_); refine goesL_ (some 72) rfl rfl Tryd.func44 (by kernel_rfl) rfl #[.slice A0 l0.length c0, .string t113] rfl (by (try simp only [List.map_toArray, List.map_cons, List.map_nil]); first | done | rfl | (simp only [List.length_drop, List.length_take]; rfl)) ?_; (with_reducible refine (refs_Find.calls kj14 _ _ l0 t113 t115 t116 t117 t118 _ ?side1 ?side2 A32.out).mono ?_); (case side1 => repeat (first | exact (Kd.C_below HR0.out HB.out) | (with_reducible refine Kd.C_alloc ?_ _) | (with_reducible refine Kd.C_drewN ?_ _) | (with_reducible refine Kd.C_drew ?_))); (case side2 => exact HC0.out); rintro e w42 ⟨rfl, hb⟩; refine ⟨_, rfl, ?_⟩; have n0_ := Aside0.mk (blk_below (g := gb111) (o := .cells #[.string t107, .string t108, .string t109] 55 (0, 0)) (by (with_reducible repeat (first | refine blk_drewN ?_ _ | refine blk_drew ?_ | refine blk_alloc ?_ _)); exact BK111.out) hb); have n1_ := Aside0.mk (below_step (by repeat (first | (with_reducible first | exact HB.out | apply below_alloc | apply pw_below_drewN | apply below_drew1 | refine below_set ?_ GE111.out) | exact HB.out)) hb); clear BK111; clear HB; have BK111 := n0_; have HB := n1_; clear n0_ n1_; (try clear hb); (try clear hb2); (try clear hk); (try clear hi)) | ((with_reducible refine gate_dst (N := 12) rfl ?_); (try (refine gate_guard (by rfl) ?_; dsimp only)); refine box_event ?hg (N := 12) ?hd (cs := #[.string (⟨#[]⟩ : ByteArray), .string (⟨#[]⟩ : ByteArray), .string (⟨#[]⟩ : ByteArray)]) (t := 55) ?hr ?_; (case hd => rfl); (case hg => rfl); (case hr => first | (go_simp; done) | (go_simp; rfl)); intro gb119 hg w43 hbox hb; have n0_ := Aside0.mk (blk_below (g := gb111) (o := .cells #[.string t107, .string t108, .string t109] 55 (0, 0)) (by (with_reducible repeat (first | refine blk_drewN ?_ _ | refine blk_drew ?_ | refine blk_alloc ?_ _)); exact BK111.out) hb); have n1_ := Aside0.mk (below_step (by repeat (first | (with_reducible first | exact HB.out | apply below_alloc | apply pw_below_drewN | apply below_drew1 | refine below_set ?_ GE111.out) | exact HB.out)) hb); have n2_ := Aside0.mk (hbox); have n3_ := Aside0.mk ((by rw [hg]; exact (below_size (by repeat (first | (with_reducible first | exact HB.out | apply below_alloc | apply pw_below_drewN | apply below_drew1 | refine below_set ?_ GE111.out) | exact HB.out))) : w.heap.size ≤ gb119)); have n4_ := Aside0.mk ((by rw [hg]; exact (below_size (by repeat (first | (with_reducible first | exact HB.out | apply below_alloc | apply pw_below_drewN | apply below_drew1 | refine below_set ?_ GE111.out) | exact HB.out))) : w.heap.size ≤ gb119)); have n5_ := Aside0.mk ((by rw [hg]; exact Nat.ne_of_lt (blk_lt (g := gb111) (o := .cells #[.string t107, .string t108, .string t109] 55 (0, 0)) (by (with_reducible repeat (first | refine blk_drewN ?_ _ | refine blk_drew ?_ | refine blk_alloc ?_ _)); exact BK111.out)) : gb111 ≠ gb119)); have n6_ := Aside0.mk ((by rw [hg]; exact Nat.ne_of_gt (blk_lt (g := gb111) (o := .cells #[.string t107, .string t108, .string t109] 55 (0, 0)) (by (with_reducible repeat (first | refine blk_drewN ?_ _ | refine blk_drew ?_ | refine blk_alloc ?_ _)); exact BK111.out)) : gb119 ≠ gb111)); clear BK111; clear HB; have BK111 := n0_; have HB := n1_; have BK119 := n2_; have GW119 := n3_; have GE119 := n4_; have NB111_119 := n5_; have NB119_111 := n6_; clear n0_ n1_ n2_ n3_ n4_ n5_ n6_; clear hb hbox hg; have hnb44 := NB119_111.out; have hnc44 := NB111_119.out; have hcz45_0 : w43.cell? ⟨gb119, 0, none⟩ = some (.string (⟨#[]⟩ : ByteArray)) := (blk_cell BK119.out 0).trans rfl; have hcz45_1 : w43.cell? ⟨gb119, 1, none⟩ = some (.string (⟨#[]⟩ : ByteArray)) := (blk_cell BK119.out 1).trans rfl; have hcz45_2 : w43.cell? ⟨gb119, 2, none⟩ = some (.string (⟨#[]⟩ : ByteArray)) := (blk_cell BK119.out 2).trans rfl; have hfz45_0 := blk_frozen BK119.out 0; have hfz45_1 := blk_frozen BK119.out 1; have hfz45_2 := blk_frozen BK119.out 2))
                  go_ret
                  exact ⟨by first | rfl | (simp [errW_none, errW_some] <;> rfl) | (simp [*, errW_none, errW_some] <;> rfl) | (simp [ne_nil_bool]; done) | (simp [*, ne_nil_bool]; done), by repeat (first | (with_reducible first | exact HB.out | apply below_alloc | apply pw_below_drewN | apply below_drew1 | refine below_set ?_ GE111.out | refine below_set ?_ GE119.out) | exact HB.out)⟩
        · rw [if_neg c13] at H
          have c13b0 : (t106 == 0) = false := beq_eq_false_iff_ne.mpr c13
          have c13b1 : (t106 != 0) = true := bne_iff_ne.mpr c13
          replace H := Option.bind_eq_some_iff.mp H
          obtain ⟨⟨t121, t122⟩, A460, H⟩ := H
          replace H : ((refs_Find.f kj2 l0 t121).bind fun bt123 => (if ((t122 == 0) == bt123.2.2.2) = true then ((graftagelaw37_lives.f kj2).bind fun t128 => (some t128)) else (some false))) = some r := H
          have A46 := Aside0.mk A460
          clear A460
          replace H := Option.bind_eq_some_iff.mp H
          obtain ⟨⟨t123, t124, t125, t126⟩, A470, H⟩ := H
          replace H : (if ((t122 == 0) == t126) = true then ((graftagelaw37_lives.f kj2).bind fun t128 => (some t128)) else (some false)) = some r := H
          have A47 := Aside0.mk A470
          clear A470
          by_cases c48 : ((t122 == 0) == t126) = true
          · rw [if_pos c48] at H
            have c48b0 : ((t122 == 0) == t126) = true := c48
            (try (have c48b1 : decide ((t122 == 0) = t126) = true := by simpa using c48))
            (try (have c48b2 : ((t122 == 0) == t126) = true := by simpa using c48))
            clear c48
            replace H := Option.bind_eq_some_iff.mp H
            obtain ⟨t128, A490, H⟩ := H
            replace H : (some t128) = some r := H
            have A49 := Aside0.mk A490
            clear A490
            obtain rfl := Option.some.inj H
            go_wp2_with (first | ((with_reducible refine gate_callee (f := 43) rfl ?_); refine goesL_ (some 31) rfl rfl Tryd.func43 (by kernel_rfl) rfl #[.slice A0 l0.length c0, .string a1] rfl (by (try simp only [List.map_toArray, List.map_cons, List.map_nil]); first | done | rfl | (simp only [List.length_drop, List.length_take]; rfl)) ?_; (with_reducible refine (refs_Resolve.calls kj2 _ _ l0 a1 t104 t105 t106 _ ?side1 ?side2 ?side3 A12.out).mono ?_); (case side1 => repeat (first | exact (Kd.C_below HR0.out HB.out) | (with_reducible refine Kd.C_alloc ?_ _) | (with_reducible refine Kd.C_drewN ?_ _) | (with_reducible refine Kd.C_drew ?_))); (case side2 => exact HC0.out); (case side3 => exact GV.below hgv (by repeat (first | (with_reducible first | exact HB.out | apply below_alloc | apply pw_below_drewN | apply below_drew1) | exact HB.out))); rintro e w50 ⟨rfl, hb⟩; refine ⟨_, rfl, ?_⟩; have n0_ := Aside0.mk (below_step (by repeat (first | (with_reducible first | exact HB.out | apply below_alloc | apply pw_below_drewN | apply below_drew1) | exact HB.out)) hb); clear HB; have HB := n0_; clear n0_; (try clear hb); (try clear hb2); (try clear hk); (try clear hi)) | ((with_reducible refine gate_callee (f := 45) rfl ?_); refine goesL_ (some 66) rfl rfl Tryd.func45 (by kernel_rfl) rfl #[.slice A0 l0.length c0, .string a1] rfl (by (try simp only [List.map_toArray, List.map_cons, List.map_nil]); first | done | rfl | (simp only [List.length_drop, List.length_take]; rfl)) ?_; (with_reducible refine (refs_Full.calls kj2 _ _ l0 a1 t121 t122 _ ?side1 ?side2 A46.out).mono ?_); (case side1 => repeat (first | exact (Kd.C_below HR0.out HB.out) | (with_reducible refine Kd.C_alloc ?_ _) | (with_reducible refine Kd.C_drewN ?_ _) | (with_reducible refine Kd.C_drew ?_))); (case side2 => exact HC0.out); rintro e w51 ⟨rfl, hb⟩; refine ⟨_, rfl, ?_⟩; have n0_ := Aside0.mk (below_step (by repeat (first | (with_reducible first | exact HB.out | apply below_alloc | apply pw_below_drewN | apply below_drew1) | exact HB.out)) hb); clear HB; have HB := n0_; clear n0_; (try clear hb); (try clear hb2); (try clear hk); (try clear hi)) | ((with_reducible refine gate_callee (f := 44) rfl ?_); refine goesL_ (some 72) rfl rfl Tryd.func44 (by kernel_rfl) rfl #[.slice A0 l0.length c0, .string t121] rfl (by (try simp only [List.map_toArray, List.map_cons, List.map_nil]); first | done | rfl | (simp only [List.length_drop, List.length_take]; rfl)) ?_; (with_reducible refine (refs_Find.calls kj2 _ _ l0 t121 t123 t124 t125 t126 _ ?side1 ?side2 A47.out).mono ?_); (case side1 => repeat (first | exact (Kd.C_below HR0.out HB.out) | (with_reducible refine Kd.C_alloc ?_ _) | (with_reducible refine Kd.C_drewN ?_ _) | (with_reducible refine Kd.C_drew ?_))); (case side2 => exact HC0.out); rintro e w52 ⟨rfl, hb⟩; refine ⟨_, rfl, ?_⟩; have n0_ := Aside0.mk (below_step (by repeat (first | (with_reducible first | exact HB.out | apply below_alloc | apply pw_below_drewN | apply below_drew1) | exact HB.out)) hb); clear HB; have HB := n0_; clear n0_; (try clear hb); (try clear hb2); (try clear hk); (try clear hi)) | ((with_reducible refine gate_dst (N := 12) rfl ?_); (try (refine gate_guard (by rfl) ?_; dsimp only)); refine box_event ?hg (N := 12) ?hd (cs := #[.string (⟨#[]⟩ : ByteArray), .string (⟨#[]⟩ : ByteArray), .string (⟨#[]⟩ : ByteArray)]) (t := 55) ?hr ?_; (case hd => rfl); (case hg => rfl); (case hr => first | (go_simp; done) | (go_simp; rfl)); intro gb127 hg w53 hbox hb; have n0_ := Aside0.mk (below_step (by repeat (first | (with_reducible first | exact HB.out | apply below_alloc | apply pw_below_drewN | apply below_drew1) | exact HB.out)) hb); have n1_ := Aside0.mk (hbox); have n2_ := Aside0.mk ((by rw [hg]; exact (below_size (by repeat (first | (with_reducible first | exact HB.out | apply below_alloc | apply pw_below_drewN | apply below_drew1) | exact HB.out))) : w.heap.size ≤ gb127)); have n3_ := Aside0.mk ((by rw [hg]; exact (below_size (by repeat (first | (with_reducible first | exact HB.out | apply below_alloc | apply pw_below_drewN | apply below_drew1) | exact HB.out))) : w.heap.size ≤ gb127)); clear HB; have HB := n0_; have BK127 := n1_; have GW127 := n2_; have GE127 := n3_; clear n0_ n1_ n2_ n3_; clear hb hbox hg; have hcz54_0 : w53.cell? ⟨gb127, 0, none⟩ = some (.string (⟨#[]⟩ : ByteArray)) := (blk_cell BK127.out 0).trans rfl; have hcz54_1 : w53.cell? ⟨gb127, 1, none⟩ = some (.string (⟨#[]⟩ : ByteArray)) := (blk_cell BK127.out 1).trans rfl; have hcz54_2 : w53.cell? ⟨gb127, 2, none⟩ = some (.string (⟨#[]⟩ : ByteArray)) := (blk_cell BK127.out 2).trans rfl; have hfz54_0 := blk_frozen BK127.out 0; have hfz54_1 := blk_frozen BK127.out 1; have hfz54_2 := blk_frozen BK127.out 2) | (go_at_call 33; (with_reducible refine (graftagelaw37_lives.calls kj2  t128 _ ?side1 A49.out).mono ?_); (case side1 => exact GV.below hgv (by repeat (first | (with_reducible first | exact HB.out | apply below_alloc | apply pw_below_drewN | apply below_drew1 | refine below_set ?_ GE127.out) | exact HB.out))); rintro e w55 ⟨rfl, hb⟩; have n0_ := Aside0.mk (blk_below (g := gb127) (o := .cells #[.string t123, .string t124, .string t125] 55 (0, 0)) (by (with_reducible repeat (first | refine blk_drewN ?_ _ | refine blk_drew ?_ | refine blk_alloc ?_ _)); refine blk_put (cs := #[.string t123, .string t124, .string (⟨#[]⟩ : ByteArray)]) ?_ 2 _ rfl; (with_reducible repeat (first | refine blk_drewN ?_ _ | refine blk_drew ?_ | refine blk_alloc ?_ _)); refine blk_put (cs := #[.string t123, .string (⟨#[]⟩ : ByteArray), .string (⟨#[]⟩ : ByteArray)]) ?_ 1 _ rfl; (with_reducible repeat (first | refine blk_drewN ?_ _ | refine blk_drew ?_ | refine blk_alloc ?_ _)); refine blk_put (cs := #[.string (⟨#[]⟩ : ByteArray), .string (⟨#[]⟩ : ByteArray), .string (⟨#[]⟩ : ByteArray)]) ?_ 0 _ rfl; (with_reducible repeat (first | refine blk_drewN ?_ _ | refine blk_drew ?_ | refine blk_alloc ?_ _)); exact BK127.out) hb); have n1_ := Aside0.mk (below_step (by repeat (first | (with_reducible first | exact HB.out | apply below_alloc | apply pw_below_drewN | apply below_drew1 | refine below_set ?_ GE127.out) | exact HB.out)) hb); clear BK127; clear HB; have BK127 := n0_; have HB := n1_; clear n0_ n1_; (try clear hb); (try clear hb2); (try clear hk); (try clear hi)))
            go_ret
            exact ⟨by first | rfl | (simp [errW_none, errW_some] <;> rfl) | (simp [*, errW_none, errW_some] <;> rfl) | (simp [ne_nil_bool]; done) | (simp [*, ne_nil_bool]; done), by repeat (first | (with_reducible first | exact HB.out | apply below_alloc | apply pw_below_drewN | apply below_drew1 | refine below_set ?_ GE127.out) | exact HB.out)⟩
          · rw [if_neg c48] at H
            have c48b0 : ((t122 == 0) == t126) = false := by simpa using c48
            (try (have c48b1 : decide ((t122 == 0) = t126) = false := by simpa using c48))
            (try (have c48b2 : ((t122 == 0) == t126) = false := by simpa using c48))
            (try (have c48b3 : ¬ ((t122 == 0) = t126) := by simpa using c48))
            clear c48
            obtain rfl := Option.some.inj H
            go_wp2_with (first | ((with_reducible refine gate_callee (f := 43) rfl ?_); refine goesL_ (some 31) rfl rfl Tryd.func43 (by kernel_rfl) rfl #[.slice A0 l0.length c0, .string a1] rfl (by (try simp only [List.map_toArray, List.map_cons, List.map_nil]); first | done | rfl | (simp only [List.length_drop, List.length_take]; rfl)) ?_; (with_reducible refine (refs_Resolve.calls kj2 _ _ l0 a1 t104 t105 t106 _ ?side1 ?side2 ?side3 A12.out).mono ?_); (case side1 => repeat (first | exact (Kd.C_below HR0.out HB.out) | (with_reducible refine Kd.C_alloc ?_ _) | (with_reducible refine Kd.C_drewN ?_ _) | (with_reducible refine Kd.C_drew ?_))); (case side2 => exact HC0.out); (case side3 => exact GV.below hgv (by repeat (first | (with_reducible first | exact HB.out | apply below_alloc | apply pw_below_drewN | apply below_drew1) | exact HB.out))); rintro e w56 ⟨rfl, hb⟩; refine ⟨_, rfl, ?_⟩; have n0_ := Aside0.mk (below_step (by repeat (first | (with_reducible first | exact HB.out | apply below_alloc | apply pw_below_drewN | apply below_drew1) | exact HB.out)) hb); clear HB; have HB := n0_; clear n0_; (try clear hb); (try clear hb2); (try clear hk); (try clear hi)) | ((with_reducible refine gate_callee (f := 45) rfl ?_); refine goesL_ (some 66) rfl rfl Tryd.func45 (by kernel_rfl) rfl #[.slice A0 l0.length c0, .string a1] rfl (by (try simp only [List.map_toArray, List.map_cons, List.map_nil]); first | done | rfl | (simp only [List.length_drop, List.length_take]; rfl)) ?_; (with_reducible refine (refs_Full.calls kj2 _ _ l0 a1 t121 t122 _ ?side1 ?side2 A46.out).mono ?_); (case side1 => repeat (first | exact (Kd.C_below HR0.out HB.out) | (with_reducible refine Kd.C_alloc ?_ _) | (with_reducible refine Kd.C_drewN ?_ _) | (with_reducible refine Kd.C_drew ?_))); (case side2 => exact HC0.out); rintro e w57 ⟨rfl, hb⟩; refine ⟨_, rfl, ?_⟩; have n0_ := Aside0.mk (below_step (by repeat (first | (with_reducible first | exact HB.out | apply below_alloc | apply pw_below_drewN | apply below_drew1) | exact HB.out)) hb); clear HB; have HB := n0_; clear n0_; (try clear hb); (try clear hb2); (try clear hk); (try clear hi)) | ((with_reducible refine gate_callee (f := 44) rfl ?_); refine goesL_ (some 72) rfl rfl Tryd.func44 (by kernel_rfl) rfl #[.slice A0 l0.length c0, .string t121] rfl (by (try simp only [List.map_toArray, List.map_cons, List.map_nil]); first | done | rfl | (simp only [List.length_drop, List.length_take]; rfl)) ?_; (with_reducible refine (refs_Find.calls kj2 _ _ l0 t121 t123 t124 t125 t126 _ ?side1 ?side2 A47.out).mono ?_); (case side1 => repeat (first | exact (Kd.C_below HR0.out HB.out) | (with_reducible refine Kd.C_alloc ?_ _) | (with_reducible refine Kd.C_drewN ?_ _) | (with_reducible refine Kd.C_drew ?_))); (case side2 => exact HC0.out); rintro e w58 ⟨rfl, hb⟩; refine ⟨_, rfl, ?_⟩; have n0_ := Aside0.mk (below_step (by repeat (first | (with_reducible first | exact HB.out | apply below_alloc | apply pw_below_drewN | apply below_drew1) | exact HB.out)) hb); clear HB; have HB := n0_; clear n0_; (try clear hb); (try clear hb2); (try clear hk); (try clear hi)) | ((with_reducible refine gate_dst (N := 12) rfl ?_); (try (refine gate_guard (by rfl) ?_; dsimp only)); refine box_event ?hg (N := 12) ?hd (cs := #[.string (⟨#[]⟩ : ByteArray), .string (⟨#[]⟩ : ByteArray), .string (⟨#[]⟩ : ByteArray)]) (t := 55) ?hr ?_; (case hd => rfl); (case hg => rfl); (case hr => first | (go_simp; done) | (go_simp; rfl)); intro gb127 hg w59 hbox hb; have n0_ := Aside0.mk (below_step (by repeat (first | (with_reducible first | exact HB.out | apply below_alloc | apply pw_below_drewN | apply below_drew1) | exact HB.out)) hb); have n1_ := Aside0.mk (hbox); have n2_ := Aside0.mk ((by rw [hg]; exact (below_size (by repeat (first | (with_reducible first | exact HB.out | apply below_alloc | apply pw_below_drewN | apply below_drew1) | exact HB.out))) : w.heap.size ≤ gb127)); have n3_ := Aside0.mk ((by rw [hg]; exact (below_size (by repeat (first | (with_reducible first | exact HB.out | apply below_alloc | apply pw_below_drewN | apply below_drew1) | exact HB.out))) : w.heap.size ≤ gb127)); clear HB; have HB := n0_; have BK127 := n1_; have GW127 := n2_; have GE127 := n3_; clear n0_ n1_ n2_ n3_; clear hb hbox hg; have hcz60_0 : w59.cell? ⟨gb127, 0, none⟩ = some (.string (⟨#[]⟩ : ByteArray)) := (blk_cell BK127.out 0).trans rfl; have hcz60_1 : w59.cell? ⟨gb127, 1, none⟩ = some (.string (⟨#[]⟩ : ByteArray)) := (blk_cell BK127.out 1).trans rfl; have hcz60_2 : w59.cell? ⟨gb127, 2, none⟩ = some (.string (⟨#[]⟩ : ByteArray)) := (blk_cell BK127.out 2).trans rfl; have hfz60_0 := blk_frozen BK127.out 0; have hfz60_1 := blk_frozen BK127.out 1; have hfz60_2 := blk_frozen BK127.out 2))
            go_ret
            exact ⟨by first | rfl | (simp [errW_none, errW_some] <;> rfl) | (simp [*, errW_none, errW_some] <;> rfl) | (simp [ne_nil_bool]; done) | (simp [*, ne_nil_bool]; done), by repeat (first | (with_reducible first | exact HB.out | apply below_alloc | apply pw_below_drewN | apply below_drew1 | refine below_set ?_ GE127.out) | exact HB.out)⟩

end Go.Proofs.YtccbpbdfihnlgaaDoor.Q


/- Contracts of Go functions as calls of plain Lean functions, written by a program of this session over the kit's print. -/
namespace Go.Proofs.YtccbpbdfihnlgaaDoor.Q
open Go.RowKit Go.Proofs.YtccbpbdfihnlgaaDoorW.PrintWords Go.Proofs.YtccbpbdfihnlgaaDoorW.PrintLast Go.Proofs.YtccbpbdfihnlgaaDoorW.PrintMore
attribute [local go_sem] max2_int min2_int max_two min_two max_three min_three max_four min_four   -- for this text's walks alone

/-! ### graftageref06_Parts: function 82 -/
def graftageref06_Parts.l0 : Nat → ByteArray → List ByteArray → Int → Int → Option (List ByteArray)
  | 0, _, _, _, _ => none
  | k + 1, x0, x3, x4, x5 => if x5 < (x0.size : Int) then (if 0 ≤ x5 then (if (bt x0 x5) = 47 then (if 0 ≤ x4 then (if x4 ≤ x5 then (if x5 ≤ (x0.size : Int) then (if x3.length < 8796093022208 then (graftageref06_Parts.l0 k x0 (x3 ++ [x0.extract (x4 : Int).toNat (x5 : Int).toNat]) (wrap64 (x5 + 1)) (wrap64 (x5 + 1))) else (none)) else (none)) else (none)) else (none)) else (graftageref06_Parts.l0 k x0 x3 x4 (wrap64 (x5 + 1)))) else (none)) else (if 0 ≤ x4 then (if x4 ≤ (x0.size : Int) then (if x3.length < 8796093022208 then (some (x3 ++ [x0.extract (x4 : Int).toNat x0.size])) else (none)) else (none)) else (none))
def graftageref06_Parts.f (k : Nat) (a0 : ByteArray) : Option (List ByteArray) := if a0.toList = ([] : List UInt8) then (some ([] : List ByteArray)) else (graftageref06_Parts.l0 k a0 ([] : List ByteArray) 0 0)
theorem graftageref06_Parts.mono_l : ∀ k, (∀ y0 y1 y2 y3, LeO (graftageref06_Parts.l0 k y0 y1 y2 y3) (graftageref06_Parts.l0 (k + 1) y0 y1 y2 y3))
  | 0 => fun _ _ _ _ r h => by simp [graftageref06_Parts.l0] at h
  | k + 1 => by
    have ih0 := graftageref06_Parts.mono_l k
    · intro y0 y1 y2 y3
      unfold graftageref06_Parts.l0
      repeat' first
      | (with_reducible exact ih0 _ _ _ _)
      | (with_reducible exact LeO.refl _)
      | (with_reducible exact LeO.none _)
      | (with_reducible refine LeO.ite ?_ ?_)
      | (with_reducible refine LeO.bind ?_ (fun _ => ?_))
      | exact ih0 _ _ _ _
      | exact LeO.none _
      | refine LeO.ite ?_ ?_
      | refine LeO.bind ?_ (fun _ => ?_)
theorem graftageref06_Parts.mono : ∀ a0 k, LeO (graftageref06_Parts.f k a0) (graftageref06_Parts.f (k + 1) a0) := by
  intro a0 k
  have ih0 := graftageref06_Parts.mono_l k
  unfold graftageref06_Parts.f
  repeat' first
      | (with_reducible exact ih0 _ _ _ _)
      | (with_reducible exact LeO.refl _)
      | (with_reducible exact LeO.none _)
      | (with_reducible refine LeO.ite ?_ ?_)
      | (with_reducible refine LeO.bind ?_ (fun _ => ?_))
      | exact ih0 _ _ _ _
      | exact LeO.none _
      | refine LeO.ite ?_ ?_
      | refine LeO.bind ?_ (fun _ => ?_)
end Go.Proofs.YtccbpbdfihnlgaaDoor.Q


/- Contracts of Go functions as calls of plain Lean functions, written by a program of this session over the kit's print. -/
namespace Go.Proofs.YtccbpbdfihnlgaaDoor.Q
open Go.RowKit Go.Proofs.YtccbpbdfihnlgaaDoorW.PrintWords Go.Proofs.YtccbpbdfihnlgaaDoorW.PrintLast Go.Proofs.YtccbpbdfihnlgaaDoorW.PrintMore
attribute [local go_sem] max2_int min2_int max_two min_two max_three min_three max_four min_four   -- for this text's walks alone

/-! ### graftageref06_part: function 111 -/
mutual
def graftageref06_part.j0 : Nat → ByteArray → Bool → Option (Bool)
  | 0, _, _ => none
  | k + 1, x0, x23 => if x23 = true then (some false) else (graftageref06_part.l0 k x0 0)
def graftageref06_part.l0 : Nat → ByteArray → Int → Option (Bool)
  | 0, _, _ => none
  | k + 1, x0, x3 => if x3 < (x0.size : Int) then (if 0 ≤ x3 then (if (bt x0 x3) < 32 then (some false) else (if (bt x0 x3) = 47 then (some false) else (graftageref06_part.l0 k x0 (wrap64 (x3 + 1))))) else (none)) else (some true)
end
def graftageref06_part.f (k : Nat) (a0 : ByteArray) : Option (Bool) := if (a0.size : Int) < 1 then (graftageref06_part.j0 k a0 true) else (if (a0.size : Int) > 64 then (graftageref06_part.j0 k a0 true) else (if a0.toList = ([46] : List UInt8) then (graftageref06_part.j0 k a0 true) else (if a0.toList = ([46, 46] : List UInt8) then (graftageref06_part.j0 k a0 true) else (graftageref06_part.j0 k a0 (a0.toList == ([46, 103, 114, 97, 102, 116] : List UInt8))))))
theorem graftageref06_part.mono_l : ∀ k, (∀ y0 y1, LeO (graftageref06_part.j0 k y0 y1) (graftageref06_part.j0 (k + 1) y0 y1)) ∧ (∀ y0 y1, LeO (graftageref06_part.l0 k y0 y1) (graftageref06_part.l0 (k + 1) y0 y1))
  | 0 => ⟨fun _ _ r h => by simp [graftageref06_part.j0] at h, fun _ _ r h => by simp [graftageref06_part.l0] at h⟩
  | k + 1 => by
    obtain ⟨ih0, ih1⟩ := graftageref06_part.mono_l k
    refine ⟨?_, ?_⟩
    · intro y0 y1
      unfold graftageref06_part.j0
      repeat' first
      | (with_reducible exact ih0 _ _)
      | (with_reducible exact ih1 _ _)
      | (with_reducible exact LeO.refl _)
      | (with_reducible exact LeO.none _)
      | (with_reducible refine LeO.ite ?_ ?_)
      | (with_reducible refine LeO.bind ?_ (fun _ => ?_))
      | exact ih0 _ _
      | exact ih1 _ _
      | exact LeO.none _
      | refine LeO.ite ?_ ?_
      | refine LeO.bind ?_ (fun _ => ?_)
    · intro y0 y1
      unfold graftageref06_part.l0
      repeat' first
      | (with_reducible exact ih0 _ _)
      | (with_reducible exact ih1 _ _)
      | (with_reducible exact LeO.refl _)
      | (with_reducible exact LeO.none _)
      | (with_reducible refine LeO.ite ?_ ?_)
      | (with_reducible refine LeO.bind ?_ (fun _ => ?_))
      | exact ih0 _ _
      | exact ih1 _ _
      | exact LeO.none _
      | refine LeO.ite ?_ ?_
      | refine LeO.bind ?_ (fun _ => ?_)
theorem graftageref06_part.mono : ∀ a0 k, LeO (graftageref06_part.f k a0) (graftageref06_part.f (k + 1) a0) := by
  intro a0 k
  obtain ⟨ih0, ih1⟩ := graftageref06_part.mono_l k
  unfold graftageref06_part.f
  repeat' first
      | (with_reducible exact ih0 _ _)
      | (with_reducible exact ih1 _ _)
      | (with_reducible exact LeO.refl _)
      | (with_reducible exact LeO.none _)
      | (with_reducible refine LeO.ite ?_ ?_)
      | (with_reducible refine LeO.bind ?_ (fun _ => ?_))
      | exact ih0 _ _
      | exact ih1 _ _
      | exact LeO.none _
      | refine LeO.ite ?_ ?_
      | refine LeO.bind ?_ (fun _ => ?_)
end Go.Proofs.YtccbpbdfihnlgaaDoor.Q


/- Contracts of Go functions as calls of plain Lean functions, written by a program of this session over the kit's print. -/
namespace Go.Proofs.YtccbpbdfihnlgaaDoor.Q
open Go.RowKit Go.Proofs.YtccbpbdfihnlgaaDoorW.PrintWords Go.Proofs.YtccbpbdfihnlgaaDoorW.PrintLast Go.Proofs.YtccbpbdfihnlgaaDoorW.PrintMore
attribute [local go_sem] max2_int min2_int max_two min_two max_three min_three max_four min_four   -- for this text's walks alone

/-! ### graftageref06_Is: function 60 -/
mutual
def graftageref06_Is.j0 : Nat → List ByteArray → Bool → Option (Bool)
  | 0, _, _ => none
  | k + 1, x3, x19 => if x19 = true then (some false) else (graftageref06_Is.l0 k x3 0)
def graftageref06_Is.l0 : Nat → List ByteArray → Int → Option (Bool)
  | 0, _, _ => none
  | k + 1, x3, x4 => if x4 < (x3.length : Int) then (if 0 ≤ x4 then ((graftageref06_part.f k (rdOf ByteArray.empty x3 x4)).bind fun t184 => (if t184 = true then (graftageref06_Is.l0 k x3 (wrap64 (x4 + 1))) else (some false))) else (none)) else (some true)
end
def graftageref06_Is.f (k : Nat) (a0 : ByteArray) : Option (Bool) := (graftageref06_Parts.f k a0).bind fun t180 => (if (t180.length : Int) < 1 then (graftageref06_Is.j0 k t180 true) else (if (t180.length : Int) > 16 then (graftageref06_Is.j0 k t180 true) else (graftageref06_Is.j0 k t180 (decide ((a0.size : Int) > 255)))))
theorem graftageref06_Is.mono_l : ∀ k, (∀ y0 y1, LeO (graftageref06_Is.j0 k y0 y1) (graftageref06_Is.j0 (k + 1) y0 y1)) ∧ (∀ y0 y1, LeO (graftageref06_Is.l0 k y0 y1) (graftageref06_Is.l0 (k + 1) y0 y1))
  | 0 => ⟨fun _ _ r h => by simp [graftageref06_Is.j0] at h, fun _ _ r h => by simp [graftageref06_Is.l0] at h⟩
  | k + 1 => by
    obtain ⟨ih0, ih1⟩ := graftageref06_Is.mono_l k
    refine ⟨?_, ?_⟩
    · intro y0 y1
      unfold graftageref06_Is.j0
      repeat' first
      | (with_reducible exact ih0 _ _)
      | (with_reducible exact ih1 _ _)
      | (with_reducible exact graftageref06_Parts.mono _ _)
      | (with_reducible exact graftageref06_part.mono _ _)
      | (with_reducible exact LeO.refl _)
      | (with_reducible exact LeO.none _)
      | (with_reducible refine LeO.ite ?_ ?_)
      | (with_reducible refine LeO.bind ?_ (fun _ => ?_))
      | exact ih0 _ _
      | exact ih1 _ _
      | exact graftageref06_Parts.mono _ _
      | exact graftageref06_part.mono _ _
      | exact LeO.none _
      | refine LeO.ite ?_ ?_
      | refine LeO.bind ?_ (fun _ => ?_)
    · intro y0 y1
      unfold graftageref06_Is.l0
      repeat' first
      | (with_reducible exact ih0 _ _)
      | (with_reducible exact ih1 _ _)
      | (with_reducible exact graftageref06_Parts.mono _ _)
      | (with_reducible exact graftageref06_part.mono _ _)
      | (with_reducible exact LeO.refl _)
      | (with_reducible exact LeO.none _)
      | (with_reducible refine LeO.ite ?_ ?_)
      | (with_reducible refine LeO.bind ?_ (fun _ => ?_))
      | exact ih0 _ _
      | exact ih1 _ _
      | exact graftageref06_Parts.mono _ _
      | exact graftageref06_part.mono _ _
      | exact LeO.none _
      | refine LeO.ite ?_ ?_
      | refine LeO.bind ?_ (fun _ => ?_)
end Go.Proofs.YtccbpbdfihnlgaaDoor.Q


/- Paths: the parts between slashes, and what is a path; the program's and the reference's. -/
namespace Go.Proofs.YtccbpbdfihnlgaaDoor.Q
open Go.RowKit Go.Proofs.YtccbpbdfihnlgaaDoorW.PrintWords Go.Proofs.YtccbpbdfihnlgaaDoorW.PrintLast Go.Proofs.YtccbpbdfihnlgaaDoorW.PrintMore

theorem wrap_id {x : Int} (h0 : -9223372036854775808 ≤ x) (h1 : x ≤ 9223372036854775807) : wrap64 x = x := by unfold wrap64; omega
theorem rd_ext (l : List ByteArray) (i : Nat) (h : i < l.length) : rdOf ByteArray.empty l i = l[i] := by
  simp [rdOf, List.getD, List.getElem?_eq_getElem h]
theorem ba_ext {a b : ByteArray} (h : a.data.toList = b.data.toList) : a = b := by
  cases a; cases b; simp at h; simp [h]
/-! ### Parts -/
def consH (b : UInt8) : List (List UInt8) → List (List UInt8)
  | [] => [[b]]
  | h :: t => (b :: h) :: t
def partsL : List UInt8 → List (List UInt8)
  | [] => [[]]
  | b :: r => if b = 47 then [] :: partsL r else consH b (partsL r)
theorem partsL_ne (l : List UInt8) : partsL l ≠ [] := by
  cases l with
  | nil => simp [partsL]
  | cons b r =>
    unfold partsL
    split
    · simp
    · cases partsL r <;> simp [consH]
theorem index_cons_ne (b c : UInt8) (l : List UInt8) (h : b ≠ c) : Lib.index (b :: l) [c] = if Lib.index l [c] == -1 then -1 else Lib.index l [c] + 1 := by
  have hp : ([c] : List UInt8).isPrefixOf (b :: l) = false := by simp [List.isPrefixOf, Ne.symm h]
  rw [Lib.index, hp]; simp
theorem splitK_cons (b : UInt8) (hb : b ≠ 47) : ∀ (n : Nat) (r : List UInt8), Lib.splitK [47] 0 n (b :: r) = consH b (Lib.splitK [47] 0 n r) := by
  intro n r
  cases n with
  | zero => rfl
  | succ n =>
    have hix := index_cons_ne b 47 r hb
    by_cases hm : Lib.index r [47] = -1
    · rw [if_pos (beq_iff_eq.2 hm)] at hix
      rw [Lib.splitK, if_pos (beq_iff_eq.2 hix), Lib.splitK, if_pos (beq_iff_eq.2 hm)]
      rfl
    · have hge := Lib.index_ge r [47]
      obtain ⟨j, hj⟩ : ∃ j : Nat, Lib.index r [47] = j := ⟨(Lib.index r [47]).toNat, by omega⟩
      rw [if_neg (fun e => hm (beq_iff_eq.1 e)), hj] at hix
      rw [Lib.splitK, if_neg (fun e => by have := beq_iff_eq.1 e; omega), Lib.splitK, if_neg (fun e => hm (beq_iff_eq.1 e)), hix, hj]
      rw [show ((j : Int) + 1).toNat = j + 1 by omega, show ((j : Int)).toNat = j by omega]
      simp [consH]
theorem splitK_parts : ∀ l : List UInt8, Lib.splitK [47] 0 (Lib.count l [47]) l = partsL l
  | [] => by rw [Lib.count_miss (by simp [Lib.index])]; rfl
  | b :: r => by
    by_cases h : b = 47
    · subst h
      have hix : Lib.index (47 :: r) [47] = ((0 : Nat) : Int) := by rw [Lib.index]; simp [List.isPrefixOf]
      rw [Lib.count_cons_eq, Nat.add_comm, Lib.splitK, if_neg (by rw [hix]; decide), hix]
      simp [partsL, splitK_parts r]
    · rw [Lib.count_cons_ne b 47 r h, splitK_cons b h, splitK_parts r, partsL, if_neg h]
theorem partsL_no47 : ∀ (l : List UInt8) (p : List UInt8), p ∈ partsL l → (47 : UInt8) ∉ p
  | [], p, hp => by simp [partsL] at hp; subst hp; simp
  | b :: r, p, hp => by
    unfold partsL at hp
    split at hp
    · rcases List.mem_cons.1 hp with rfl | hp
      · simp
      · exact partsL_no47 r p hp
    · rename_i hb
      have ih := partsL_no47 r
      cases hq : partsL r with
      | nil => exact absurd hq (partsL_ne r)
      | cons h t =>
        rw [hq] at hp ih
        rcases List.mem_cons.1 hp with rfl | hp
        · have := ih h List.mem_cons_self
          intro hm
          rcases List.mem_cons.1 hm with e | hm
          · exact hb e.symm
          · exact this hm
        · exact ih p (List.mem_cons_of_mem _ hp)
theorem partsL_length_le : ∀ l : List UInt8, (partsL l).length ≤ l.length + 1
  | [] => by simp [partsL]
  | b :: r => by
    have := partsL_length_le r
    unfold partsL
    split
    · simp; omega
    · cases hq : partsL r with
      | nil => simp [consH]
      | cons h t => rw [hq] at this; simp [consH] at this ⊢; omega

def partsB (s : ByteArray) : List ByteArray := (partsL s.data.toList).map (fun x => ⟨x.toArray⟩)
theorem map_data_inj {l l' : List ByteArray} (h : l.map (·.data.toList) = l'.map (·.data.toList)) : l = l' := by
  induction l generalizing l' with
  | nil => cases l' with
           | nil => rfl
           | cons _ _ => simp at h
  | cons x r ih =>
    cases l' with
    | nil => simp at h
    | cons y r' =>
      simp only [List.map_cons, List.cons.injEq] at h
      rw [ba_ext h.1, ih h.2]
theorem partsB_data (s : ByteArray) : (partsB s).map (·.data.toList) = partsL s.data.toList := by
  simp [partsB, Function.comp_def]
theorem split_parts (s : ByteArray) : Lib.splitB ⟨#[47]⟩ 0 (Lib.countB s ⟨#[47]⟩) s = partsB s := by
  apply map_data_inj
  rw [Lib.splitB_data, partsB_data]
  exact splitK_parts s.data.toList

def cutsF : Nat → ByteArray → Nat → Nat → List ByteArray
  | 0, s, fr, _ => [s.extract fr s.size]
  | d + 1, s, fr, i => if bt s i = 47 then s.extract fr i :: cutsF d s (i + 1) (i + 1) else cutsF d s fr (i + 1)
theorem bt_get (s : ByteArray) (i : Nat) (h : i < s.size) : bt s i = ((s.data.toList[i]'(by rw [← Lib.size_eq]; exact h)).toNat : Int) := by
  unfold bt
  simp only [Int.toNat_natCast]
  rw [dif_pos h]
  rfl
def preH (a : List UInt8) : List (List UInt8) → List (List UInt8)
  | [] => []
  | h :: t => (a ++ h) :: t
theorem cutsF_data (s : ByteArray) : ∀ (d fr i : Nat), i + d = s.size → fr ≤ i → (cutsF d s fr i).map (·.data.toList) = preH ((s.data.toList.drop fr).take (i - fr)) (partsL (s.data.toList.drop i)) := by
  intro d
  induction d with
  | zero =>
    intro fr i hi hf
    have hsz := Lib.size_eq s
    rw [List.drop_of_length_le (l := s.data.toList) (i := i) (by omega)]
    simp only [cutsF, List.map_cons, List.map_nil, partsL, preH, List.append_nil]
    rw [Lib.extract_to_end, List.take_of_length_le (by rw [List.length_drop]; omega)]
  | succ d ih =>
    intro fr i hi hf
    have hsz := Lib.size_eq s
    have hlt : i < s.data.toList.length := by omega
    rw [List.drop_eq_getElem_cons hlt]
    have hb := bt_get s i (by omega)
    have htk : (s.data.toList.drop fr).take (i + 1 - fr) = (s.data.toList.drop fr).take (i - fr) ++ [s.data.toList[i]] := by
      rw [show i + 1 - fr = (i - fr) + 1 by omega, List.take_succ_eq_append_getElem (by rw [List.length_drop]; omega)]
      simp [show fr + (i - fr) = i by omega]
    by_cases h : bt s i = 47
    · have h47 : s.data.toList[i] = 47 := by
        apply UInt8.toNat_inj.1
        rw [hb] at h
        show _ = 47
        omega
      rw [cutsF, if_pos h, h47, partsL, if_pos rfl]
      simp only [List.map_cons, preH, List.append_nil]
      rw [ih (i + 1) (i + 1) (by omega) (Nat.le_refl _), Lib.extract_data]
      have hne := partsL_ne (s.data.toList.drop (i + 1))
      cases hq : partsL (s.data.toList.drop (i + 1)) with
      | nil => exact absurd hq hne
      | cons a t => simp [preH]
    · have h47 : ¬ s.data.toList[i] = 47 := by
        intro e
        rw [hb, e] at h
        exact h rfl
      rw [cutsF, if_neg h, partsL, if_neg h47, ih fr (i + 1) (by omega) (by omega), htk]
      have hne := partsL_ne (s.data.toList.drop (i + 1))
      cases hq : partsL (s.data.toList.drop (i + 1)) with
      | nil => exact absurd hq hne
      | cons a t => simp [preH, consH]
theorem cutsF_parts (s : ByteArray) : cutsF s.size s 0 0 = partsB s := by
  apply map_data_inj
  rw [cutsF_data s s.size 0 0 (by omega) (Nat.le_refl _), partsB_data]
  have hne := partsL_ne s.data.toList
  cases hq : partsL s.data.toList with
  | nil => exact absurd hq hne
  | cons a t => simp [preH, hq]
theorem ref_Parts_l0 (s : ByteArray) (hs : s.size ≤ 4294967280) : ∀ (d k i fr : Nat) (acc : List ByteArray), i + d = s.size → fr ≤ i → acc.length ≤ i → d < k →
    graftageref06_Parts.l0 k s acc fr i = some (acc ++ cutsF d s fr i) := by
  intro d
  induction d with
  | zero =>
    intro k i fr acc hi hf ha hk
    obtain ⟨k, rfl⟩ : ∃ m, k = m + 1 := ⟨k - 1, by omega⟩
    simp only [graftageref06_Parts.l0]
    rw [if_neg (by omega), if_pos (by omega), if_pos (by omega), if_pos (by omega)]
    simp [cutsF]
  | succ d ih =>
    intro k i fr acc hi hf ha hk
    obtain ⟨k, rfl⟩ : ∃ m, k = m + 1 := ⟨k - 1, by omega⟩
    simp only [graftageref06_Parts.l0]
    rw [if_pos (by omega), if_pos (by omega), wrap_id (by omega) (by omega)]
    by_cases h : bt s i = 47
    · rw [if_pos h, if_pos (by omega), if_pos (by omega), if_pos (by omega), if_pos (by omega)]
      have := ih k (i + 1) (i + 1) (acc ++ [s.extract fr i]) (by omega) (Nat.le_refl _) (by simp; omega) (by omega)
      rw [cutsF, if_pos h]
      simpa using this
    · rw [if_neg h]
      have := ih k (i + 1) fr acc (by omega) (by omega) (by omega) (by omega)
      rw [cutsF, if_neg h]
      simpa using this
def pathParts (s : ByteArray) : List ByteArray := if s.toList = [] then [] else partsB s
theorem ref_Parts_ev (s : ByteArray) (hs : s.size ≤ 4294967280) : Ev (fun k => graftageref06_Parts.f k s) (pathParts s) := by
  unfold graftageref06_Parts.f pathParts
  by_cases h : s.toList = []
  · simp only [if_pos h]
    exact Ev.now _
  · simp only [if_neg h]
    refine Ev.of (g := fun k => graftageref06_Parts.l0 k s [] 0 0) (fun k => graftageref06_Parts.mono_l k _ _ _ _) (k := s.size + 1) ?_
    have := ref_Parts_l0 s hs s.size (s.size + 1) 0 0 [] (by omega) (Nat.le_refl _) (by simp) (by omega)
    rw [cutsF_parts] at this
    simpa using this
theorem split_eq (s : ByteArray) (hs : s.size ≤ 4294967280) : strings_Split.f s ⟨#[47]⟩ = some (partsB s) := by
  unfold strings_Split.f
  rw [if_pos ⟨rfl, by omega⟩, split_parts]
theorem path_Parts_eq (s : ByteArray) (hs : s.size ≤ 4294967280) : path_Parts.f s = some (pathParts s) := by
  unfold path_Parts.f pathParts
  by_cases h : s.toList = []
  · rw [if_pos h, if_pos h]
  · rw [if_neg h, if_neg h, split_eq s hs]
    rfl

/-! ### part, Is, Same -/
/-- A path's part, as far as both texts ask alike. -/
def partOK (s : ByteArray) : Bool := decide (1 ≤ s.size) && decide (s.size ≤ 64) && (s.toList != [46]) && (s.toList != [46, 46]) && (s.toList != [46, 103, 114, 97, 102, 116]) && s.data.toList.all (fun b => decide (32 ≤ b.toNat))
theorem all_drop (p : UInt8 → Bool) (l : List UInt8) (i : Nat) (h : i < l.length) : (l.drop i).all p = (p l[i] && (l.drop (i + 1)).all p) := by
  rw [List.drop_eq_getElem_cons h, List.all_cons]
theorem path_part_l0 (s : ByteArray) (hs : s.size ≤ 140737488351232) : ∀ (d k i : Nat), i + d = s.size → d < k → path_part.l0 k s s.size i = some ((s.data.toList.drop i).all (fun b => decide (32 ≤ b.toNat))) := by
  intro d
  induction d with
  | zero =>
    intro k i hi hk
    obtain ⟨k, rfl⟩ : ∃ m, k = m + 1 := ⟨k - 1, by omega⟩
    have hsz := Lib.size_eq s
    simp only [path_part.l0]
    rw [if_neg (by omega), List.drop_of_length_le (by omega)]
    rfl
  | succ d ih =>
    intro k i hi hk
    obtain ⟨k, rfl⟩ : ∃ m, k = m + 1 := ⟨k - 1, by omega⟩
    have hsz := Lib.size_eq s
    have := ih k (i + 1) (by omega) (by omega)
    simp only [path_part.l0]
    rw [if_pos (by omega), if_pos (by omega), if_pos (by omega), wrap_id (by omega) (by omega), all_drop _ _ i (by omega), bt_get s i (by omega)]
    by_cases h : (s.data.toList[i]'(by omega)).toNat < 32
    · rw [if_pos (by omega), decide_eq_false (show ¬ 32 ≤ (s.data.toList[i]'(by omega)).toNat by omega)]
      rfl
    · rw [if_neg (by omega), decide_eq_true (show 32 ≤ (s.data.toList[i]'(by omega)).toNat by omega), Bool.true_and]
      exact_mod_cast this
theorem ref_part_l0 (s : ByteArray) (hs : s.size ≤ 140737488351232) (h47 : (47 : UInt8) ∉ s.data.toList) : ∀ (d k i : Nat), i + d = s.size → d < k → graftageref06_part.l0 k s i = some ((s.data.toList.drop i).all (fun b => decide (32 ≤ b.toNat))) := by
  intro d
  induction d with
  | zero =>
    intro k i hi hk
    obtain ⟨k, rfl⟩ : ∃ m, k = m + 1 := ⟨k - 1, by omega⟩
    have hsz := Lib.size_eq s
    simp only [graftageref06_part.l0]
    rw [if_neg (by omega), List.drop_of_length_le (by omega)]
    rfl
  | succ d ih =>
    intro k i hi hk
    obtain ⟨k, rfl⟩ : ∃ m, k = m + 1 := ⟨k - 1, by omega⟩
    have hsz := Lib.size_eq s
    have := ih k (i + 1) (by omega) (by omega)
    have hne : ¬ (bt s i = 47) := by
      rw [bt_get s i (by omega)]
      intro e
      apply h47
      have : s.data.toList[i]'(by omega) = 47 := by
        apply UInt8.toNat_inj.1
        show _ = 47
        omega
      rw [← this]
      exact List.getElem_mem _
    simp only [graftageref06_part.l0]
    rw [if_pos (by omega), if_pos (by omega), if_neg hne, wrap_id (by omega) (by omega), all_drop _ _ i (by omega), bt_get s i (by omega)]
    by_cases h : (s.data.toList[i]'(by omega)).toNat < 32
    · rw [if_pos (by omega), decide_eq_false (show ¬ 32 ≤ (s.data.toList[i]'(by omega)).toNat by omega)]
      rfl
    · rw [if_neg (by omega), decide_eq_true (show 32 ≤ (s.data.toList[i]'(by omega)).toNat by omega), Bool.true_and]
      exact_mod_cast this
theorem path_part_eq (s : ByteArray) (hs : s.size ≤ 140737488351232) (k : Nat) (hk : s.size + 1 < k) : path_part.f k s = some (partOK s) := by
  obtain ⟨k, rfl⟩ : ∃ m, k = m + 1 := ⟨k - 1, by omega⟩
  have hl := path_part_l0 s hs s.size k 0 (by omega) (by omega)
  unfold path_part.f partOK
  by_cases h1 : s.size < 1
  · rw [if_pos (by omega), path_part.j0, if_pos rfl]; simp [show ¬ (1 ≤ s.size) by omega]
  rw [if_neg (by omega)]
  by_cases h2 : s.size > 64
  · rw [if_pos (by omega), path_part.j0, if_pos rfl]; simp [show ¬ (s.size ≤ 64) by omega]
  rw [if_neg (by omega)]
  by_cases h3 : s.toList = [46]
  · rw [if_pos h3, path_part.j0, if_pos rfl]; simp [h3]
  rw [if_neg h3]
  by_cases h4 : s.toList = [46, 46]
  · rw [if_pos h4, path_part.j0, if_pos rfl]; simp [h4]
  rw [if_neg h4, path_part.j0]
  by_cases h5 : s.toList = [46, 103, 114, 97, 102, 116]
  · rw [if_pos (by simp [h5])]; simp [h5]
  · rw [if_neg (by simp [h5]), show (0 : Int) = ((0 : Nat) : Int) from rfl, hl]
    simp [h3, h4, h5, show 1 ≤ s.size by omega, show s.size ≤ 64 by omega]
theorem ref_part_eq (s : ByteArray) (hs : s.size ≤ 140737488351232) (h47 : (47 : UInt8) ∉ s.data.toList) (k : Nat) (hk : s.size + 1 < k) : graftageref06_part.f k s = some (partOK s) := by
  obtain ⟨k, rfl⟩ : ∃ m, k = m + 1 := ⟨k - 1, by omega⟩
  have hl := ref_part_l0 s hs h47 s.size k 0 (by omega) (by omega)
  unfold graftageref06_part.f partOK
  by_cases h1 : s.size < 1
  · rw [if_pos (by omega), graftageref06_part.j0, if_pos rfl]; simp [show ¬ (1 ≤ s.size) by omega]
  rw [if_neg (by omega)]
  by_cases h2 : s.size > 64
  · rw [if_pos (by omega), graftageref06_part.j0, if_pos rfl]; simp [show ¬ (s.size ≤ 64) by omega]
  rw [if_neg (by omega)]
  by_cases h3 : s.toList = [46]
  · rw [if_pos h3, graftageref06_part.j0, if_pos rfl]; simp [h3]
  rw [if_neg h3]
  by_cases h4 : s.toList = [46, 46]
  · rw [if_pos h4, graftageref06_part.j0, if_pos rfl]; simp [h4]
  rw [if_neg h4, graftageref06_part.j0]
  by_cases h5 : s.toList = [46, 103, 114, 97, 102, 116]
  · rw [if_pos (by simp [h5])]; simp [h5]
  · rw [if_neg (by simp [h5]), show (0 : Int) = ((0 : Nat) : Int) from rfl, hl]
    simp [h3, h4, h5, show 1 ≤ s.size by omega, show s.size ≤ 64 by omega]
/-- A loop that asks each element, with rounds for each. -/
theorem all_ext (p : ByteArray → Bool) (l : List ByteArray) (i : Nat) (h : i < l.length) : (l.drop i).all p = (p l[i] && (l.drop (i + 1)).all p) := by
  rw [List.drop_eq_getElem_cons h, List.all_cons]
theorem path_Is_l0 (l : List ByteArray) (B : Nat) (hB : B ≤ 140737488351232) (hl : ∀ x ∈ l, x.size ≤ B) (hn : l.length ≤ 140737488351232) : ∀ (d k i : Nat), i + d = l.length → d + B + 2 ≤ k →
    path_Is.l0 k l l l.length i = some ((l.drop i).all partOK && decide (l.length ≤ 16)) := by
  intro d
  induction d with
  | zero =>
    intro k i hi hk
    obtain ⟨k, rfl⟩ : ∃ m, k = m + 1 := ⟨k - 1, by omega⟩
    simp only [path_Is.l0]
    rw [if_neg (by omega), List.drop_of_length_le (by omega), List.all_nil, Bool.true_and, decide_eq_decide.2 (show ((l.length : Int) ≤ 16) ↔ l.length ≤ 16 by omega)]
  | succ d ih =>
    intro k i hi hk
    obtain ⟨k, rfl⟩ : ∃ m, k = m + 1 := ⟨k - 1, by omega⟩
    have hi' : i < l.length := by omega
    have := ih k (i + 1) (by omega) (by omega)
    have hsz := hl _ (List.getElem_mem hi')
    simp only [path_Is.l0]
    rw [if_pos (by omega), if_pos (by omega), if_pos (by omega), rd_ext l i hi', path_part_eq _ (by omega) k (by omega), wrap_id (by omega) (by omega), all_ext _ _ i hi']
    simp only [Option.bind_some]
    by_cases h : partOK l[i] = true
    · rw [if_pos h, h]
      simpa using this
    · rw [if_neg h]
      simp [h]
theorem partsB_size (s : ByteArray) : ∀ x ∈ partsB s, x.size ≤ s.size := by
  have key : ∀ (l : List UInt8), ∀ p ∈ partsL l, p.length ≤ l.length := by
    intro l
    induction l with
    | nil => intro p hp; simp [partsL] at hp; simp [hp]
    | cons b r ih =>
      intro p hp
      unfold partsL at hp
      split at hp
      · rcases List.mem_cons.1 hp with rfl | hp
        · simp
        · have := ih p hp; simp; omega
      · cases hq : partsL r with
        | nil => exact absurd hq (partsL_ne r)
        | cons h t =>
          rw [hq] at hp ih
          rcases List.mem_cons.1 hp with rfl | hp
          · have := ih h List.mem_cons_self; simp; omega
          · have := ih p (List.mem_cons_of_mem _ hp); simp; omega
  intro x hx
  obtain ⟨p, hp, rfl⟩ := List.mem_map.1 hx
  have := key _ p hp
  rw [Lib.size_eq s]
  show p.toArray.size ≤ _
  rw [List.size_toArray]
  exact this
theorem partsB_no47 (s : ByteArray) : ∀ x ∈ partsB s, (47 : UInt8) ∉ x.data.toList := by
  intro x hx
  obtain ⟨p, hp, rfl⟩ := List.mem_map.1 hx
  simpa using partsL_no47 _ p hp
theorem partsB_length_le (s : ByteArray) : (partsB s).length ≤ s.size + 1 := by
  have := partsL_length_le s.data.toList
  rw [Lib.size_eq s]
  simpa [partsB] using this
def isPath (s : ByteArray) : Bool := (s.toList != []) && decide (s.size ≤ 255) && ((partsB s).all partOK && decide ((partsB s).length ≤ 16))
theorem path_Is_ev (s : ByteArray) : Ev (fun k => path_Is.f k s) (isPath s) := by
  refine Ev.of (fun k => path_Is.mono s k) (k := 1000) ?_
  show path_Is.f (999 + 1) s = _
  unfold path_Is.f isPath
  by_cases h : s.toList = []
  · rw [if_pos h, path_Is.j0, if_pos rfl]; simp [h]
  · rw [if_neg h, path_Is.j0]
    by_cases h2 : s.size ≤ 255
    · rw [if_neg (by simp; omega), split_eq s (by omega)]
      simp only [Option.bind_some]
      have hn := partsB_length_le s
      rw [show (0 : Int) = ((0 : Nat) : Int) from rfl, path_Is_l0 (partsB s) 255 (by omega) (fun x hx => Nat.le_trans (partsB_size s x hx) h2) (by omega) (partsB s).length 999 0 (by omega) (by omega)]
      simp [h, h2]
    · rw [if_pos (by simp; omega)]
      simp [h2]
theorem ref_Is_l0 (l : List ByteArray) (B : Nat) (hB : B ≤ 140737488351232) (hl : ∀ x ∈ l, x.size ≤ B) (h47 : ∀ x ∈ l, (47 : UInt8) ∉ x.data.toList) (hn : l.length ≤ 140737488351232) : ∀ (d k i : Nat), i + d = l.length → d + B + 2 ≤ k →
    graftageref06_Is.l0 k l i = some ((l.drop i).all partOK) := by
  intro d
  induction d with
  | zero =>
    intro k i hi hk
    obtain ⟨k, rfl⟩ : ∃ m, k = m + 1 := ⟨k - 1, by omega⟩
    simp only [graftageref06_Is.l0]
    rw [if_neg (by omega), List.drop_of_length_le (by omega)]
    simp
  | succ d ih =>
    intro k i hi hk
    obtain ⟨k, rfl⟩ : ∃ m, k = m + 1 := ⟨k - 1, by omega⟩
    have hi' : i < l.length := by omega
    have := ih k (i + 1) (by omega) (by omega)
    have hsz := hl _ (List.getElem_mem hi')
    simp only [graftageref06_Is.l0]
    rw [if_pos (by omega), if_pos (by omega), rd_ext l i hi', ref_part_eq _ (by omega) (h47 _ (List.getElem_mem hi')) k (by omega), wrap_id (by omega) (by omega), all_ext _ _ i hi']
    simp only [Option.bind_some]
    by_cases h : partOK l[i] = true
    · rw [if_pos h, h]
      simpa using this
    · rw [if_neg h]
      simp [h]
theorem ref_Is_ev (s : ByteArray) (hs : s.size ≤ 4294967280) : Ev (fun k => graftageref06_Is.f k s) (isPath s) := by
  refine Ev.bind (ref_Parts_ev s hs) ?_
  unfold isPath pathParts
  by_cases h : s.toList = []
  · have e1 : (([] : List ByteArray).length : Int) < 1 := by simp
    simp only [if_pos h, if_pos e1]
    refine Ev.step (f := fun _ => some false) (fun k => by rw [graftageref06_Is.j0, if_pos rfl]) ?_
    simp only [h, bne_self_eq_false, Bool.false_and]
    exact Ev.now _
  · have hne : (partsB s).length ≠ 0 := by
      simp [partsB, partsL_ne]
    have e1 : ¬ ((partsB s).length : Int) < 1 := by omega
    simp only [if_neg h, if_neg e1]
    by_cases h16 : (partsB s).length > 16
    · have e2 : ((partsB s).length : Int) > 16 := by omega
      simp only [if_pos e2]
      refine Ev.step (f := fun _ => some false) (fun k => by rw [graftageref06_Is.j0, if_pos rfl]) ?_
      simp only [show decide ((partsB s).length ≤ 16) = false by simp; omega, Bool.and_false]
      exact Ev.now _
    · have e2 : ¬ ((partsB s).length : Int) > 16 := by omega
      simp only [if_neg e2]
      by_cases h2 : s.size ≤ 255
      · refine Ev.step (f := fun k => graftageref06_Is.l0 k (partsB s) 0) (fun k => by rw [graftageref06_Is.j0, if_neg (by simp; omega)]) ?_
        refine Ev.of (fun k => (graftageref06_Is.mono_l k).2 _ _) (k := (partsB s).length + 255 + 2) ?_
        have hn := partsB_length_le s
        rw [show (0 : Int) = ((0 : Nat) : Int) from rfl, ref_Is_l0 (partsB s) 255 (by omega) (fun x hx => Nat.le_trans (partsB_size s x hx) h2) (partsB_no47 s) (by omega) (partsB s).length _ 0 (by omega) (by omega)]
        have b1 : (s.toList != []) = true := by simpa using h
        rw [List.drop_zero, b1, decide_eq_true h2, decide_eq_true (show (partsB s).length ≤ 16 by omega)]
        simp
      · refine Ev.step (f := fun _ => some false) (fun k => by rw [graftageref06_Is.j0, if_pos (by simp; omega)]) ?_
        simp only [show decide (s.size ≤ 255) = false by simp; omega, Bool.and_false, Bool.false_and]
        exact Ev.now _
end Go.Proofs.YtccbpbdfihnlgaaDoor.Q


/- Contracts of Go functions as calls of plain Lean functions, written by a program of this session over the kit's print. -/
namespace Go.Proofs.YtccbpbdfihnlgaaDoor.Q
open Go.RowKit Go.Proofs.YtccbpbdfihnlgaaDoorW.PrintWords Go.Proofs.YtccbpbdfihnlgaaDoorW.PrintLast Go.Proofs.YtccbpbdfihnlgaaDoorW.PrintMore
attribute [local go_sem] max2_int min2_int max_two min_two max_three min_three max_four min_four   -- for this text's walks alone

end Go.Proofs.YtccbpbdfihnlgaaDoor.Q


/- Laws of no program: copy, clear and an insert on rows whose elements have several cells. -/
namespace Go.Proofs.YtccbpbdfihnlgaaDoor.Q
open Go.RowKit Go.Lib Go.Proofs.YtccbpbdfihnlgaaDoorW.PrintWords Go.Proofs.YtccbpbdfihnlgaaDoorW.PrintLast Go.Proofs.YtccbpbdfihnlgaaDoorW.PrintMore
section
variable {P : Program}
end
section
variable {P : Program} {ops : Array Oper} {rest : List Oper} {o : Oper} {a : Act} {Q : Exit → Act → World → Prop} {α : Type}
end
section
variable {P : Program} {ops : Array Oper} {o : Oper} {a : Act} {Q : Exit → Act → World → Prop} {Kc : Act → World → Prop}
end
end Go.Proofs.YtccbpbdfihnlgaaDoor.Q


/- Contracts of Go functions as calls of plain Lean functions, written by a program of this session over the kit's print. -/
namespace Go.Proofs.YtccbpbdfihnlgaaDoor.Q
open Go.RowKit Go.Proofs.YtccbpbdfihnlgaaDoorW.PrintWords Go.Proofs.YtccbpbdfihnlgaaDoorW.PrintLast Go.Proofs.YtccbpbdfihnlgaaDoorW.PrintMore
attribute [local go_sem] max2_int min2_int max_two min_two max_three min_three max_four min_four   -- for this text's walks alone

end Go.Proofs.YtccbpbdfihnlgaaDoor.Q


/- Contracts of Go functions as calls of plain Lean functions, written by a program of this session over the kit's print. -/
namespace Go.Proofs.YtccbpbdfihnlgaaDoor.Q
open Go.RowKit Go.Proofs.YtccbpbdfihnlgaaDoorW.PrintWords Go.Proofs.YtccbpbdfihnlgaaDoorW.PrintLast Go.Proofs.YtccbpbdfihnlgaaDoorW.PrintMore
attribute [local go_sem] max2_int min2_int max_two min_two max_three min_three max_four min_four   -- for this text's walks alone

/-! ### graftageref02_Digit: function 106 -/
def graftageref02_Digit.j0 : Nat → Int → Bool → Option (Int)
  | 0, _, _ => none
  | k + 1, x0, x8 => if x8 = true then (some ((x0 - 48) % 256)) else (if x0 ≥ 97 then (if x0 ≤ 102 then (some (((x0 - 97) % 256) + 10)) else (some (-1))) else (some (-1)))
def graftageref02_Digit.f (k : Nat) (a0 : Int) : Option (Int) := if a0 ≥ 48 then (graftageref02_Digit.j0 k a0 (decide (a0 ≤ 57))) else (graftageref02_Digit.j0 k a0 false)
theorem graftageref02_Digit.mono_l : ∀ k, (∀ y0 y1, LeO (graftageref02_Digit.j0 k y0 y1) (graftageref02_Digit.j0 (k + 1) y0 y1))
  | 0 => fun _ _ r h => by simp [graftageref02_Digit.j0] at h
  | k + 1 => by
    have ih0 := graftageref02_Digit.mono_l k
    · intro y0 y1
      unfold graftageref02_Digit.j0
      repeat' first
      | (with_reducible exact ih0 _ _)
      | (with_reducible exact LeO.refl _)
      | (with_reducible exact LeO.none _)
      | (with_reducible refine LeO.ite ?_ ?_)
      | (with_reducible refine LeO.bind ?_ (fun _ => ?_))
      | exact ih0 _ _
      | exact LeO.none _
      | refine LeO.ite ?_ ?_
      | refine LeO.bind ?_ (fun _ => ?_)
theorem graftageref02_Digit.mono : ∀ a0 k, LeO (graftageref02_Digit.f k a0) (graftageref02_Digit.f (k + 1) a0) := by
  intro a0 k
  have ih0 := graftageref02_Digit.mono_l k
  unfold graftageref02_Digit.f
  repeat' first
      | (with_reducible exact ih0 _ _)
      | (with_reducible exact LeO.refl _)
      | (with_reducible exact LeO.none _)
      | (with_reducible refine LeO.ite ?_ ?_)
      | (with_reducible refine LeO.bind ?_ (fun _ => ?_))
      | exact ih0 _ _
      | exact LeO.none _
      | refine LeO.ite ?_ ?_
      | refine LeO.bind ?_ (fun _ => ?_)
end Go.Proofs.YtccbpbdfihnlgaaDoor.Q


/- Contracts of Go functions as calls of plain Lean functions, written by a program of this session over the kit's print. -/
namespace Go.Proofs.YtccbpbdfihnlgaaDoor.Q
open Go.RowKit Go.Proofs.YtccbpbdfihnlgaaDoorW.PrintWords Go.Proofs.YtccbpbdfihnlgaaDoorW.PrintLast Go.Proofs.YtccbpbdfihnlgaaDoorW.PrintMore
attribute [local go_sem] max2_int min2_int max_two min_two max_three min_three max_four min_four   -- for this text's walks alone

/-! ### graftageref02_digits: function 112 -/
def graftageref02_digits.l0 : Nat → ByteArray → Int → Option (Bool)
  | 0, _, _ => none
  | k + 1, x0, x3 => if x3 < (x0.size : Int) then (if 0 ≤ x3 then ((graftageref02_Digit.f k (bt x0 x3)).bind fun t120 => (if t120 < 0 then (some false) else (graftageref02_digits.l0 k x0 (wrap64 (x3 + 1))))) else (none)) else (some true)
def graftageref02_digits.f (k : Nat) (a0 : ByteArray) : Option (Bool) := graftageref02_digits.l0 k a0 0
theorem graftageref02_digits.mono_l : ∀ k, (∀ y0 y1, LeO (graftageref02_digits.l0 k y0 y1) (graftageref02_digits.l0 (k + 1) y0 y1))
  | 0 => fun _ _ r h => by simp [graftageref02_digits.l0] at h
  | k + 1 => by
    have ih0 := graftageref02_digits.mono_l k
    · intro y0 y1
      unfold graftageref02_digits.l0
      repeat' first
      | (with_reducible exact ih0 _ _)
      | (with_reducible exact graftageref02_Digit.mono _ _)
      | (with_reducible exact LeO.refl _)
      | (with_reducible exact LeO.none _)
      | (with_reducible refine LeO.ite ?_ ?_)
      | (with_reducible refine LeO.bind ?_ (fun _ => ?_))
      | exact ih0 _ _
      | exact graftageref02_Digit.mono _ _
      | exact LeO.none _
      | refine LeO.ite ?_ ?_
      | refine LeO.bind ?_ (fun _ => ?_)
theorem graftageref02_digits.mono : ∀ a0 k, LeO (graftageref02_digits.f k a0) (graftageref02_digits.f (k + 1) a0) := by
  intro a0 k
  have ih0 := graftageref02_digits.mono_l k
  unfold graftageref02_digits.f
  repeat' first
      | (with_reducible exact ih0 _ _)
      | (with_reducible exact graftageref02_Digit.mono _ _)
      | (with_reducible exact LeO.refl _)
      | (with_reducible exact LeO.none _)
      | (with_reducible refine LeO.ite ?_ ?_)
      | (with_reducible refine LeO.bind ?_ (fun _ => ?_))
      | exact ih0 _ _
      | exact graftageref02_Digit.mono _ _
      | exact LeO.none _
      | refine LeO.ite ?_ ?_
      | refine LeO.bind ?_ (fun _ => ?_)
end Go.Proofs.YtccbpbdfihnlgaaDoor.Q


/- Contracts of Go functions as calls of plain Lean functions, written by a program of this session over the kit's print. -/
namespace Go.Proofs.YtccbpbdfihnlgaaDoor.Q
open Go.RowKit Go.Proofs.YtccbpbdfihnlgaaDoorW.PrintWords Go.Proofs.YtccbpbdfihnlgaaDoorW.PrintLast Go.Proofs.YtccbpbdfihnlgaaDoorW.PrintMore
attribute [local go_sem] max2_int min2_int max_two min_two max_three min_three max_four min_four   -- for this text's walks alone

/-! ### graftageref02_Is: function 62 -/
def graftageref02_Is.f (k : Nat) (a0 : ByteArray) : Option (Bool) := if (a0.size : Int) = 40 then ((graftageref02_digits.f k a0).bind fun t121 => (some t121)) else (some false)
end Go.Proofs.YtccbpbdfihnlgaaDoor.Q


/- Contracts of Go functions as calls of plain Lean functions, written by a program of this session over the kit's print. -/
namespace Go.Proofs.YtccbpbdfihnlgaaDoor.Q
open Go.RowKit Go.Proofs.YtccbpbdfihnlgaaDoorW.PrintWords Go.Proofs.YtccbpbdfihnlgaaDoorW.PrintLast Go.Proofs.YtccbpbdfihnlgaaDoorW.PrintMore
attribute [local go_sem] max2_int min2_int max_two min_two max_three min_three max_four min_four   -- for this text's walks alone

end Go.Proofs.YtccbpbdfihnlgaaDoor.Q


/- Contracts of Go functions as calls of plain Lean functions, written by a program of this session over the kit's print. -/
namespace Go.Proofs.YtccbpbdfihnlgaaDoor.Q
open Go.RowKit Go.Proofs.YtccbpbdfihnlgaaDoorW.PrintWords Go.Proofs.YtccbpbdfihnlgaaDoorW.PrintLast Go.Proofs.YtccbpbdfihnlgaaDoorW.PrintMore
attribute [local go_sem] max2_int min2_int max_two min_two max_three min_three max_four min_four   -- for this text's walks alone

end Go.Proofs.YtccbpbdfihnlgaaDoor.Q


/- Ids: digits, bytes and their digits; the program's and the reference's. -/
namespace Go.Proofs.YtccbpbdfihnlgaaDoor.Q
open Go.RowKit Go.Proofs.YtccbpbdfihnlgaaDoorW.PrintWords Go.Proofs.YtccbpbdfihnlgaaDoorW.PrintLast Go.Proofs.YtccbpbdfihnlgaaDoorW.PrintMore

def hexD : List UInt8 := [48, 49, 50, 51, 52, 53, 54, 55, 56, 57, 97, 98, 99, 100, 101, 102]
/-- A digit's value; -1. -/
def dv (b : Int) : Int := Lib.indexByte hexD b.toNat.toUInt8
theorem dv_table : ∀ n : Fin 256, graftageref02_Digit.f 2 (n.val : Int) = some (dv (n.val : Int)) ∧ -1 ≤ dv (n.val : Int) ∧ dv (n.val : Int) ≤ 15 := by decide +kernel
theorem bt_fin (s : ByteArray) (i : Int) : ∃ n : Fin 256, bt s i = (n.val : Int) := by
  obtain ⟨h0, h1⟩ := bt_range s i
  exact ⟨⟨(bt s i).toNat, by omega⟩, by simp; omega⟩
theorem value_eq (b : Int) : ident_value.f b = some (dv b) := rfl
theorem Digit_bt (s : ByteArray) (i : Int) (k : Nat) (hk : 2 ≤ k) : graftageref02_Digit.f k (bt s i) = some (dv (bt s i)) := by
  obtain ⟨n, hn⟩ := bt_fin s i
  rw [hn]
  exact at_rounds (fun k => graftageref02_Digit.mono _ k) hk (dv_table n).1
/-- Are all digits, from a place on? -/
def hexF (s : ByteArray) : Nat → Nat → Bool
  | 0, _ => true
  | d + 1, i => decide (0 ≤ dv (bt s i)) && hexF s d (i + 1)
theorem all_l0 (s : ByteArray) (hs : s.size ≤ 140737488351232) : ∀ (d k i : Nat), i + d = s.size → d < k → ident_all.l0 k s s.size i = some (hexF s d i) := by
  intro d
  induction d with
  | zero =>
    intro k i hi hk
    obtain ⟨k, rfl⟩ : ∃ m, k = m + 1 := ⟨k - 1, by omega⟩
    simp only [ident_all.l0]
    rw [if_neg (by omega)]; rfl
  | succ d ih =>
    intro k i hi hk
    obtain ⟨k, rfl⟩ : ∃ m, k = m + 1 := ⟨k - 1, by omega⟩
    have := ih k (i + 1) (by omega) (by omega)
    simp only [ident_all.l0]
    rw [if_pos (by omega), if_pos (by omega), if_pos (by omega), value_eq, wrap_id (by omega) (by omega)]
    simp only [Option.bind_some]
    rw [hexF]
    by_cases h : dv (bt s i) < 0
    · rw [if_pos h, decide_eq_false (by omega)]; rfl
    · rw [if_neg h, decide_eq_true (by omega), Bool.true_and]; exact_mod_cast this
theorem digits_l0 (s : ByteArray) (hs : s.size ≤ 140737488351232) : ∀ (d k i : Nat), i + d = s.size → d + 2 < k → graftageref02_digits.l0 k s i = some (hexF s d i) := by
  intro d
  induction d with
  | zero =>
    intro k i hi hk
    obtain ⟨k, rfl⟩ : ∃ m, k = m + 1 := ⟨k - 1, by omega⟩
    simp only [graftageref02_digits.l0]
    rw [if_neg (by omega)]; rfl
  | succ d ih =>
    intro k i hi hk
    obtain ⟨k, rfl⟩ : ∃ m, k = m + 1 := ⟨k - 1, by omega⟩
    have := ih k (i + 1) (by omega) (by omega)
    simp only [graftageref02_digits.l0]
    rw [if_pos (by omega), if_pos (by omega), Digit_bt s i k (by omega), wrap_id (by omega) (by omega)]
    simp only [Option.bind_some]
    rw [hexF]
    by_cases h : dv (bt s i) < 0
    · rw [if_pos h, decide_eq_false (by omega)]; rfl
    · rw [if_neg h, decide_eq_true (by omega), Bool.true_and]; exact_mod_cast this
def idOk (s : ByteArray) : Bool := decide (s.size = 40) && hexF s s.size 0
theorem ident_Is_ev (s : ByteArray) : Ev (fun k => ident_Is.f k s) (idOk s) := by
  unfold idOk
  by_cases h : s.size = 40
  · refine Ev.congr (f := fun k => (ident_all.f k s).bind fun t => some t) (fun k => by unfold ident_Is.f; rw [if_pos (by omega)]) ?_
    refine Ev.bind (Ev.of (fun k => ident_all.mono s k) (k := 60) (r := hexF s s.size 0) ?_) ?_
    · unfold ident_all.f
      exact_mod_cast all_l0 s (by omega) s.size 60 0 (by omega) (by omega)
    · rw [decide_eq_true h, Bool.true_and]; exact Ev.now _
  · refine Ev.congr (f := fun _ => some false) (fun k => by unfold ident_Is.f; rw [if_neg (by omega)]) ?_
    rw [decide_eq_false h, Bool.false_and]; exact Ev.now _
theorem ref_idIs_ev (s : ByteArray) : Ev (fun k => graftageref02_Is.f k s) (idOk s) := by
  unfold idOk
  by_cases h : s.size = 40
  · refine Ev.congr (f := fun k => (graftageref02_digits.f k s).bind fun t => some t) (fun k => by unfold graftageref02_Is.f; rw [if_pos (by omega)]) ?_
    refine Ev.bind (Ev.of (fun k => graftageref02_digits.mono s k) (k := 60) (r := hexF s s.size 0) ?_) ?_
    · unfold graftageref02_digits.f
      exact_mod_cast digits_l0 s (by omega) s.size 60 0 (by omega) (by omega)
    · rw [decide_eq_true h, Bool.true_and]; exact Ev.now _
  · refine Ev.congr (f := fun _ => some false) (fun k => by unfold graftageref02_Is.f; rw [if_neg (by omega)]) ?_
    rw [decide_eq_false h, Bool.false_and]; exact Ev.now _
theorem idOk_size {s : ByteArray} (h : idOk s = true) : s.size = 40 := by
  unfold idOk at h
  rw [Bool.and_eq_true, decide_eq_true_eq] at h
  exact h.1
/-! ### Hex -/
def hx (n : Int) : Int := bt (⟨#[48, 49, 50, 51, 52, 53, 54, 55, 56, 57, 97, 98, 99, 100, 101, 102]⟩ : ByteArray) n
end Go.Proofs.YtccbpbdfihnlgaaDoor.Q


/- Contracts of Go functions as calls of plain Lean functions, written by a program of this session over the kit's print. -/
namespace Go.Proofs.YtccbpbdfihnlgaaDoor.Q
open Go.RowKit Go.Proofs.YtccbpbdfihnlgaaDoorW.PrintWords Go.Proofs.YtccbpbdfihnlgaaDoorW.PrintLast Go.Proofs.YtccbpbdfihnlgaaDoorW.PrintMore
attribute [local go_sem] max2_int min2_int max_two min_two max_three min_three max_four min_four   -- for this text's walks alone

/-! ### graftageref37_begins: function 80 -/
def graftageref37_begins.f (a0 : ByteArray) (a1 : ByteArray) : Option (Bool) := if (a0.size : Int) ≥ (a1.size : Int) then (if 0 ≤ (a1.size : Int) then (if (a1.size : Int) ≤ (a0.size : Int) then (some ((a0.extract 0 a1.size).toList == a1.toList)) else (none)) else (none)) else (some false)
end Go.Proofs.YtccbpbdfihnlgaaDoor.Q


/- Contracts of Go functions as calls of plain Lean functions, written by a program of this session over the kit's print. -/
namespace Go.Proofs.YtccbpbdfihnlgaaDoor.Q
open Go.RowKit Go.Proofs.YtccbpbdfihnlgaaDoorW.PrintWords Go.Proofs.YtccbpbdfihnlgaaDoorW.PrintLast Go.Proofs.YtccbpbdfihnlgaaDoorW.PrintMore
attribute [local go_sem] max2_int min2_int max_two min_two max_three min_three max_four min_four   -- for this text's walks alone

/-! ### graftageref37_ends: function 83 -/
def graftageref37_ends.f (a0 : ByteArray) (a1 : ByteArray) : Option (Bool) := if (a0.size : Int) ≥ (a1.size : Int) then (if 0 ≤ (wrap64 ((a0.size : Int) - (a1.size : Int))) then (if (wrap64 ((a0.size : Int) - (a1.size : Int))) ≤ (a0.size : Int) then (some ((a0.extract ((wrap64 ((a0.size : Int) - (a1.size : Int))) : Int).toNat a0.size).toList == a1.toList)) else (none)) else (none)) else (some false)
end Go.Proofs.YtccbpbdfihnlgaaDoor.Q


/- Contracts of Go functions as calls of plain Lean functions, written by a program of this session over the kit's print. -/
namespace Go.Proofs.YtccbpbdfihnlgaaDoor.Q
open Go.RowKit Go.Proofs.YtccbpbdfihnlgaaDoorW.PrintWords Go.Proofs.YtccbpbdfihnlgaaDoorW.PrintLast Go.Proofs.YtccbpbdfihnlgaaDoorW.PrintMore
attribute [local go_sem] max2_int min2_int max_two min_two max_three min_three max_four min_four   -- for this text's walks alone

/-! ### graftageref37_Barred: function 123 -/
def graftageref37_Barred.f (a0 : Int) : Option (Bool) := if a0 < 33 then (some true) else (if a0 = 127 then (some true) else (if a0 = 126 then (some true) else (if a0 = 94 then (some true) else (if a0 = 58 then (some true) else (if a0 = 63 then (some true) else (if a0 = 42 then (some true) else (if a0 = 91 then (some true) else (some (a0 == 92)))))))))
end Go.Proofs.YtccbpbdfihnlgaaDoor.Q


/- Contracts of Go functions as calls of plain Lean functions, written by a program of this session over the kit's print. -/
namespace Go.Proofs.YtccbpbdfihnlgaaDoor.Q
open Go.RowKit Go.Proofs.YtccbpbdfihnlgaaDoorW.PrintWords Go.Proofs.YtccbpbdfihnlgaaDoorW.PrintLast Go.Proofs.YtccbpbdfihnlgaaDoorW.PrintMore
attribute [local go_sem] max2_int min2_int max_two min_two max_three min_three max_four min_four   -- for this text's walks alone

/-! ### graftageref37_plain: function 81 -/
def graftageref37_plain.l0 : Nat → ByteArray → Int → Int → Option (Bool)
  | 0, _, _, _ => none
  | k + 1, x0, x5, x6 => if x6 < x5 then (if 0 ≤ x6 then (if x6 < (x0.size : Int) then ((graftageref37_Barred.f (bt x0 x6)).bind fun t185 => (if t185 = true then (some false) else (if x6 > 0 then (if 0 ≤ (wrap64 (x6 - 1)) then (if (wrap64 (x6 - 1)) ≤ (wrap64 (x6 + 1)) then (if (wrap64 (x6 + 1)) ≤ (x0.size : Int) then (if (x0.extract ((wrap64 (x6 - 1)) : Int).toNat ((wrap64 (x6 + 1)) : Int).toNat).toList = ([46, 46] : List UInt8) then (some false) else (if (x0.extract ((wrap64 (x6 - 1)) : Int).toNat ((wrap64 (x6 + 1)) : Int).toNat).toList = ([64, 123] : List UInt8) then (some false) else (graftageref37_plain.l0 k x0 x5 (wrap64 (x6 + 1))))) else (none)) else (none)) else (none)) else (graftageref37_plain.l0 k x0 x5 (wrap64 (x6 + 1)))))) else (none)) else (none)) else (some true)
def graftageref37_plain.f (k : Nat) (a0 : ByteArray) : Option (Bool) := graftageref37_plain.l0 k a0 (a0.size : Int) 0
end Go.Proofs.YtccbpbdfihnlgaaDoor.Q


/- Contracts of Go functions as calls of plain Lean functions, written by a program of this session over the kit's print. -/
namespace Go.Proofs.YtccbpbdfihnlgaaDoor.Q
open Go.RowKit Go.Proofs.YtccbpbdfihnlgaaDoorW.PrintWords Go.Proofs.YtccbpbdfihnlgaaDoorW.PrintLast Go.Proofs.YtccbpbdfihnlgaaDoorW.PrintMore
attribute [local go_sem] max2_int min2_int max_two min_two max_three min_three max_four min_four   -- for this text's walks alone

/-! ### graftageref37_Name: function 35 -/
mutual
def graftageref37_Name.j0 : Nat → ByteArray → Bool → Option (Bool)
 | 0, _, _ => none
 | k + 1, x0, x19 => if x19 = true then (some false) else ((graftageref06_Parts.f k x0).bind fun t214 => (graftageref37_Name.l0 k t214 (t214.length : Int) 0))
def graftageref37_Name.l0 : Nat → List ByteArray → Int → Int → Option (Bool)
 | 0, _, _, _ => none
 | k + 1, x3, x23, x24 => if x24 < x23 then (if 0 ≤ x24 then (if x24 < (x3.length : Int) then (if 0 < ((rdOf ByteArray.empty x3 x24).size : Int) then (if (bt (rdOf ByteArray.empty x3 x24) 0) = 46 then (some false) else ((graftageref37_ends.f (rdOf ByteArray.empty x3 x24) (⟨#[46, 108, 111, 99, 107]⟩ : ByteArray)).bind fun t219 => (if t219 = true then (some false) else (graftageref37_Name.l0 k x3 x23 (wrap64 (x24 + 1)))))) else (none)) else (none)) else (none)) else (some true)
end
def graftageref37_Name.f (k : Nat) (a0 : ByteArray) : Option (Bool) := if a0.toList = ([72, 69, 65, 68] : List UInt8) then (some true) else ((graftageref37_begins.f a0 (⟨#[114, 101, 102, 115, 47]⟩ : ByteArray)).bind fun t211 => (if t211 = true then ((graftageref06_Is.f k a0).bind fun t212 => (if t212 = true then ((graftageref37_plain.f k a0).bind fun t213 => (graftageref37_Name.j0 k a0 (!t213))) else (graftageref37_Name.j0 k a0 true))) else (graftageref37_Name.j0 k a0 true)))
end Go.Proofs.YtccbpbdfihnlgaaDoor.Q


/- Names of refs: both functions tell the same. -/
namespace Go.Proofs.YtccbpbdfihnlgaaDoor.Q
open Go.RowKit Go.Proofs.YtccbpbdfihnlgaaDoorW.PrintWords Go.Proofs.YtccbpbdfihnlgaaDoorW.PrintLast Go.Proofs.YtccbpbdfihnlgaaDoorW.PrintMore
theorem ev_iff {α : Type} {c : Prop} [Decidable c] {f g : Nat → Option α} {r : α} (h1 : c → Ev f r) (h2 : ¬ c → Ev g r) : Ev (fun k => if c then f k else g k) r := by
  by_cases h : c
  · simp only [if_pos h]; exact h1 h
  · simp only [if_neg h]; exact h2 h
/-! ### what is in a text -/
theorem contains_cons (x : UInt8) (l sub : List UInt8) : Lib.contains (x :: l) sub = (sub.isPrefixOf (x :: l) || Lib.contains l sub) := by
  have hge := Lib.index_ge l sub
  unfold Lib.contains
  rw [Lib.index]
  by_cases hp : sub.isPrefixOf (x :: l) = true
  · rw [if_pos hp, hp]; rfl
  · rw [if_neg hp]
    have : sub.isPrefixOf (x :: l) = false := Bool.eq_false_iff.2 hp
    rw [this, Bool.false_or]
    by_cases h1 : Lib.index l sub = -1
    · rw [if_pos (by simp [h1]), h1]
    · rw [if_neg (by simpa using h1)]
      by_cases h0 : 0 ≤ Lib.index l sub
      · rw [decide_eq_true h0, decide_eq_true (by omega)]
      · omega
theorem contains_two (a b : UInt8) : ∀ l : List UInt8, Lib.contains l [a, b] = true ↔ ∃ i, l[i]? = some a ∧ l[i + 1]? = some b
  | [] => by simp [Lib.contains, Lib.index]
  | x :: l => by
    rw [contains_cons, Bool.or_eq_true, contains_two a b l]
    constructor
    · rintro (h | ⟨i, h1, h2⟩)
      · cases l with
        | nil => simp [List.isPrefixOf] at h
        | cons y l =>
          simp [List.isPrefixOf] at h
          exact ⟨0, by simp [h.1], by simp [h.2]⟩
      · exact ⟨i + 1, by simpa using h1, by simpa using h2⟩
    · rintro ⟨i, h1, h2⟩
      cases i with
      | zero =>
        left
        cases l with
        | nil => simp at h2
        | cons y l =>
          simp at h1 h2
          simp [List.isPrefixOf, h1, h2]
      | succ i => exact .inr ⟨i, by simpa using h1, by simpa using h2⟩
theorem containsAny_cons (x : UInt8) (l cs : List UInt8) : Lib.containsAny (x :: l) cs = (cs.contains x || Lib.containsAny l cs) := by
  have hge := Lib.indexAny_ge cs l
  unfold Lib.containsAny
  rw [Lib.indexAny]
  by_cases hp : cs.contains x = true
  · rw [if_pos hp, hp]; rfl
  · rw [if_neg hp]
    have : cs.contains x = false := by simpa using hp
    rw [this, Bool.false_or]
    by_cases h1 : Lib.indexAny l cs = -1
    · rw [if_pos (by simp [h1]), h1]
    · rw [if_neg (by simpa using h1)]
      by_cases h0 : 0 ≤ Lib.indexAny l cs
      · rw [decide_eq_true h0, decide_eq_true (by omega)]
      · omega
theorem containsAny_any (cs : List UInt8) : ∀ l : List UInt8, Lib.containsAny l cs = l.any (fun b => cs.contains b)
  | [] => rfl
  | x :: l => by rw [containsAny_cons, containsAny_any cs l, List.any_cons]
/-! ### beginnings and ends -/
def preB (a b : ByteArray) : Bool := decide (b.size ≤ a.size) && ((a.extract 0 b.size).toList == b.toList)
def sufB (a b : ByteArray) : Bool := decide (b.size ≤ a.size) && ((a.extract (a.size - b.size) a.size).toList == b.toList)
theorem HasPrefix_is (a b : ByteArray) : strings_HasPrefix.f a b = some (preB a b) := by
  unfold strings_HasPrefix.f stringslite_HasPrefix.f preB
  by_cases h : b.size ≤ a.size
  · rw [if_pos (by omega), if_pos (by omega), if_pos (by omega), decide_eq_true h, Bool.true_and]; rfl
  · rw [if_neg (by omega), decide_eq_false h, Bool.false_and]; rfl
theorem begins_is (a b : ByteArray) : graftageref37_begins.f a b = some (preB a b) := by
  unfold graftageref37_begins.f preB
  by_cases h : b.size ≤ a.size
  · rw [if_pos (by omega), if_pos (by omega), if_pos (by omega), decide_eq_true h, Bool.true_and]
  · rw [if_neg (by omega), decide_eq_false h, Bool.false_and]
theorem HasSuffix_is (a b : ByteArray) (ha : a.size ≤ 140737488351232) : strings_HasSuffix.f a b = some (sufB a b) := by
  unfold strings_HasSuffix.f stringslite_HasSuffix.f sufB
  by_cases h : b.size ≤ a.size
  · rw [if_pos (by omega), wrap_id (by omega) (by omega), if_pos (by omega), if_pos (by omega), decide_eq_true h, Bool.true_and, show ((a.size : Int) - (b.size : Int)).toNat = a.size - b.size by omega]; rfl
  · rw [if_neg (by omega), decide_eq_false h, Bool.false_and]; rfl
theorem ends_is (a b : ByteArray) (ha : a.size ≤ 140737488351232) : graftageref37_ends.f a b = some (sufB a b) := by
  unfold graftageref37_ends.f sufB
  by_cases h : b.size ≤ a.size
  · rw [if_pos (by omega), wrap_id (by omega) (by omega), if_pos (by omega), if_pos (by omega), decide_eq_true h, Bool.true_and, show ((a.size : Int) - (b.size : Int)).toNat = a.size - b.size by omega]
  · rw [if_neg (by omega), decide_eq_false h, Bool.false_and]
/-! ### parts -/
def badPart (p : ByteArray) : Bool := preB p ⟨#[46]⟩ || sufB p ⟨#[46, 108, 111, 99, 107]⟩
theorem Name_1_eq (p : ByteArray) (hp : p.size ≤ 140737488351232) : refs_Name_1.f p = some (badPart p) := by
  unfold refs_Name_1.f badPart
  rw [HasPrefix_is, HasSuffix_is _ _ hp]
  simp only [Option.bind_some]
  by_cases h : preB p ⟨#[46]⟩ = true
  · rw [if_pos h, h, Bool.true_or]
  · rw [if_neg h]
    have : preB p ⟨#[46]⟩ = false := by simpa using h
    rw [this, Bool.false_or]
theorem Contains_l0 (l : List ByteArray) (f : ByteArray → Option Bool) (p : ByteArray → Bool) (hf : ∀ x ∈ l, f x = some (p x)) (hl : l.length ≤ 140737488351232) : ∀ (d i : Nat), i + d = l.length → ∃ q : Int, Ev (fun k => slices_IndexFunc_string_string.l0 k l f l.length i) q ∧ decide (q ≥ 0) = (l.drop i).any p := by
  intro d
  induction d with
  | zero =>
    intro i hi
    refine ⟨-1, Ev.step (f := fun _ => some (-1)) (fun k => by rw [slices_IndexFunc_string_string.l0, if_neg (by omega)]) (Ev.now _), ?_⟩
    rw [List.drop_of_length_le (by omega)]; rfl
  | succ d ih =>
    intro i hi
    have hlt : i < l.length := by omega
    have hm : f (rdOf ByteArray.empty l (i : Int)) = some (p l[i]) := by rw [rd_ext l i hlt]; exact hf _ (List.getElem_mem hlt)
    have hd : (l.drop i).any p = (p l[i] || (l.drop (i + 1)).any p) := by rw [List.drop_eq_getElem_cons hlt, List.any_cons]
    by_cases hp : p l[i] = true
    · refine ⟨(i : Int), Ev.step (f := fun _ => some (i : Int)) (fun k => by rw [slices_IndexFunc_string_string.l0, if_pos (by omega), if_pos (by omega), if_pos (by omega), hm, Option.bind_some, if_pos hp]) (Ev.now _), ?_⟩
      rw [hd, hp, decide_eq_true (by omega)]; rfl
    · obtain ⟨q, h1, h2⟩ := ih (i + 1) (by omega)
      refine ⟨q, Ev.step (f := fun k => slices_IndexFunc_string_string.l0 k l f l.length ((i : Int) + 1)) (fun k => by rw [slices_IndexFunc_string_string.l0, if_pos (by omega), if_pos (by omega), if_pos (by omega), hm, Option.bind_some, if_neg hp, wrap_id (by omega) (by omega)]) (by exact_mod_cast h1), ?_⟩
      have hp' : p l[i] = false := by simpa using hp
      rw [hd, hp', Bool.false_or, h2]
theorem ContainsFunc_ev (l : List ByteArray) (f : ByteArray → Option Bool) (p : ByteArray → Bool) (hf : ∀ x ∈ l, f x = some (p x)) (hl : l.length ≤ 140737488351232) : Ev (fun k => slices_ContainsFunc_string_string.f k l f) (l.any p) := by
  obtain ⟨q, h1, h2⟩ := Contains_l0 l f p hf hl l.length 0 (by omega)
  rw [List.drop_zero] at h2
  have h3 : Ev (fun k => slices_IndexFunc_string_string.f k l f) q := by exact_mod_cast h1
  refine Ev.bind h3 ?_
  rw [h2]
  exact Ev.now _
/-! ### a name -/
def barC : ByteArray := ⟨#[126, 94, 58, 63, 42, 91, 92, 127]⟩
def nameIn (s : ByteArray) : Bool := isPath s && (preB s ⟨#[114, 101, 102, 115, 47]⟩ && (!Lib.contains s.data.toList [46, 46] && (!Lib.contains s.data.toList [64, 123] && (!Lib.containsAny s.data.toList barC.data.toList && (s.data.toList.all (fun b => decide (32 < b.toNat)) && !(pathParts s).any badPart)))))
def nameB (s : ByteArray) : Bool := decide (s.toList = [72, 69, 65, 68]) || nameIn s
theorem isPath_size {s : ByteArray} (h : isPath s = true) : s.size ≤ 255 := by
  unfold isPath at h
  simp only [Bool.and_eq_true, decide_eq_true_eq] at h
  exact h.1.2
theorem isPath_parts {s : ByteArray} (h : isPath s = true) : ∀ p ∈ pathParts s, 1 ≤ p.size ∧ p.size ≤ 64 := by
  unfold isPath at h
  simp only [Bool.and_eq_true, decide_eq_true_eq] at h
  intro p hp
  unfold pathParts at hp
  split at hp
  · cases hp
  · have := List.all_eq_true.1 h.2.1 p hp
    unfold partOK at this
    simp only [Bool.and_eq_true, decide_eq_true_eq] at this
    exact ⟨this.1.1.1.1.1, this.1.1.1.1.2⟩
theorem pathParts_len {s : ByteArray} : (pathParts s).length ≤ s.size + 1 := by
  unfold pathParts
  split
  · simp
  · exact partsB_length_le s
theorem Name_l0 (s : ByteArray) (hp : isPath s = true) : ∀ (d i : Nat), i + d = s.size → Ev (fun k => refs_Name.l0 k s s.size i) ((s.data.toList.drop i).all (fun b => decide (32 < b.toNat)) && !(pathParts s).any badPart) := by
  have hs := isPath_size hp
  intro d
  induction d with
  | zero =>
    intro i hi
    rw [List.drop_of_length_le (by rw [← Lib.size_eq]; omega), List.all_nil, Bool.true_and]
    refine Ev.step (f := fun k => (slices_ContainsFunc_string_string.f k (pathParts s) (fun z0 => refs_Name_1.f z0)).bind fun t109 => some (!t109)) (fun k => by rw [refs_Name.l0, if_neg (by omega), path_Parts_eq s (by omega), Option.bind_some]) ?_
    have := pathParts_len (s := s)
    exact Ev.bind (ContainsFunc_ev (pathParts s) _ badPart (fun x hx => Name_1_eq x (by have := (isPath_parts hp x hx).2; omega)) (by omega)) (Ev.now _)
  | succ d ih =>
    intro i hi
    have hlt : i < s.size := by omega
    have hll : i < s.data.toList.length := by rw [← Lib.size_eq]; exact hlt
    have hb := bt_get s i hlt
    rw [List.drop_eq_getElem_cons hll, List.all_cons]
    by_cases hc : (bt s i) ≤ 32
    · have : decide (32 < (s.data.toList[i]'hll).toNat) = false := by rw [hb] at hc; exact decide_eq_false (by omega)
      rw [this, Bool.false_and, Bool.false_and]
      exact Ev.step (f := fun _ => some false) (fun k => by rw [refs_Name.l0, if_pos (by omega), if_pos (by omega), if_pos (by omega), if_pos hc]) (Ev.now _)
    · have : decide (32 < (s.data.toList[i]'hll).toNat) = true := by rw [hb] at hc; exact decide_eq_true (by omega)
      rw [this, Bool.true_and]
      refine Ev.step (f := fun k => refs_Name.l0 k s s.size ((i : Int) + 1)) (fun k => by rw [refs_Name.l0, if_pos (by omega), if_pos (by omega), if_pos (by omega), if_neg hc, wrap_id (by omega) (by omega)]) ?_
      exact_mod_cast ih (i + 1) (by omega)
theorem Name_ev (s : ByteArray) : Ev (fun k => refs_Name.f k s) (nameB s) := by
  unfold nameB
  refine ev_iff (fun h => ?_) (fun h => ?_)
  · rw [decide_eq_true h, Bool.true_or]; exact Ev.now _
  rw [decide_eq_false h, Bool.false_or]
  unfold nameIn
  have hF : Ev (fun k => refs_Name.j0 k s true) false := Ev.step (f := fun _ => some false) (fun k => by rw [refs_Name.j0, if_pos rfl]) (Ev.now _)
  refine Ev.bind (path_Is_ev s) ?_
  by_cases hp : isPath s = true
  case neg =>
    have : isPath s = false := by simpa using hp
    rw [this]
    simp only [Bool.false_eq_true, if_false, Bool.false_and]
    exact hF
  have hs := isPath_size hp
  rw [hp, Bool.true_and]
  simp only [if_true, HasPrefix_is, Option.bind_some]
  by_cases h1 : preB s ⟨#[114, 101, 102, 115, 47]⟩ = true
  case neg =>
    have : preB s ⟨#[114, 101, 102, 115, 47]⟩ = false := by simpa using h1
    rw [this]
    simp only [Bool.false_eq_true, if_false, Bool.false_and]
    exact hF
  rw [h1, Bool.true_and]
  simp only [if_true, strings_Contains2.f, show s.size < 4294967281 from by omega, Option.bind_some]
  by_cases h2 : Lib.contains s.data.toList [46, 46] = true
  · simp only [h2, if_true, Bool.not_true, Bool.false_and]; exact hF
  have h2' : Lib.contains s.data.toList [46, 46] = false := by simpa using h2
  simp only [h2', Bool.false_eq_true, if_false, Bool.not_false, Bool.true_and]
  by_cases h3 : Lib.contains s.data.toList [64, 123] = true
  · simp only [h3, if_true, Bool.not_true, Bool.false_and]; exact hF
  have h3' : Lib.contains s.data.toList [64, 123] = false := by simpa using h3
  simp only [h3', Bool.false_eq_true, if_false, Bool.not_false, Bool.true_and]
  have hany : strings_ContainsAny.f s (⟨#[126, 94, 58, 63, 42, 91, 92, 127]⟩ : ByteArray) = some (Lib.containsAny s.data.toList barC.data.toList) := by
    unfold strings_ContainsAny.f
    rw [if_pos (by omega), if_pos (by decide), if_pos (by decide)]
    rfl
  simp only [hany, Option.bind_some]
  by_cases h4 : Lib.containsAny s.data.toList barC.data.toList = true
  · rw [h4, Bool.not_true, Bool.false_and]; exact hF
  have h4' : Lib.containsAny s.data.toList barC.data.toList = false := by simpa using h4
  rw [h4', Bool.not_false, Bool.true_and]
  refine Ev.step (f := fun k => refs_Name.l0 k s s.size 0) (fun k => by rw [refs_Name.j0, if_neg (by decide)]) ?_
  have := Name_l0 s hp s.size 0 (by omega)
  rw [List.drop_zero] at this
  exact_mod_cast this
/-! ### the reference's -/
def barB (b : UInt8) : Bool := decide (b.toNat < 33) || barC.data.toList.contains b
theorem Barred_table : ∀ n : Fin 256, graftageref37_Barred.f (n.val : Int) = some (barB (UInt8.ofNat n.val)) := by decide +kernel
theorem Barred_bt (s : ByteArray) (i : Nat) (h : i < s.size) : graftageref37_Barred.f (bt s i) = some (barB (s.data.toList[i]'(by rw [← Lib.size_eq]; exact h))) := by
  rw [bt_get s i h]
  have := Barred_table ⟨(s.data.toList[i]'(by rw [← Lib.size_eq]; exact h)).toNat, UInt8.toNat_lt _⟩
  simpa using this
def plB (s : ByteArray) : Nat → Nat → Bool
  | 0, _ => true
  | d + 1, i => if barB (s.data.toList.getD i 0) = true then false else if (decide (0 < i) && ((decide (s.data.toList.getD (i - 1) 0 = 46) && decide (s.data.toList.getD i 0 = 46)) || (decide (s.data.toList.getD (i - 1) 0 = 64) && decide (s.data.toList.getD i 0 = 123)))) = true then false else plB s d (i + 1)
theorem ext_two (s : ByteArray) (i : Nat) (h0 : 0 < i) (h : i < s.size) : (s.extract (i - 1) (i + 1)).toList = [s.data.toList.getD (i - 1) 0, s.data.toList.getD i 0] := by
  have hl : s.data.toList.length = s.size := (Lib.size_eq s).symm
  rw [Lib.toList_data, Lib.extract_data, show i + 1 - (i - 1) = 2 by omega, List.drop_eq_getElem_cons (by omega), show i - 1 + 1 = i by omega, List.drop_eq_getElem_cons (by omega)]
  simp only [List.take_succ_cons, List.take_zero, List.getD, List.getElem?_eq_getElem (show i - 1 < s.data.toList.length by omega), List.getElem?_eq_getElem (show i < s.data.toList.length by omega), Option.getD_some]
theorem plain_l0 (s : ByteArray) (hs : s.size ≤ 140737488351232) : ∀ (d i : Nat), i + d = s.size → Ev (fun k => graftageref37_plain.l0 k s s.size i) (plB s d i) := by
  intro d
  induction d with
  | zero =>
    intro i hi
    exact Ev.step (f := fun _ => some true) (fun k => by rw [graftageref37_plain.l0, if_neg (by omega)]) (Ev.now _)
  | succ d ih =>
    intro i hi
    have hlt : i < s.size := by omega
    have hll : i < s.data.toList.length := by rw [← Lib.size_eq]; exact hlt
    have hg : s.data.toList.getD i 0 = s.data.toList[i] := by simp [List.getD, List.getElem?_eq_getElem hll]
    have hB : graftageref37_Barred.f (bt s i) = some (barB (s.data.toList.getD i 0)) := by rw [hg]; exact Barred_bt s i hlt
    rw [plB]
    by_cases h1 : barB (s.data.toList.getD i 0) = true
    · rw [if_pos h1]
      exact Ev.step (f := fun _ => some false) (fun k => by rw [graftageref37_plain.l0, if_pos (by omega), if_pos (by omega), if_pos (by omega), hB, Option.bind_some, if_pos h1]) (Ev.now _)
    rw [if_neg h1]
    by_cases h0 : 0 < i
    · have e2 := ext_two s i h0 hlt
      have ev : ∀ k, graftageref37_plain.l0 (k + 1) s s.size i = (if (s.extract (i - 1) (i + 1)).toList = ([46, 46] : List UInt8) then (some false) else (if (s.extract (i - 1) (i + 1)).toList = ([64, 123] : List UInt8) then (some false) else (graftageref37_plain.l0 k s s.size ((i : Int) + 1)))) := fun k => by
        rw [graftageref37_plain.l0, if_pos (by omega), if_pos (by omega), if_pos (by omega), hB, Option.bind_some, if_neg h1, if_pos (by omega), wrap_id (by omega) (by omega), wrap_id (by omega) (by omega), if_pos (by omega), if_pos (by omega), if_pos (by omega), show ((i : Int) - 1).toNat = i - 1 by omega, show ((i : Int) + 1).toNat = i + 1 by omega]
      rw [e2] at ev
      refine Ev.step ev ?_
      by_cases h2 : s.data.toList.getD (i - 1) 0 = 46 ∧ s.data.toList.getD i 0 = 46
      · rw [if_pos (by rw [decide_eq_true h0, decide_eq_true h2.1, decide_eq_true h2.2]; rfl)]
        exact Ev.congr (f := fun _ => some false) (fun k => by rw [if_pos (by rw [h2.1, h2.2])]) (Ev.now _)
      have h2' : ¬ ([s.data.toList.getD (i - 1) 0, s.data.toList.getD i 0] = ([46, 46] : List UInt8)) := fun h => h2 (by simpa using h)
      simp only [if_neg h2']
      by_cases h3 : s.data.toList.getD (i - 1) 0 = 64 ∧ s.data.toList.getD i 0 = 123
      · rw [if_pos (by rw [decide_eq_true h0, decide_eq_true h3.1, decide_eq_true h3.2]; simp)]
        exact Ev.congr (f := fun _ => some false) (fun k => by rw [if_pos (by rw [h3.1, h3.2])]) (Ev.now _)
      have h3' : ¬ ([s.data.toList.getD (i - 1) 0, s.data.toList.getD i 0] = ([64, 123] : List UInt8)) := fun h => h3 (by simpa using h)
      simp only [if_neg h3']
      rw [if_neg]
      · exact_mod_cast ih (i + 1) (by omega)
      · simp only [Bool.and_eq_true, Bool.or_eq_true, decide_eq_true_eq]
        rintro ⟨_, h | h⟩
        · exact h2 h
        · exact h3 h
    · rw [if_neg (by rw [decide_eq_false h0, Bool.false_and]; decide)]
      refine Ev.step (f := fun k => graftageref37_plain.l0 k s s.size ((i : Int) + 1)) (fun k => by rw [graftageref37_plain.l0, if_pos (by omega), if_pos (by omega), if_pos (by omega), hB, Option.bind_some, if_neg h1, if_neg (by omega), wrap_id (by omega) (by omega)]) ?_
      exact_mod_cast ih (i + 1) (by omega)
theorem plB_iff (s : ByteArray) : ∀ (d i : Nat), i + d = s.size → (plB s d i = true ↔ ∀ j, i ≤ j → j < s.size → barB (s.data.toList.getD j 0) = false ∧ (0 < j → ¬ (s.data.toList.getD (j - 1) 0 = 46 ∧ s.data.toList.getD j 0 = 46) ∧ ¬ (s.data.toList.getD (j - 1) 0 = 64 ∧ s.data.toList.getD j 0 = 123)))
  | 0, i, hi => by
    simp only [plB, true_iff]
    intro j h1 h2
    omega
  | d + 1, i, hi => by
    have ih := plB_iff s d (i + 1) (by omega)
    rw [plB]
    constructor
    · intro h j h1 h2
      split at h
      · cases h
      · rename_i hb
        split at h
        · cases h
        · rename_i hq
          by_cases e : j = i
          · subst e
            refine ⟨by simpa using hb, fun h0 => ?_⟩
            rw [decide_eq_true h0, Bool.true_and, Bool.not_eq_true, Bool.or_eq_false_iff, Bool.and_eq_false_iff, Bool.and_eq_false_iff, decide_eq_false_iff_not, decide_eq_false_iff_not, decide_eq_false_iff_not, decide_eq_false_iff_not] at hq
            exact ⟨fun hx => hq.1.elim (fun hh => hh hx.1) (fun hh => hh hx.2), fun hx => hq.2.elim (fun hh => hh hx.1) (fun hh => hh hx.2)⟩
          · exact ih.1 h j (by omega) h2
    · intro h
      obtain ⟨hb, hq⟩ := h i (Nat.le_refl _) (by omega)
      rw [if_neg (by rw [hb]; decide), if_neg]
      · exact ih.2 (fun j h1 h2 => h j (by omega) h2)
      · simp only [Bool.and_eq_true, Bool.or_eq_true, decide_eq_true_eq]
        rintro ⟨h0, hh | hh⟩
        · exact (hq h0).1 hh
        · exact (hq h0).2 hh
theorem two_at (s : ByteArray) (a b : UInt8) : Lib.contains s.data.toList [a, b] = true ↔ ∃ j, 0 < j ∧ j < s.size ∧ s.data.toList.getD (j - 1) 0 = a ∧ s.data.toList.getD j 0 = b := by
  rw [contains_two]
  have hl : s.data.toList.length = s.size := (Lib.size_eq s).symm
  constructor
  · rintro ⟨i, h1, h2⟩
    have hlt : i + 1 < s.size := by rw [← hl]; exact (List.getElem?_eq_some_iff.1 h2).1
    exact ⟨i + 1, by omega, hlt, by simp [List.getD, h1], by simp [List.getD, h2]⟩
  · rintro ⟨j, h0, hlt, h1, h2⟩
    refine ⟨j - 1, ?_, ?_⟩
    · rw [List.getElem?_eq_getElem (by omega), ← h1]; simp [List.getD, List.getElem?_eq_getElem (show j - 1 < s.data.toList.length by omega)]
    · rw [show j - 1 + 1 = j by omega, List.getElem?_eq_getElem (by omega), ← h2]; simp [List.getD, List.getElem?_eq_getElem (show j < s.data.toList.length by omega)]
theorem plain_is (s : ByteArray) : plB s s.size 0 = (!Lib.contains s.data.toList [46, 46] && (!Lib.contains s.data.toList [64, 123] && (!Lib.containsAny s.data.toList barC.data.toList && s.data.toList.all (fun b => decide (32 < b.toNat))))) := by
  have hl : s.data.toList.length = s.size := (Lib.size_eq s).symm
  rw [Bool.eq_iff_iff, plB_iff s s.size 0 (by omega)]
  simp only [Bool.and_eq_true, Bool.not_eq_true', ← Bool.not_eq_true, two_at, containsAny_any, List.any_eq_true, List.all_eq_true, decide_eq_true_eq, not_exists, not_and]
  constructor
  · intro h
    refine ⟨fun j h0 hj h1 h2 => (((h j (Nat.zero_le _) hj).2 h0).1 h1 h2), fun j h0 hj h1 h2 => (((h j (Nat.zero_le _) hj).2 h0).2 h1 h2), fun x hx hc => ?_, fun x hx => ?_⟩
    · obtain ⟨j, hj, rfl⟩ := List.mem_iff_getElem.1 hx
      have := (h j (Nat.zero_le _) (by omega)).1
      simp only [List.getD, List.getElem?_eq_getElem hj, Option.getD_some, barB, Bool.not_eq_true, Bool.or_eq_false_iff] at this
      rw [this.2] at hc; cases hc
    · obtain ⟨j, hj, rfl⟩ := List.mem_iff_getElem.1 hx
      have := (h j (Nat.zero_le _) (by omega)).1
      simp only [List.getD, List.getElem?_eq_getElem hj, Option.getD_some, barB, Bool.not_eq_true, Bool.or_eq_false_iff, decide_eq_false_iff_not] at this
      omega
  · rintro ⟨h1, h2, h3, h4⟩ j _ hj
    have hjl : j < s.data.toList.length := by omega
    have hmem : s.data.toList[j] ∈ s.data.toList := List.getElem_mem hjl
    refine ⟨?_, fun h0 => ⟨fun hx hy => h1 j h0 hj hx hy, fun hx hy => h2 j h0 hj hx hy⟩⟩
    simp only [List.getD, List.getElem?_eq_getElem hjl, Option.getD_some, barB, Bool.not_eq_true, Bool.or_eq_false_iff, decide_eq_false_iff_not]
    exact ⟨by have := h4 _ hmem; omega, by simpa using h3 _ hmem⟩
theorem refPart_bad (p : ByteArray) (h1 : 1 ≤ p.size) : (decide (bt p 0 = 46) || sufB p ⟨#[46, 108, 111, 99, 107]⟩) = badPart p := by
  unfold badPart
  congr 1
  have hl : p.data.toList.length = p.size := (Lib.size_eq p).symm
  have hb := bt_get p 0 (by omega)
  have hb' : bt p 0 = ((p.data.toList[0]'(by omega)).toNat : Int) := by exact_mod_cast hb
  unfold preB
  rw [show (⟨#[46]⟩ : ByteArray).size = 1 from rfl, decide_eq_true h1, Bool.true_and, hb', Lib.toList_data, Lib.extract_data, List.drop_zero, Nat.sub_zero, Lib.toList_data]
  have e : p.data.toList.take 1 = [p.data.toList[0]'(by omega)] := by
    rw [List.take_succ_eq_append_getElem (by omega), List.take_zero, List.nil_append]
  rw [e]
  by_cases hc : p.data.toList[0]'(by omega) = 46
  · rw [hc]; rfl
  · rw [decide_eq_false (fun h => hc (UInt8.toNat_inj.1 (by exact_mod_cast h)))]
    exact (beq_eq_false_iff_ne.2 (fun h => hc (List.cons.inj h).1)).symm
theorem refName_l0 (l : List ByteArray) (hl : ∀ p ∈ l, 1 ≤ p.size ∧ p.size ≤ 64) (hn : l.length ≤ 140737488351232) : ∀ (d i : Nat), i + d = l.length → Ev (fun k => graftageref37_Name.l0 k l l.length i) (!(l.drop i).any badPart) := by
  intro d
  induction d with
  | zero =>
    intro i hi
    rw [List.drop_of_length_le (by omega)]
    exact Ev.step (f := fun _ => some true) (fun k => by rw [graftageref37_Name.l0, if_neg (by omega)]) (Ev.now _)
  | succ d ih =>
    intro i hi
    have hlt : i < l.length := by omega
    obtain ⟨h1, h64⟩ := hl _ (List.getElem_mem hlt)
    have hbad := refPart_bad l[i] h1
    rw [List.drop_eq_getElem_cons hlt, List.any_cons, ← hbad, Bool.or_assoc, Bool.not_or, Bool.not_or]
    have hst : ∀ k, graftageref37_Name.l0 (k + 1) l l.length i = (if (bt l[i] 0) = 46 then (some false) else (if sufB l[i] ⟨#[46, 108, 111, 99, 107]⟩ = true then (some false) else (graftageref37_Name.l0 k l l.length ((i : Int) + 1)))) := fun k => by
      rw [graftageref37_Name.l0, if_pos (by omega), if_pos (by omega), if_pos (by omega), rd_ext l i hlt, if_pos (by omega), ends_is _ _ (by omega), Option.bind_some, wrap_id (by omega) (by omega)]
    refine Ev.step hst (ev_iff (fun h => ?_) (fun h => ?_))
    · rw [decide_eq_true h]; exact Ev.now _
    · rw [decide_eq_false h, Bool.not_false, Bool.true_and]
      refine ev_iff (fun h2 => ?_) (fun h2 => ?_)
      · rw [h2]; exact Ev.now _
      · have : sufB l[i] ⟨#[46, 108, 111, 99, 107]⟩ = false := by simpa using h2
        rw [this, Bool.not_false, Bool.true_and]
        exact_mod_cast ih (i + 1) (by omega)
theorem refName_ev (s : ByteArray) (hs : s.size ≤ 4294967280) : Ev (fun k => graftageref37_Name.f k s) (nameB s) := by
  unfold nameB
  refine ev_iff (fun h => ?_) (fun h => ?_)
  · rw [decide_eq_true h, Bool.true_or]; exact Ev.now _
  rw [decide_eq_false h, Bool.false_or]
  have hF : Ev (fun k => graftageref37_Name.j0 k s true) false := Ev.step (f := fun _ => some false) (fun k => by rw [graftageref37_Name.j0, if_pos rfl]) (Ev.now _)
  have hN : nameIn s = (preB s ⟨#[114, 101, 102, 115, 47]⟩ && (isPath s && (plB s s.size 0 && !(pathParts s).any badPart))) := by
    rw [plain_is]
    unfold nameIn
    cases isPath s <;> cases preB s ⟨#[114, 101, 102, 115, 47]⟩ <;> simp [Bool.and_assoc]
  rw [hN]
  simp only [begins_is, Option.bind_some]
  by_cases h1 : preB s ⟨#[114, 101, 102, 115, 47]⟩ = true
  case neg =>
    have : preB s ⟨#[114, 101, 102, 115, 47]⟩ = false := by simpa using h1
    rw [this]
    simp only [Bool.false_eq_true, if_false, Bool.false_and]
    exact hF
  rw [h1, Bool.true_and]
  simp only [if_true]
  refine Ev.bind (ref_Is_ev s hs) ?_
  by_cases hp : isPath s = true
  case neg =>
    have : isPath s = false := by simpa using hp
    rw [this]
    simp only [Bool.false_eq_true, if_false, Bool.false_and]
    exact hF
  rw [hp, Bool.true_and]
  simp only [if_true]
  have hsz := isPath_size hp
  have hpl : Ev (fun k => graftageref37_plain.f k s) (plB s s.size 0) := by have := plain_l0 s (by omega) s.size 0 (by omega); exact_mod_cast this
  refine Ev.bind hpl ?_
  by_cases h2 : plB s s.size 0 = true
  case neg =>
    have : plB s s.size 0 = false := by simpa using h2
    rw [this, Bool.not_false, Bool.false_and]
    exact hF
  rw [h2, Bool.not_true, Bool.true_and]
  refine Ev.step (f := fun k => (graftageref06_Parts.f k s).bind fun t214 => graftageref37_Name.l0 k t214 (t214.length : Int) 0) (fun k => by rw [graftageref37_Name.j0, if_neg (by decide)]) ?_
  refine Ev.bind (ref_Parts_ev s hs) ?_
  have hlen := pathParts_len (s := s)
  have := refName_l0 (pathParts s) (isPath_parts hp) (by omega) (pathParts s).length 0 (by omega)
  rw [List.drop_zero] at this
  exact_mod_cast this
end Go.Proofs.YtccbpbdfihnlgaaDoor.Q


/- Contracts of Go functions as calls of plain Lean functions, written by a program of this session over the kit's print. -/
namespace Go.Proofs.YtccbpbdfihnlgaaDoor.Q
open Go.RowKit Go.Proofs.YtccbpbdfihnlgaaDoorW.PrintWords Go.Proofs.YtccbpbdfihnlgaaDoorW.PrintLast Go.Proofs.YtccbpbdfihnlgaaDoorW.PrintMore
attribute [local go_sem] max2_int min2_int max_two min_two max_three min_three max_four min_four   -- for this text's walks alone

/-! ### graftageref06_Within: function 124 -/
def graftageref06_Within.f (a0 : ByteArray) (a1 : ByteArray) : Option (Bool) := if a0.toList = ([] : List UInt8) then (some (a1.toList != ([] : List UInt8))) else (if (a1.size : Int) > (wrap64 ((a0.size : Int) + 1)) then (if 0 ≤ (a0.size : Int) then (if (a0.size : Int) ≤ (a1.size : Int) then (if (a1.extract 0 a0.size).toList = a0.toList then (if (a0.size : Int) < (a1.size : Int) then (some ((bt a1 (a0.size : Int)) == 47)) else (none)) else (some false)) else (none)) else (none)) else (some false))
end Go.Proofs.YtccbpbdfihnlgaaDoor.Q


/- Within: both functions tell the same. -/
namespace Go.Proofs.YtccbpbdfihnlgaaDoor.Q
open Go.RowKit Go.Proofs.YtccbpbdfihnlgaaDoorW.PrintWords Go.Proofs.YtccbpbdfihnlgaaDoorW.PrintLast Go.Proofs.YtccbpbdfihnlgaaDoorW.PrintMore
def withinB (a b : ByteArray) : Bool := if a.toList = [] then b.toList != [] else decide (a.size + 1 < b.size) && ((b.extract 0 a.size).toList == a.toList && bt b a.size == 47)
theorem path_Within_eq (a b : ByteArray) (ha : a.size ≤ 140737488351232) : path_Within.f a b = some (withinB a b) := by
  unfold path_Within.f withinB
  by_cases h : a.toList = []
  · rw [if_pos h, if_pos h]
  · rw [if_neg h, if_neg h, wrap_id (by omega) (by omega)]
    by_cases h1 : a.size + 1 < b.size
    · rw [if_pos (by omega), if_pos (by omega), if_pos (by omega)]
      by_cases h2 : bt b a.size = 47
      · rw [if_pos h2, if_pos (by omega)]; simp [h1, h2]
      · rw [if_neg h2]; simp [h2]
    · rw [if_neg (by omega)]; simp [h1]
theorem ref_Within_eq (a b : ByteArray) (ha : a.size ≤ 140737488351232) : graftageref06_Within.f a b = some (withinB a b) := by
  unfold graftageref06_Within.f withinB
  by_cases h : a.toList = []
  · rw [if_pos h, if_pos h]
  · rw [if_neg h, if_neg h, wrap_id (by omega) (by omega)]
    by_cases h1 : a.size + 1 < b.size
    · rw [if_pos (by omega), if_pos (by omega), if_pos (by omega)]
      by_cases h2 : (b.extract 0 a.size).toList = a.toList
      · rw [if_pos h2, if_pos (by omega)]; simp [h1, h2]
      · rw [if_neg h2]; simp [h2]
    · rw [if_neg (by omega)]; simp [h1]
end Go.Proofs.YtccbpbdfihnlgaaDoor.Q


/- Contracts of Go functions as calls of plain Lean functions, written by a program of this session over the kit's print. -/
namespace Go.Proofs.YtccbpbdfihnlgaaDoor.Q
open Go.RowKit Go.Proofs.YtccbpbdfihnlgaaDoorW.PrintWords Go.Proofs.YtccbpbdfihnlgaaDoorW.PrintLast Go.Proofs.YtccbpbdfihnlgaaDoorW.PrintMore
attribute [local go_sem] max2_int min2_int max_two min_two max_three min_three max_four min_four   -- for this text's walks alone

/-! ### graftageref06_Meet: function 88 -/
mutual
def graftageref06_Meet.l0 : Nat → List ByteArray → Int → Option (Int × Int × Bool)
 | 0, _, _ => none
 | k + 1, x0, x5 => if x5 < (x0.length : Int) then (graftageref06_Meet.l1 k x0 x5 (wrap64 (x5 + 1))) else (some (0, 0, false))
def graftageref06_Meet.l1 : Nat → List ByteArray → Int → Int → Option (Int × Int × Bool)
 | 0, _, _, _ => none
 | k + 1, x0, x5, x6 => if x6 < (x0.length : Int) then (if 0 ≤ x5 then (if x5 < (x0.length : Int) then (if 0 ≤ x6 then (if (rdOf ByteArray.empty x0 x5).toList = (rdOf ByteArray.empty x0 x6).toList then (some (x5, x6, true)) else ((graftageref06_Within.f (rdOf ByteArray.empty x0 x5) (rdOf ByteArray.empty x0 x6)).bind fun t194 => (if t194 = true then (some (x5, x6, true)) else ((graftageref06_Within.f (rdOf ByteArray.empty x0 x6) (rdOf ByteArray.empty x0 x5)).bind fun t197 => (if t197 = true then (some (x5, x6, true)) else (graftageref06_Meet.l1 k x0 x5 (wrap64 (x6 + 1)))))))) else (none)) else (none)) else (none)) else (graftageref06_Meet.l0 k x0 (wrap64 (x5 + 1)))
end
def graftageref06_Meet.f (k : Nat) (l0 : List ByteArray) : Option (Int × Int × Bool) := graftageref06_Meet.l0 k l0 0
theorem graftageref06_Meet.mono_l : ∀ k, (∀ y0 y1, LeO (graftageref06_Meet.l0 k y0 y1) (graftageref06_Meet.l0 (k + 1) y0 y1)) ∧ (∀ y0 y1 y2, LeO (graftageref06_Meet.l1 k y0 y1 y2) (graftageref06_Meet.l1 (k + 1) y0 y1 y2))
 | 0 => ⟨fun _ _ r h => by simp [graftageref06_Meet.l0] at h, fun _ _ _ r h => by simp [graftageref06_Meet.l1] at h⟩
 | k + 1 => by
  obtain ⟨ih0, ih1⟩ := graftageref06_Meet.mono_l k
  refine ⟨?_, ?_⟩
  ·intro y0 y1
   unfold graftageref06_Meet.l0
   repeat' first
   | (with_reducible exact ih0 _ _)
   | (with_reducible exact ih1 _ _ _)
   | (with_reducible exact LeO.refl _)
   | (with_reducible exact LeO.none _)
   | (with_reducible refine LeO.ite ?_ ?_)
   | (with_reducible refine LeO.bind ?_ (fun _ => ?_))
   | exact ih0 _ _
   | exact ih1 _ _ _
   | exact LeO.none _
   | refine LeO.ite ?_ ?_
   | refine LeO.bind ?_ (fun _ => ?_)
  ·intro y0 y1 y2
   unfold graftageref06_Meet.l1
   repeat' first
   | (with_reducible exact ih0 _ _)
   | (with_reducible exact ih1 _ _ _)
   | (with_reducible exact LeO.refl _)
   | (with_reducible exact LeO.none _)
   | (with_reducible refine LeO.ite ?_ ?_)
   | (with_reducible refine LeO.bind ?_ (fun _ => ?_))
   | exact ih0 _ _
   | exact ih1 _ _ _
   | exact LeO.none _
   | refine LeO.ite ?_ ?_
   | refine LeO.bind ?_ (fun _ => ?_)
theorem graftageref06_Meet.mono : ∀ a0 k, LeO (graftageref06_Meet.f k a0) (graftageref06_Meet.f (k + 1) a0) := by
 intro a0 k
 obtain ⟨ih0, ih1⟩ := graftageref06_Meet.mono_l k
 unfold graftageref06_Meet.f
 repeat' first
   | (with_reducible exact ih0 _ _)
   | (with_reducible exact ih1 _ _ _)
   | (with_reducible exact LeO.refl _)
   | (with_reducible exact LeO.none _)
   | (with_reducible refine LeO.ite ?_ ?_)
   | (with_reducible refine LeO.bind ?_ (fun _ => ?_))
   | exact ih0 _ _
   | exact ih1 _ _ _
   | exact LeO.none _
   | refine LeO.ite ?_ ?_
   | refine LeO.bind ?_ (fun _ => ?_)
end Go.Proofs.YtccbpbdfihnlgaaDoor.Q


/- Meet: the two loops go alike, and end. -/
namespace Go.Proofs.YtccbpbdfihnlgaaDoor.Q
open Go.RowKit Go.Proofs.YtccbpbdfihnlgaaDoorW.PrintWords Go.Proofs.YtccbpbdfihnlgaaDoorW.PrintLast Go.Proofs.YtccbpbdfihnlgaaDoorW.PrintMore

theorem meet_same (l : List ByteArray) (hl : ∀ x ∈ l, x.size ≤ 140737488351232) (hn : l.length ≤ 140737488351232) : ∀ k : Nat,
    (∀ i : Nat, i ≤ l.length → path_Meet.l0 k l l l.length i = graftageref06_Meet.l0 k l i) ∧
    (∀ i j : Nat, i < l.length → j ≤ l.length → path_Meet.l1 k l i (rdOf ByteArray.empty l i) j l l.length i = graftageref06_Meet.l1 k l i j) := by
  intro k
  induction k with
  | zero => exact ⟨fun _ _ => by simp [path_Meet.l0, graftageref06_Meet.l0], fun _ _ _ _ => by simp [path_Meet.l1, graftageref06_Meet.l1]⟩
  | succ k ih =>
    refine ⟨fun i hi => ?_, fun i j hi hj => ?_⟩
    · simp only [path_Meet.l0, graftageref06_Meet.l0]
      by_cases h : i < l.length
      · rw [if_pos (by omega), if_pos (by omega), if_pos (by omega), if_pos (by omega), wrap_id (by omega) (by omega)]
        exact ih.2 i (i + 1) h (by omega)
      · rw [if_neg (by omega), if_neg (by omega)]
    · simp only [path_Meet.l1, graftageref06_Meet.l1]
      by_cases h : j < l.length
      · have e1 : (j : Int) < (l.length : Int) := by omega
        have e2 : (0 : Int) ≤ (j : Int) := by omega
        have e3 : (0 : Int) ≤ (i : Int) := by omega
        have e4 : (i : Int) < (l.length : Int) := by omega
        simp only [if_pos e1, if_pos e2, if_pos e3, if_pos e4]
        by_cases he : (rdOf ByteArray.empty l i).toList = (rdOf ByteArray.empty l j).toList
        · simp only [if_pos he]
        · simp only [if_neg he]
          have hi' : (rdOf ByteArray.empty l i).size ≤ 140737488351232 := by rw [rd_ext l i hi]; exact hl _ (List.getElem_mem hi)
          have hj' : (rdOf ByteArray.empty l j).size ≤ 140737488351232 := by rw [rd_ext l j h]; exact hl _ (List.getElem_mem h)
          rw [path_Within_eq _ _ hi', ref_Within_eq _ _ hi', path_Within_eq _ _ hj', ref_Within_eq _ _ hj']
          simp only [Option.bind_some]
          rw [wrap_id (by omega) (by omega)]
          have := ih.2 i (j + 1) hi (by omega)
          rw [show ((j : Int) + 1) = ((j + 1 : Nat) : Int) by omega, this]
      · rw [if_neg (by omega), if_neg (by omega), wrap_id (by omega) (by omega)]
        exact ih.1 (i + 1) (by omega)
theorem meet_ends (l : List ByteArray) (hl : ∀ x ∈ l, x.size ≤ 140737488351232) (hn : l.length ≤ 140737488351232) : ∀ (d i : Nat), i + d = l.length →
    (∃ k r, graftageref06_Meet.l0 k l i = some r) ∧ (∀ (e j : Nat), j + e = l.length → i < l.length → ∃ k r, graftageref06_Meet.l1 k l i j = some r) := by
  intro d
  induction d with
  | zero =>
    intro i hi
    refine ⟨⟨1, (0, 0, false), ?_⟩, fun e j hj h => by omega⟩
    simp only [graftageref06_Meet.l0]
    rw [if_neg (by omega)]
  | succ d ih =>
    intro i hi
    have key : ∀ (e j : Nat), j + e = l.length → i < l.length → ∃ k r, graftageref06_Meet.l1 k l i j = some r := by
      intro e
      induction e with
      | zero =>
        intro j hj h
        obtain ⟨⟨k, r, hk⟩, _⟩ := ih (i + 1) (by omega)
        refine ⟨k + 1, r, ?_⟩
        simp only [graftageref06_Meet.l1]
        rw [if_neg (by omega), wrap_id (by omega) (by omega)]
        exact hk
      | succ e ihe =>
        intro j hj h
        obtain ⟨k, r, hk⟩ := ihe (j + 1) (by omega) h
        have hi' : (rdOf ByteArray.empty l i).size ≤ 140737488351232 := by rw [rd_ext l i h]; exact hl _ (List.getElem_mem h)
        have hj' : (rdOf ByteArray.empty l j).size ≤ 140737488351232 := by rw [rd_ext l j (by omega)]; exact hl _ (List.getElem_mem (by omega))
        by_cases he : (rdOf ByteArray.empty l i).toList = (rdOf ByteArray.empty l j).toList
        · refine ⟨k + 1, (i, j, true), ?_⟩
          simp only [graftageref06_Meet.l1]
          rw [if_pos (by omega), if_pos (by omega), if_pos (by omega), if_pos (by omega), if_pos he]
        · by_cases h1 : withinB (rdOf ByteArray.empty l i) (rdOf ByteArray.empty l j) = true
          · refine ⟨k + 1, (i, j, true), ?_⟩
            simp only [graftageref06_Meet.l1]
            rw [if_pos (by omega), if_pos (by omega), if_pos (by omega), if_pos (by omega), if_neg he, ref_Within_eq _ _ hi']
            simp only [Option.bind_some]
            rw [if_pos h1]
          · by_cases h2 : withinB (rdOf ByteArray.empty l j) (rdOf ByteArray.empty l i) = true
            · refine ⟨k + 1, (i, j, true), ?_⟩
              simp only [graftageref06_Meet.l1]
              rw [if_pos (by omega), if_pos (by omega), if_pos (by omega), if_pos (by omega), if_neg he, ref_Within_eq _ _ hi', ref_Within_eq _ _ hj']
              simp only [Option.bind_some]
              rw [if_neg h1, if_pos h2]
            · refine ⟨k + 1, r, ?_⟩
              simp only [graftageref06_Meet.l1]
              rw [if_pos (by omega), if_pos (by omega), if_pos (by omega), if_pos (by omega), if_neg he, ref_Within_eq _ _ hi', ref_Within_eq _ _ hj']
              simp only [Option.bind_some]
              rw [if_neg h1, if_neg h2, wrap_id (by omega) (by omega)]
              exact hk
    refine ⟨?_, key⟩
    obtain ⟨k, r, hk⟩ := key (l.length - (i + 1)) (i + 1) (by omega) (by omega)
    refine ⟨k + 1, r, ?_⟩
    simp only [graftageref06_Meet.l0]
    rw [if_pos (by omega), wrap_id (by omega) (by omega)]
    exact hk
theorem meet_ev (l : List ByteArray) (hl : ∀ x ∈ l, x.size ≤ 140737488351232) (hn : l.length ≤ 140737488351232) : ∃ r, Ev (fun k => path_Meet.f k l) r ∧ Ev (fun k => graftageref06_Meet.f k l) r := by
  obtain ⟨⟨k, r, hk⟩, _⟩ := meet_ends l hl hn l.length 0 (by omega)
  refine ⟨r, Ev.of (fun k => path_Meet.mono l k) (k := k) ?_, Ev.of (fun k => graftageref06_Meet.mono l k) (k := k) hk⟩
  exact ((meet_same l hl hn k).1 0 (by omega)).trans hk

end Go.Proofs.YtccbpbdfihnlgaaDoor.Q


/- Contracts of Go functions as calls of plain Lean functions, written by a program of this session over the kit's print. -/
namespace Go.Proofs.YtccbpbdfihnlgaaDoor.Q
open Go.RowKit Go.Proofs.YtccbpbdfihnlgaaDoorW.PrintWords Go.Proofs.YtccbpbdfihnlgaaDoorW.PrintLast Go.Proofs.YtccbpbdfihnlgaaDoorW.PrintMore
attribute [local go_sem] max2_int min2_int max_two min_two max_three min_three max_four min_four   -- for this text's walks alone

/-! ### graftageref37_names: function 89 -/
def graftageref37_names.l0 : Nat → List (S55) → List ByteArray → Int → Int → Option (List ByteArray)
  | 0, _, _, _, _ => none
  | k + 1, x0, x3, x6, x7 => if x7 < x6 then (if 0 ≤ x7 then (if x7 < (x0.length : Int) then (if x3.length < 8796093022208 then (graftageref37_names.l0 k x0 (x3 ++ [(rd_T55 x0 x7).f0]) x6 (wrap64 (x7 + 1))) else (none)) else (none)) else (none)) else (some x3)
def graftageref37_names.f (k : Nat) (l0 : List (S55)) : Option (List ByteArray) := graftageref37_names.l0 k l0 ([] : List ByteArray) (l0.length : Int) 0
end Go.Proofs.YtccbpbdfihnlgaaDoor.Q


/- Contracts of Go functions as calls of plain Lean functions, written by a program of this session over the kit's print. -/
namespace Go.Proofs.YtccbpbdfihnlgaaDoor.Q
open Go.RowKit Go.Proofs.YtccbpbdfihnlgaaDoorW.PrintWords Go.Proofs.YtccbpbdfihnlgaaDoorW.PrintLast Go.Proofs.YtccbpbdfihnlgaaDoorW.PrintMore
attribute [local go_sem] max2_int min2_int max_two min_two max_three min_three max_four min_four   -- for this text's walks alone

/-! ### graftageref37_whole: function 87 -/
def graftageref37_whole.f (k : Nat) (a0_0 : ByteArray) (a0_1 : ByteArray) (a0_2 : ByteArray) : Option (Bool) := if a0_2.toList = ([] : List UInt8) then ((graftageref02_Is.f k a0_1).bind fun t221 => (some t221)) else (if a0_1.toList = ([] : List UInt8) then ((graftageref37_Name.f k a0_2).bind fun t222 => (some t222)) else (some false))
end Go.Proofs.YtccbpbdfihnlgaaDoor.Q


/- Contracts of Go functions as calls of plain Lean functions, written by a program of this session over the kit's print. -/
namespace Go.Proofs.YtccbpbdfihnlgaaDoor.Q
open Go.RowKit Go.Proofs.YtccbpbdfihnlgaaDoorW.PrintWords Go.Proofs.YtccbpbdfihnlgaaDoorW.PrintLast Go.Proofs.YtccbpbdfihnlgaaDoorW.PrintMore
attribute [local go_sem] max2_int min2_int max_two min_two max_three min_three max_four min_four   -- for this text's walks alone

/-! ### graftageref37_Check: function 37 -/
def graftageref37_Check.l0 : Nat → List (S55) → Int → Int → Option (Int)
 | 0, _, _, _ => none
 | k + 1, x0, x11, x12 => if x12 < x11 then (if 0 ≤ x12 then (if x12 < (x0.length : Int) then ((graftageref37_Name.f k ((rd_T55 x0 x12).f0)).bind fun t102 => (if t102 = true then ((graftageref37_whole.f k ((rd_T55 x0 x12).f0) ((rd_T55 x0 x12).f1) ((rd_T55 x0 x12).f2)).bind fun t104 => (if t104 = true then (if x12 > 0 then (if 0 ≤ (wrap64 (x12 - 1)) then (if (wrap64 (x12 - 1)) < (x0.length : Int) then (if (Op.bytesLess (((rd_T55 x0 x12).f0).toList) (((rd_T55 x0 (wrap64 (x12 - 1))).f0).toList) || (((rd_T55 x0 x12).f0).toList == ((rd_T55 x0 (wrap64 (x12 - 1))).f0).toList)) = true then (some 150) else (graftageref37_Check.l0 k x0 x11 (wrap64 (x12 + 1)))) else (none)) else (none)) else (graftageref37_Check.l0 k x0 x11 (wrap64 (x12 + 1)))) else (some 1))) else (some 370))) else (none)) else (none)) else ((graftageref37_names.f k x0).bind fun t107 => ((graftageref06_Meet.f k t107).bind fun bt110 => (if bt110.2.2 = true then (some 61) else (some 0))))
def graftageref37_Check.f (k : Nat) (l0 : List (S55)) : Option (Int) := if (l0.length : Int) > 1024 then (some 4) else (graftageref37_Check.l0 k l0 (l0.length : Int) 0)
end Go.Proofs.YtccbpbdfihnlgaaDoor.Q


