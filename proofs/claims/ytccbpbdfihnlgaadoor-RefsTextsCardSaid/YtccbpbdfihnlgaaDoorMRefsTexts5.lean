/- The law RefsTexts holds: for every input it returns true, and each argument reads afterwards as it read before. -/
import Derived.Test.YtccbpbdfihnlgaaDoorMYRefsTexts1
import Derived.Test.YtccbpbdfihnlgaaDoorMRefsTexts1
import Derived.Test.YtccbpbdfihnlgaaDoorMRefsTexts2
import Derived.Test.YtccbpbdfihnlgaaDoorMRefsTexts3
import Derived.Test.YtccbpbdfihnlgaaDoorMRefsTexts4
import Derived.Laws.Cover1
import Derived.Lib.IndexAny
import Derived.Lib.IndexMore
import Derived.Sort.Walk0
import Derived.Deep.Slices
import Derived.Lib.SmallJoins
import Derived.ChangeArms
import Derived.SizedLaws
import Derived.WalkKit
import Derived.ProofKit
set_option linter.unusedVariables false
set_option linter.unusedSimpArgs false
/- Contracts of Go functions as calls of plain Lean functions, written by a program of this session over the kit's print. -/
namespace Go.Proofs.YtccbpbdfihnlgaaDoor.Q
open Go.RowKit Go.Proofs.YtccbpbdfihnlgaaDoorW.PrintWords Go.Proofs.YtccbpbdfihnlgaaDoorW.PrintLast Go.Proofs.YtccbpbdfihnlgaaDoorW.PrintMore
attribute [local go_sem] max2_int min2_int max_two min_two max_three min_three max_four min_four   -- for this text's walks alone

/-! ### graftagelaw37_lives: function 33 -/
def graftagelaw37_lives.f (k : Nat)  : Option (Bool) := (graftagelaw37_id.f k 49).bind fun t101 => ((some (([(⟨(⟨#[72, 69, 65, 68]⟩ : ByteArray), (⟨#[]⟩ : ByteArray), (⟨#[114, 101, 102, 115, 47, 104, 101, 97, 100, 115, 47, 109, 97, 105, 110]⟩ : ByteArray)⟩ : S55), (⟨(⟨#[114, 101, 102, 115, 47, 104, 101, 97, 100, 115, 47, 109, 97, 105, 110]⟩ : ByteArray), t101, (⟨#[]⟩ : ByteArray)⟩ : S55)] : List (S55)) : List (S55))).bind fun y102 => ((refs_Resolve.f k y102 (⟨#[72, 69, 65, 68]⟩ : ByteArray)).bind fun bt105 => ((refs_Text.f k y102).bind fun bt108 => ((refs_Parse.f k bt108.1).bind fun bt110 => ((refs_Check.f k y102).bind fun t114 => (if t114 = 0 then (if bt105.1.toList = ([114, 101, 102, 115, 47, 104, 101, 97, 100, 115, 47, 109, 97, 105, 110] : List UInt8) then ((graftagelaw37_id.f k 49).bind fun t115 => (if bt105.2.1.toList = t115.toList then (if bt105.2.2 = 0 then (if bt108.2 = 0 then (if bt110.2 = 0 then ((graftageref37_Same.f k y102 bt110.1).bind fun t116 => (if t116 = true then ((refs_Name.f k (⟨#[114, 101, 102, 115, 47, 104, 101, 97, 100, 115, 47, 97, 46, 46, 98]⟩ : ByteArray)).bind fun t117 => (if t117 = true then (some false) else ((refs_Name.f k (⟨#[114, 101, 102, 115, 47, 97]⟩ : ByteArray)).bind fun t118 => (some t118)))) else (some false))) else (some false)) else (some false)) else (some false)) else (some false))) else (some false)) else (some false)))))))
theorem graftagelaw37_lives.mono : ∀ k, LeO (graftagelaw37_lives.f k ) (graftagelaw37_lives.f (k + 1) ) := by
 intro  k
 unfold graftagelaw37_lives.f
 repeat' first
   | (with_reducible exact graftagelaw37_id.mono _ _)
   | (with_reducible exact graftageref37_Same.mono _ _ _)
   | (with_reducible exact refs_Check.mono _ _)
   | (with_reducible exact refs_Name.mono _ _)
   | (with_reducible exact refs_Parse.mono _ _)
   | (with_reducible exact refs_Resolve.mono _ _ _)
   | (with_reducible exact refs_Text.mono _ _)
   | (with_reducible exact LeO.refl _)
   | (with_reducible exact LeO.none _)
   | (with_reducible refine LeO.ite ?_ ?_)
   | (with_reducible refine LeO.bind ?_ (fun _ => ?_))
   | exact graftagelaw37_id.mono _ _
   | exact graftageref37_Same.mono _ _ _
   | exact refs_Check.mono _ _
   | exact refs_Name.mono _ _
   | exact refs_Parse.mono _ _
   | exact refs_Resolve.mono _ _ _
   | exact refs_Text.mono _ _
   | exact LeO.none _
   | refine LeO.ite ?_ ?_
   | refine LeO.bind ?_ (fun _ => ?_)
set_option maxHeartbeats 8000000 in
set_option maxRecDepth 100000 in
theorem graftagelaw37_lives.calls (k : Nat)  (r : Bool) (w : World) (hgv : GV w) (h : graftagelaw37_lives.f k  = some r) :
  Calls Tryd.prog 33 #[] w fun e w' => e = .returned (.bool r) ∧ Below w.heap.size w w' := by
 have hu55 := Tryd.underlying55
 have HB := Aside0.mk (Below.refl w.heap.size w)
 have H : ((graftagelaw37_id.f k 49).bind fun t101 => ((some (([(⟨(⟨#[72, 69, 65, 68]⟩ : ByteArray), (⟨#[]⟩ : ByteArray), (⟨#[114, 101, 102, 115, 47, 104, 101, 97, 100, 115, 47, 109, 97, 105, 110]⟩ : ByteArray)⟩ : S55), (⟨(⟨#[114, 101, 102, 115, 47, 104, 101, 97, 100, 115, 47, 109, 97, 105, 110]⟩ : ByteArray), t101, (⟨#[]⟩ : ByteArray)⟩ : S55)] : List (S55)) : List (S55))).bind fun y102 => ((refs_Resolve.f k y102 (⟨#[72, 69, 65, 68]⟩ : ByteArray)).bind fun bt105 => ((refs_Text.f k y102).bind fun bt108 => ((refs_Parse.f k bt108.1).bind fun bt110 => ((refs_Check.f k y102).bind fun t114 => (if t114 = 0 then (if bt105.1.toList = ([114, 101, 102, 115, 47, 104, 101, 97, 100, 115, 47, 109, 97, 105, 110] : List UInt8) then ((graftagelaw37_id.f k 49).bind fun t115 => (if bt105.2.1.toList = t115.toList then (if bt105.2.2 = 0 then (if bt108.2 = 0 then (if bt110.2 = 0 then ((graftageref37_Same.f k y102 bt110.1).bind fun t116 => (if t116 = true then ((refs_Name.f k (⟨#[114, 101, 102, 115, 47, 104, 101, 97, 100, 115, 47, 97, 46, 46, 98]⟩ : ByteArray)).bind fun t117 => (if t117 = true then (some false) else ((refs_Name.f k (⟨#[114, 101, 102, 115, 47, 97]⟩ : ByteArray)).bind fun t118 => (some t118)))) else (some false))) else (some false)) else (some false)) else (some false)) else (some false))) else (some false)) else (some false)))))))) = some r := h
 clear h
 replace H := Option.bind_eq_some_iff.mp H
 obtain ⟨t101, A10, H⟩ := H
 replace H : ((some (([(⟨(⟨#[72, 69, 65, 68]⟩ : ByteArray), (⟨#[]⟩ : ByteArray), (⟨#[114, 101, 102, 115, 47, 104, 101, 97, 100, 115, 47, 109, 97, 105, 110]⟩ : ByteArray)⟩ : S55), (⟨(⟨#[114, 101, 102, 115, 47, 104, 101, 97, 100, 115, 47, 109, 97, 105, 110]⟩ : ByteArray), t101, (⟨#[]⟩ : ByteArray)⟩ : S55)] : List (S55)) : List (S55))).bind fun y102 => ((refs_Resolve.f k y102 (⟨#[72, 69, 65, 68]⟩ : ByteArray)).bind fun bt105 => ((refs_Text.f k y102).bind fun bt108 => ((refs_Parse.f k bt108.1).bind fun bt110 => ((refs_Check.f k y102).bind fun t114 => (if t114 = 0 then (if bt105.1.toList = ([114, 101, 102, 115, 47, 104, 101, 97, 100, 115, 47, 109, 97, 105, 110] : List UInt8) then ((graftagelaw37_id.f k 49).bind fun t115 => (if bt105.2.1.toList = t115.toList then (if bt105.2.2 = 0 then (if bt108.2 = 0 then (if bt110.2 = 0 then ((graftageref37_Same.f k y102 bt110.1).bind fun t116 => (if t116 = true then ((refs_Name.f k (⟨#[114, 101, 102, 115, 47, 104, 101, 97, 100, 115, 47, 97, 46, 46, 98]⟩ : ByteArray)).bind fun t117 => (if t117 = true then (some false) else ((refs_Name.f k (⟨#[114, 101, 102, 115, 47, 97]⟩ : ByteArray)).bind fun t118 => (some t118)))) else (some false))) else (some false)) else (some false)) else (some false)) else (some false))) else (some false)) else (some false))))))) = some r := H
 have A1 := Aside0.mk A10
 clear A10
 obtain ⟨y102, hy102⟩ : ∃ y_ : List (S55), y_ = (([(⟨(⟨#[72, 69, 65, 68]⟩ : ByteArray), (⟨#[]⟩ : ByteArray), (⟨#[114, 101, 102, 115, 47, 104, 101, 97, 100, 115, 47, 109, 97, 105, 110]⟩ : ByteArray)⟩ : S55), (⟨(⟨#[114, 101, 102, 115, 47, 104, 101, 97, 100, 115, 47, 109, 97, 105, 110]⟩ : ByteArray), t101, (⟨#[]⟩ : ByteArray)⟩ : S55)] : List (S55))) := ⟨_, rfl⟩
 replace H : ((refs_Resolve.f k y102 (⟨#[72, 69, 65, 68]⟩ : ByteArray)).bind fun bt105 => ((refs_Text.f k y102).bind fun bt108 => ((refs_Parse.f k bt108.1).bind fun bt110 => ((refs_Check.f k y102).bind fun t114 => (if t114 = 0 then (if bt105.1.toList = ([114, 101, 102, 115, 47, 104, 101, 97, 100, 115, 47, 109, 97, 105, 110] : List UInt8) then ((graftagelaw37_id.f k 49).bind fun t115 => (if bt105.2.1.toList = t115.toList then (if bt105.2.2 = 0 then (if bt108.2 = 0 then (if bt110.2 = 0 then ((graftageref37_Same.f k y102 bt110.1).bind fun t116 => (if t116 = true then ((refs_Name.f k (⟨#[114, 101, 102, 115, 47, 104, 101, 97, 100, 115, 47, 97, 46, 46, 98]⟩ : ByteArray)).bind fun t117 => (if t117 = true then (some false) else ((refs_Name.f k (⟨#[114, 101, 102, 115, 47, 97]⟩ : ByteArray)).bind fun t118 => (some t118)))) else (some false))) else (some false)) else (some false)) else (some false)) else (some false))) else (some false)) else (some false)))))) = some r := by first | (rw [hy102]; with_reducible exact H) | (have H2_ := (Option.bind_some _ _).symm.trans H; rw [hy102]; with_reducible exact H2_) | (have H2_ := (Option.bind_some _ _).symm.trans H; with_reducible exact H2_) | with_reducible exact H | (rw [hy102]; exact H) | exact H
 have Ny102 := Aside0.mk hy102
 clear hy102
 replace H := Option.bind_eq_some_iff.mp H
 obtain ⟨⟨t105, t106, t107⟩, A20, H⟩ := H
 replace H : ((refs_Text.f k y102).bind fun bt108 => ((refs_Parse.f k bt108.1).bind fun bt110 => ((refs_Check.f k y102).bind fun t114 => (if t114 = 0 then (if t105.toList = ([114, 101, 102, 115, 47, 104, 101, 97, 100, 115, 47, 109, 97, 105, 110] : List UInt8) then ((graftagelaw37_id.f k 49).bind fun t115 => (if t106.toList = t115.toList then (if t107 = 0 then (if bt108.2 = 0 then (if bt110.2 = 0 then ((graftageref37_Same.f k y102 bt110.1).bind fun t116 => (if t116 = true then ((refs_Name.f k (⟨#[114, 101, 102, 115, 47, 104, 101, 97, 100, 115, 47, 97, 46, 46, 98]⟩ : ByteArray)).bind fun t117 => (if t117 = true then (some false) else ((refs_Name.f k (⟨#[114, 101, 102, 115, 47, 97]⟩ : ByteArray)).bind fun t118 => (some t118)))) else (some false))) else (some false)) else (some false)) else (some false)) else (some false))) else (some false)) else (some false))))) = some r := H
 have A2 := Aside0.mk A20
 clear A20
 replace H := Option.bind_eq_some_iff.mp H
 obtain ⟨⟨t108, t109⟩, A30, H⟩ := H
 replace H : ((refs_Parse.f k t108).bind fun bt110 => ((refs_Check.f k y102).bind fun t114 => (if t114 = 0 then (if t105.toList = ([114, 101, 102, 115, 47, 104, 101, 97, 100, 115, 47, 109, 97, 105, 110] : List UInt8) then ((graftagelaw37_id.f k 49).bind fun t115 => (if t106.toList = t115.toList then (if t107 = 0 then (if t109 = 0 then (if bt110.2 = 0 then ((graftageref37_Same.f k y102 bt110.1).bind fun t116 => (if t116 = true then ((refs_Name.f k (⟨#[114, 101, 102, 115, 47, 104, 101, 97, 100, 115, 47, 97, 46, 46, 98]⟩ : ByteArray)).bind fun t117 => (if t117 = true then (some false) else ((refs_Name.f k (⟨#[114, 101, 102, 115, 47, 97]⟩ : ByteArray)).bind fun t118 => (some t118)))) else (some false))) else (some false)) else (some false)) else (some false)) else (some false))) else (some false)) else (some false)))) = some r := H
 have A3 := Aside0.mk A30
 clear A30
 replace H := Option.bind_eq_some_iff.mp H
 obtain ⟨⟨t110, t111⟩, A40, H⟩ := H
 replace H : ((refs_Check.f k y102).bind fun t114 => (if t114 = 0 then (if t105.toList = ([114, 101, 102, 115, 47, 104, 101, 97, 100, 115, 47, 109, 97, 105, 110] : List UInt8) then ((graftagelaw37_id.f k 49).bind fun t115 => (if t106.toList = t115.toList then (if t107 = 0 then (if t109 = 0 then (if t111 = 0 then ((graftageref37_Same.f k y102 t110).bind fun t116 => (if t116 = true then ((refs_Name.f k (⟨#[114, 101, 102, 115, 47, 104, 101, 97, 100, 115, 47, 97, 46, 46, 98]⟩ : ByteArray)).bind fun t117 => (if t117 = true then (some false) else ((refs_Name.f k (⟨#[114, 101, 102, 115, 47, 97]⟩ : ByteArray)).bind fun t118 => (some t118)))) else (some false))) else (some false)) else (some false)) else (some false)) else (some false))) else (some false)) else (some false))) = some r := H
 have A4 := Aside0.mk A40
 clear A40
 replace H := Option.bind_eq_some_iff.mp H
 obtain ⟨t114, A50, H⟩ := H
 replace H : (if t114 = 0 then (if t105.toList = ([114, 101, 102, 115, 47, 104, 101, 97, 100, 115, 47, 109, 97, 105, 110] : List UInt8) then ((graftagelaw37_id.f k 49).bind fun t115 => (if t106.toList = t115.toList then (if t107 = 0 then (if t109 = 0 then (if t111 = 0 then ((graftageref37_Same.f k y102 t110).bind fun t116 => (if t116 = true then ((refs_Name.f k (⟨#[114, 101, 102, 115, 47, 104, 101, 97, 100, 115, 47, 97, 46, 46, 98]⟩ : ByteArray)).bind fun t117 => (if t117 = true then (some false) else ((refs_Name.f k (⟨#[114, 101, 102, 115, 47, 97]⟩ : ByteArray)).bind fun t118 => (some t118)))) else (some false))) else (some false)) else (some false)) else (some false)) else (some false))) else (some false)) else (some false)) = some r := H
 have A5 := Aside0.mk A50
 clear A50
 by_cases c6 : t114 = 0
 ·rw [if_pos c6] at H
  have c6b0 : (t114 == 0) = true := beq_iff_eq.mpr c6
  have c6b1 : (t114 != 0) = false := bne_eq_false_iff_eq.mpr c6
  clear c6
  by_cases c7 : t105.toList = ([114, 101, 102, 115, 47, 104, 101, 97, 100, 115, 47, 109, 97, 105, 110] : List UInt8)
  ·rw [if_pos c7] at H
   have c7b0 : (t105.toList == ([114, 101, 102, 115, 47, 104, 101, 97, 100, 115, 47, 109, 97, 105, 110] : List UInt8)) = true := beq_iff_eq.mpr c7
   have c7b1 : (t105.toList != ([114, 101, 102, 115, 47, 104, 101, 97, 100, 115, 47, 109, 97, 105, 110] : List UInt8)) = false := bne_eq_false_iff_eq.mpr c7
   clear c7
   replace H := Option.bind_eq_some_iff.mp H
   obtain ⟨t115, A80, H⟩ := H
   replace H : (if t106.toList = t115.toList then (if t107 = 0 then (if t109 = 0 then (if t111 = 0 then ((graftageref37_Same.f k y102 t110).bind fun t116 => (if t116 = true then ((refs_Name.f k (⟨#[114, 101, 102, 115, 47, 104, 101, 97, 100, 115, 47, 97, 46, 46, 98]⟩ : ByteArray)).bind fun t117 => (if t117 = true then (some false) else ((refs_Name.f k (⟨#[114, 101, 102, 115, 47, 97]⟩ : ByteArray)).bind fun t118 => (some t118)))) else (some false))) else (some false)) else (some false)) else (some false)) else (some false)) = some r := H
   have A8 := Aside0.mk A80
   clear A80
   by_cases c9 : t106.toList = t115.toList
   ·rw [if_pos c9] at H
    have c9b0 : (t106.toList == t115.toList) = true := beq_iff_eq.mpr c9
    have c9b1 : (t106.toList != t115.toList) = false := bne_eq_false_iff_eq.mpr c9
    clear c9
    by_cases c10 : t107 = 0
    ·rw [if_pos c10] at H
     have c10b0 : (t107 == 0) = true := beq_iff_eq.mpr c10
     have c10b1 : (t107 != 0) = false := bne_eq_false_iff_eq.mpr c10
     clear c10
     by_cases c11 : t109 = 0
     ·rw [if_pos c11] at H
      have c11b0 : (t109 == 0) = true := beq_iff_eq.mpr c11
      have c11b1 : (t109 != 0) = false := bne_eq_false_iff_eq.mpr c11
      clear c11
      by_cases c12 : t111 = 0
      ·rw [if_pos c12] at H
       have c12b0 : (t111 == 0) = true := beq_iff_eq.mpr c12
       have c12b1 : (t111 != 0) = false := bne_eq_false_iff_eq.mpr c12
       clear c12
       replace H := Option.bind_eq_some_iff.mp H
       obtain ⟨t116, A130, H⟩ := H
       replace H : (if t116 = true then ((refs_Name.f k (⟨#[114, 101, 102, 115, 47, 104, 101, 97, 100, 115, 47, 97, 46, 46, 98]⟩ : ByteArray)).bind fun t117 => (if t117 = true then (some false) else ((refs_Name.f k (⟨#[114, 101, 102, 115, 47, 97]⟩ : ByteArray)).bind fun t118 => (some t118)))) else (some false)) = some r := H
       have A13 := Aside0.mk A130
       clear A130
       by_cases c14 : t116 = true
       ·subst c14
        have H1 : ((refs_Name.f k (⟨#[114, 101, 102, 115, 47, 104, 101, 97, 100, 115, 47, 97, 46, 46, 98]⟩ : ByteArray)).bind fun t117 => (if t117 = true then (some false) else ((refs_Name.f k (⟨#[114, 101, 102, 115, 47, 97]⟩ : ByteArray)).bind fun t118 => (some t118)))) = some r := by rw [if_pos rfl] at H; exact H
        clear H
        have H := H1
        clear H1
        replace H := Option.bind_eq_some_iff.mp H
        obtain ⟨t117, A150, H⟩ := H
        replace H : (if t117 = true then (some false) else ((refs_Name.f k (⟨#[114, 101, 102, 115, 47, 97]⟩ : ByteArray)).bind fun t118 => (some t118))) = some r := H
        have A15 := Aside0.mk A150
        clear A150
        by_cases c16 : t117 = true
        ·subst c16
         have H1 : (some false) = some r := by rw [if_pos rfl] at H; exact H
         clear H
         have H := H1
         clear H1
         obtain rfl := Option.some.inj H
         go_enter Tryd.func33, Tryd.ntmps33
         have tk1_ : True := trivial
         have tk2_ : True := trivial
         go_wp2_with (first | (have _t := tk1_; (with_reducible refine gate_callee (f := 71) rfl ?_); refine goesL_ (some 10) rfl rfl Tryd.func71 (by kernel_rfl) rfl #[.int .u8 49] rfl (by (try simp only [List.map_toArray, List.map_cons, List.map_nil]); first | done | rfl | (simp only [List.length_drop, List.length_take]; rfl)) ?_; (with_reducible refine (graftagelaw37_id.calls k 49 t101 _ A1.out).mono ?_); rintro e w17 ⟨rfl, hb⟩; refine ⟨_, rfl, ?_⟩; have n0_ := Aside0.mk (below_step (hb_ HB.out) hb); clear HB; have HB := n0_; clear n0_; (try clear hb); (try clear hb2); (try clear hk); (try clear hi); clear tk1_) | ((with_reducible refine gate_dst (N := 12) rfl ?_); refine Kd.R_lit k55 _ 55 ?hg (N := 12) ?hd (xs := ([(⟨(⟨#[72, 69, 65, 68]⟩ : ByteArray), (⟨#[]⟩ : ByteArray), (⟨#[114, 101, 102, 115, 47, 104, 101, 97, 100, 115, 47, 109, 97, 105, 110]⟩ : ByteArray)⟩ : S55), (⟨(⟨#[114, 101, 102, 115, 47, 104, 101, 97, 100, 115, 47, 109, 97, 105, 110]⟩ : ByteArray), t101, (⟨#[]⟩ : ByteArray)⟩ : S55)] : List (S55))) (inner := [.string (⟨#[72, 69, 65, 68]⟩ : ByteArray), .string (⟨#[]⟩ : ByteArray), .string (⟨#[114, 101, 102, 115, 47, 104, 101, 97, 100, 115, 47, 109, 97, 105, 110]⟩ : ByteArray), .string (⟨#[114, 101, 102, 115, 47, 104, 101, 97, 100, 115, 47, 109, 97, 105, 110]⟩ : ByteArray), .string t101, .string (⟨#[]⟩ : ByteArray)]) (ok := fun _ => True) (okp := fun _ => True) ?hr ?hp (fun _ hk => hk) trivial (Below.refl _ _) (Nat.le_refl _) (by simp) ?_; (case hd => rfl); (case hg => rfl); (case hr => first | (go_simp; done) | (go_simp; rfl)); (case hp => exact (Reps.c3 (show Kd.M k55 _ _ _ (⟨(⟨#[72, 69, 65, 68]⟩ : ByteArray), (⟨#[]⟩ : ByteArray), (⟨#[114, 101, 102, 115, 47, 104, 101, 97, 100, 115, 47, 109, 97, 105, 110]⟩ : ByteArray)⟩ : S55) [.string (⟨#[72, 69, 65, 68]⟩ : ByteArray), .string (⟨#[]⟩ : ByteArray), .string (⟨#[114, 101, 102, 115, 47, 104, 101, 97, 100, 115, 47, 109, 97, 105, 110]⟩ : ByteArray)] from (k55_mkM _ _ _ (⟨(⟨#[72, 69, 65, 68]⟩ : ByteArray), (⟨#[]⟩ : ByteArray), (⟨#[114, 101, 102, 115, 47, 104, 101, 97, 100, 115, 47, 109, 97, 105, 110]⟩ : ByteArray)⟩ : S55) )) (Reps.c3 (show Kd.M k55 _ _ _ (⟨(⟨#[114, 101, 102, 115, 47, 104, 101, 97, 100, 115, 47, 109, 97, 105, 110]⟩ : ByteArray), t101, (⟨#[]⟩ : ByteArray)⟩ : S55) [.string (⟨#[114, 101, 102, 115, 47, 104, 101, 97, 100, 115, 47, 109, 97, 105, 110]⟩ : ByteArray), .string t101, .string (⟨#[]⟩ : ByteArray)] from (k55_mkM _ _ _ (⟨(⟨#[114, 101, 102, 115, 47, 104, 101, 97, 100, 115, 47, 109, 97, 105, 110]⟩ : ByteArray), t101, (⟨#[]⟩ : ByteArray)⟩ : S55) )) (Reps.none _ _)))); intro v103 w18 ho19 hb hg_ hnew_; clear hg_ hnew_; (first | rw [← Ny102.out] at ho19 | (simp only [Int.reduceToNat] at ho19; rw [← Ny102.out] at ho19)); have n0_ := Aside0.mk (Kd.R_lower ho19 (below_size (hb_ HB.out))); have n1_ := Aside0.mk (below_step (hb_ HB.out) hb); clear HB; have HO104 := n0_; have HB := n1_; clear n0_ n1_; clear hb ho19; obtain ⟨Ao20, co20, eo20⟩ := Kd.R_slice HO104.out; subst eo20) | ((with_reducible refine gate_callee (f := 43) rfl ?_); refine goesL_ (some 15) rfl rfl Tryd.func43 (by kernel_rfl) rfl #[.slice Ao20 y102.length co20, .string (⟨#[72, 69, 65, 68]⟩ : ByteArray)] rfl (by (try simp only [List.map_toArray, List.map_cons, List.map_nil]); first | done | rfl | (simp only [List.length_drop, List.length_take]; rfl)) ?_; (with_reducible refine (refs_Resolve.calls k _ _ y102 (⟨#[72, 69, 65, 68]⟩ : ByteArray) t105 t106 t107 _ ?side1 ?side2 ?side3 A2.out).mono ?_); (case side1 => repeat (first | exact (Kd.R_reads' HO104.out).2.2 | (with_reducible refine Kd.C_alloc ?_ _) | (with_reducible refine Kd.C_drewN ?_ _) | (with_reducible refine Kd.C_drew ?_))); (case side2 => exact (Kd.R_reads' HO104.out).2.1); (case side3 => exact GV.below hgv (hb_ HB.out)); rintro e w21 ⟨rfl, hb⟩; refine ⟨_, rfl, ?_⟩; have n0_ := Aside0.mk (Kd.R_below (rk_ HO104.out) hb); have n1_ := Aside0.mk (below_step (hb_ HB.out) hb); clear HO104; clear HB; have HO104 := n0_; have HB := n1_; clear n0_ n1_; (try clear hb); (try clear hb2); (try clear hk); (try clear hi)) | ((with_reducible refine gate_callee (f := 38) rfl ?_); refine goesL_ (some 21) rfl rfl Tryd.func38 (by kernel_rfl) rfl #[.slice Ao20 y102.length co20] rfl (by (try simp only [List.map_toArray, List.map_cons, List.map_nil]); first | done | rfl | (simp only [List.length_drop, List.length_take]; rfl)) ?_; (with_reducible refine (refs_Text.calls k _ _ y102 t108 t109 _ ?side1 ?side2 ?side3 A3.out).mono ?_); (case side1 => repeat (first | exact (Kd.R_reads' HO104.out).2.2 | (with_reducible refine Kd.C_alloc ?_ _) | (with_reducible refine Kd.C_drewN ?_ _) | (with_reducible refine Kd.C_drew ?_))); (case side2 => exact (Kd.R_reads' HO104.out).2.1); (case side3 => exact GV.below hgv (hb_ HB.out)); rintro e w22 ⟨rfl, hb⟩; refine ⟨_, rfl, ?_⟩; have n0_ := Aside0.mk (Kd.R_below (rk_ HO104.out) hb); have n1_ := Aside0.mk (below_step (hb_ HB.out) hb); clear HO104; clear HB; have HO104 := n0_; have HB := n1_; clear n0_ n1_; (try clear hb); (try clear hb2); (try clear hk); (try clear hi)) | ((with_reducible refine gate_callee (f := 40) rfl ?_); refine goesL_ (some 26) rfl rfl Tryd.func40 (by kernel_rfl) rfl #[.string t108] rfl (by (try simp only [List.map_toArray, List.map_cons, List.map_nil]); first | done | rfl | (simp only [List.length_drop, List.length_take]; rfl)) ?_; (with_reducible refine (refs_Parse.calls k t108 t110 t111 _ ?side1 A4.out).mono ?_); (case side1 => exact GV.below hgv (hb_ HB.out)); rintro e w23 ⟨v112, rfl, ho0, hb⟩; refine ⟨_, rfl, ?_⟩; have n0_ := Aside0.mk (Kd.R_elder' (rk_ HO104.out) (Kd.R_base ho0) hb); have n1_ := Aside0.mk (Kd.R_lower (Kd.R_new' ho0 (Kd.R_lt (rk_ HO104.out))) (below_size (hb_ HB.out))); have n2_ := Aside0.mk (below_step (hb_ HB.out) hb); clear HO104; clear HB; have HO104 := n0_; have HO113 := n1_; have HB := n2_; clear n0_ n1_ n2_; (try clear hb); (try clear hb2); (try clear hk); (try clear hi); (try clear ho0)) | ((with_reducible refine gate_callee (f := 36) rfl ?_); refine goesL_ (some 30) rfl rfl Tryd.func36 (by kernel_rfl) rfl #[.slice Ao20 y102.length co20] rfl (by (try simp only [List.map_toArray, List.map_cons, List.map_nil]); first | done | rfl | (simp only [List.length_drop, List.length_take]; rfl)) ?_; (with_reducible refine (refs_Check.calls k _ _ y102 t114 _ ?side1 ?side2 ?side3 A5.out).mono ?_); (case side1 => repeat (first | exact (Kd.R_reads' HO104.out).2.2 | (with_reducible refine Kd.C_alloc ?_ _) | (with_reducible refine Kd.C_drewN ?_ _) | (with_reducible refine Kd.C_drew ?_))); (case side2 => exact (Kd.R_reads' HO104.out).2.1); (case side3 => exact GV.below hgv (hb_ HB.out)); rintro e w24 ⟨rfl, hb⟩; refine ⟨_, rfl, ?_⟩; have n0_ := Aside0.mk (Kd.R_below (rk_ HO104.out) hb); have n1_ := Aside0.mk (Kd.R_below (rk_ HO113.out) hb); have n2_ := Aside0.mk (below_step (hb_ HB.out) hb); clear HO104; clear HO113; clear HB; have HO104 := n0_; have HO113 := n1_; have HB := n2_; clear n0_ n1_ n2_; (try clear hb); (try clear hb2); (try clear hk); (try clear hi)) | (go_at_call 71; have _t := tk2_; (with_reducible refine (graftagelaw37_id.calls k 49 t115 _ A8.out).mono ?_); rintro e w25 ⟨rfl, hb⟩; have n0_ := Aside0.mk (Kd.R_below (rk_ HO104.out) hb); have n1_ := Aside0.mk (Kd.R_below (rk_ HO113.out) hb); have n2_ := Aside0.mk (below_step (hb_ HB.out) hb); clear HO104; clear HO113; clear HB; have HO104 := n0_; have HO113 := n1_; have HB := n2_; clear n0_ n1_ n2_; (try clear hb); (try clear hb2); (try clear hk); (try clear hi); obtain ⟨Ao26, co26, eo26⟩ := Kd.R_slice HO113.out; subst eo26; clear tk2_) | (go_at_call 42; (with_reducible refine (graftageref37_Same.calls k _ _ y102 _ _ t110 true _ ?side1 ?side2 ?side3 ?side4 A13.out).mono ?_); (case side1 => repeat (first | exact (Kd.R_reads' HO104.out).2.2 | (with_reducible refine Kd.C_alloc ?_ _) | (with_reducible refine Kd.C_drewN ?_ _) | (with_reducible refine Kd.C_drew ?_))); (case side2 => exact (Kd.R_reads' HO104.out).2.1); (case side3 => repeat (first | exact (Kd.R_reads' HO113.out).2.2 | (with_reducible refine Kd.C_alloc ?_ _) | (with_reducible refine Kd.C_drewN ?_ _) | (with_reducible refine Kd.C_drew ?_))); (case side4 => exact (Kd.R_reads' HO113.out).2.1); rintro e w' ⟨rfl, ⟨nd, rfl⟩⟩) | (go_at_call 34; (with_reducible refine (refs_Name.calls k (⟨#[114, 101, 102, 115, 47, 104, 101, 97, 100, 115, 47, 97, 46, 46, 98]⟩ : ByteArray) true _ ?side1 A15.out).mono ?_); (case side1 => exact GV.below hgv (hb_ HB.out)); rintro e w27 ⟨rfl, hb⟩; have n0_ := Aside0.mk (Kd.R_below (rk_ HO104.out) hb); have n1_ := Aside0.mk (Kd.R_below (rk_ HO113.out) hb); have n2_ := Aside0.mk (below_step (hb_ HB.out) hb); clear HO104; clear HO113; clear HB; have HO104 := n0_; have HO113 := n1_; have HB := n2_; clear n0_ n1_ n2_; (try clear hb); (try clear hb2); (try clear hk); (try clear hi)))
         go_ret
         exact ⟨by first | rfl | (simp [errW_none, errW_some] <;> rfl) | (simp [*, errW_none, errW_some] <;> rfl) | (simp [ne_nil_bool]; done) | (simp [*, ne_nil_bool]; done), hb_ HB.out⟩
        ·replace c16 := Bool.eq_false_iff.mpr c16
         subst c16
         have H1 : ((refs_Name.f k (⟨#[114, 101, 102, 115, 47, 97]⟩ : ByteArray)).bind fun t118 => (some t118)) = some r := by rw [if_neg (show ¬ (false = true) by decide)] at H; exact H
         clear H
         have H := H1
         clear H1
         replace H := Option.bind_eq_some_iff.mp H
         obtain ⟨t118, A280, H⟩ := H
         replace H : (some t118) = some r := H
         have A28 := Aside0.mk A280
         clear A280
         obtain rfl := Option.some.inj H
         go_enter Tryd.func33, Tryd.ntmps33
         have tk3_ : True := trivial
         have tk4_ : True := trivial
         have tk5_ : True := trivial
         have tk6_ : True := trivial
         go_wp2_with (first | (have _t := tk3_; (with_reducible refine gate_callee (f := 71) rfl ?_); refine goesL_ (some 10) rfl rfl Tryd.func71 (by kernel_rfl) rfl #[.int .u8 49] rfl (by (try simp only [List.map_toArray, List.map_cons, List.map_nil]); first | done | rfl | (simp only [List.length_drop, List.length_take]; rfl)) ?_; (with_reducible refine (graftagelaw37_id.calls k 49 t101 _ A1.out).mono ?_); rintro e w29 ⟨rfl, hb⟩; refine ⟨_, rfl, ?_⟩; have n0_ := Aside0.mk (below_step (hb_ HB.out) hb); clear HB; have HB := n0_; clear n0_; (try clear hb); (try clear hb2); (try clear hk); (try clear hi); clear tk3_) | ((with_reducible refine gate_dst (N := 12) rfl ?_); refine Kd.R_lit k55 _ 55 ?hg (N := 12) ?hd (xs := ([(⟨(⟨#[72, 69, 65, 68]⟩ : ByteArray), (⟨#[]⟩ : ByteArray), (⟨#[114, 101, 102, 115, 47, 104, 101, 97, 100, 115, 47, 109, 97, 105, 110]⟩ : ByteArray)⟩ : S55), (⟨(⟨#[114, 101, 102, 115, 47, 104, 101, 97, 100, 115, 47, 109, 97, 105, 110]⟩ : ByteArray), t101, (⟨#[]⟩ : ByteArray)⟩ : S55)] : List (S55))) (inner := [.string (⟨#[72, 69, 65, 68]⟩ : ByteArray), .string (⟨#[]⟩ : ByteArray), .string (⟨#[114, 101, 102, 115, 47, 104, 101, 97, 100, 115, 47, 109, 97, 105, 110]⟩ : ByteArray), .string (⟨#[114, 101, 102, 115, 47, 104, 101, 97, 100, 115, 47, 109, 97, 105, 110]⟩ : ByteArray), .string t101, .string (⟨#[]⟩ : ByteArray)]) (ok := fun _ => True) (okp := fun _ => True) ?hr ?hp (fun _ hk => hk) trivial (Below.refl _ _) (Nat.le_refl _) (by simp) ?_; (case hd => rfl); (case hg => rfl); (case hr => first | (go_simp; done) | (go_simp; rfl)); (case hp => exact (Reps.c3 (show Kd.M k55 _ _ _ (⟨(⟨#[72, 69, 65, 68]⟩ : ByteArray), (⟨#[]⟩ : ByteArray), (⟨#[114, 101, 102, 115, 47, 104, 101, 97, 100, 115, 47, 109, 97, 105, 110]⟩ : ByteArray)⟩ : S55) [.string (⟨#[72, 69, 65, 68]⟩ : ByteArray), .string (⟨#[]⟩ : ByteArray), .string (⟨#[114, 101, 102, 115, 47, 104, 101, 97, 100, 115, 47, 109, 97, 105, 110]⟩ : ByteArray)] from (k55_mkM _ _ _ (⟨(⟨#[72, 69, 65, 68]⟩ : ByteArray), (⟨#[]⟩ : ByteArray), (⟨#[114, 101, 102, 115, 47, 104, 101, 97, 100, 115, 47, 109, 97, 105, 110]⟩ : ByteArray)⟩ : S55) )) (Reps.c3 (show Kd.M k55 _ _ _ (⟨(⟨#[114, 101, 102, 115, 47, 104, 101, 97, 100, 115, 47, 109, 97, 105, 110]⟩ : ByteArray), t101, (⟨#[]⟩ : ByteArray)⟩ : S55) [.string (⟨#[114, 101, 102, 115, 47, 104, 101, 97, 100, 115, 47, 109, 97, 105, 110]⟩ : ByteArray), .string t101, .string (⟨#[]⟩ : ByteArray)] from (k55_mkM _ _ _ (⟨(⟨#[114, 101, 102, 115, 47, 104, 101, 97, 100, 115, 47, 109, 97, 105, 110]⟩ : ByteArray), t101, (⟨#[]⟩ : ByteArray)⟩ : S55) )) (Reps.none _ _)))); intro v103 w30 ho31 hb hg_ hnew_; clear hg_ hnew_; (first | rw [← Ny102.out] at ho31 | (simp only [Int.reduceToNat] at ho31; rw [← Ny102.out] at ho31)); have n0_ := Aside0.mk (Kd.R_lower ho31 (below_size (hb_ HB.out))); have n1_ := Aside0.mk (below_step (hb_ HB.out) hb); clear HB; have HO104 := n0_; have HB := n1_; clear n0_ n1_; clear hb ho31; obtain ⟨Ao32, co32, eo32⟩ := Kd.R_slice HO104.out; subst eo32) | ((with_reducible refine gate_callee (f := 43) rfl ?_); refine goesL_ (some 15) rfl rfl Tryd.func43 (by kernel_rfl) rfl #[.slice Ao32 y102.length co32, .string (⟨#[72, 69, 65, 68]⟩ : ByteArray)] rfl (by (try simp only [List.map_toArray, List.map_cons, List.map_nil]); first | done | rfl | (simp only [List.length_drop, List.length_take]; rfl)) ?_; (with_reducible refine (refs_Resolve.calls k _ _ y102 (⟨#[72, 69, 65, 68]⟩ : ByteArray) t105 t106 t107 _ ?side1 ?side2 ?side3 A2.out).mono ?_); (case side1 => repeat (first | exact (Kd.R_reads' HO104.out).2.2 | (with_reducible refine Kd.C_alloc ?_ _) | (with_reducible refine Kd.C_drewN ?_ _) | (with_reducible refine Kd.C_drew ?_))); (case side2 => exact (Kd.R_reads' HO104.out).2.1); (case side3 => exact GV.below hgv (hb_ HB.out)); rintro e w33 ⟨rfl, hb⟩; refine ⟨_, rfl, ?_⟩; have n0_ := Aside0.mk (Kd.R_below (rk_ HO104.out) hb); have n1_ := Aside0.mk (below_step (hb_ HB.out) hb); clear HO104; clear HB; have HO104 := n0_; have HB := n1_; clear n0_ n1_; (try clear hb); (try clear hb2); (try clear hk); (try clear hi)) | ((with_reducible refine gate_callee (f := 38) rfl ?_); refine goesL_ (some 21) rfl rfl Tryd.func38 (by kernel_rfl) rfl #[.slice Ao32 y102.length co32] rfl (by (try simp only [List.map_toArray, List.map_cons, List.map_nil]); first | done | rfl | (simp only [List.length_drop, List.length_take]; rfl)) ?_; (with_reducible refine (refs_Text.calls k _ _ y102 t108 t109 _ ?side1 ?side2 ?side3 A3.out).mono ?_); (case side1 => repeat (first | exact (Kd.R_reads' HO104.out).2.2 | (with_reducible refine Kd.C_alloc ?_ _) | (with_reducible refine Kd.C_drewN ?_ _) | (with_reducible refine Kd.C_drew ?_))); (case side2 => exact (Kd.R_reads' HO104.out).2.1); (case side3 => exact GV.below hgv (hb_ HB.out)); rintro e w34 ⟨rfl, hb⟩; refine ⟨_, rfl, ?_⟩; have n0_ := Aside0.mk (Kd.R_below (rk_ HO104.out) hb); have n1_ := Aside0.mk (below_step (hb_ HB.out) hb); clear HO104; clear HB; have HO104 := n0_; have HB := n1_; clear n0_ n1_; (try clear hb); (try clear hb2); (try clear hk); (try clear hi)) | ((with_reducible refine gate_callee (f := 40) rfl ?_); refine goesL_ (some 26) rfl rfl Tryd.func40 (by kernel_rfl) rfl #[.string t108] rfl (by (try simp only [List.map_toArray, List.map_cons, List.map_nil]); first | done | rfl | (simp only [List.length_drop, List.length_take]; rfl)) ?_; (with_reducible refine (refs_Parse.calls k t108 t110 t111 _ ?side1 A4.out).mono ?_); (case side1 => exact GV.below hgv (hb_ HB.out)); rintro e w35 ⟨v112, rfl, ho0, hb⟩; refine ⟨_, rfl, ?_⟩; have n0_ := Aside0.mk (Kd.R_elder' (rk_ HO104.out) (Kd.R_base ho0) hb); have n1_ := Aside0.mk (Kd.R_lower (Kd.R_new' ho0 (Kd.R_lt (rk_ HO104.out))) (below_size (hb_ HB.out))); have n2_ := Aside0.mk (below_step (hb_ HB.out) hb); clear HO104; clear HB; have HO104 := n0_; have HO113 := n1_; have HB := n2_; clear n0_ n1_ n2_; (try clear hb); (try clear hb2); (try clear hk); (try clear hi); (try clear ho0)) | ((with_reducible refine gate_callee (f := 36) rfl ?_); refine goesL_ (some 30) rfl rfl Tryd.func36 (by kernel_rfl) rfl #[.slice Ao32 y102.length co32] rfl (by (try simp only [List.map_toArray, List.map_cons, List.map_nil]); first | done | rfl | (simp only [List.length_drop, List.length_take]; rfl)) ?_; (with_reducible refine (refs_Check.calls k _ _ y102 t114 _ ?side1 ?side2 ?side3 A5.out).mono ?_); (case side1 => repeat (first | exact (Kd.R_reads' HO104.out).2.2 | (with_reducible refine Kd.C_alloc ?_ _) | (with_reducible refine Kd.C_drewN ?_ _) | (with_reducible refine Kd.C_drew ?_))); (case side2 => exact (Kd.R_reads' HO104.out).2.1); (case side3 => exact GV.below hgv (hb_ HB.out)); rintro e w36 ⟨rfl, hb⟩; refine ⟨_, rfl, ?_⟩; have n0_ := Aside0.mk (Kd.R_below (rk_ HO104.out) hb); have n1_ := Aside0.mk (Kd.R_below (rk_ HO113.out) hb); have n2_ := Aside0.mk (below_step (hb_ HB.out) hb); clear HO104; clear HO113; clear HB; have HO104 := n0_; have HO113 := n1_; have HB := n2_; clear n0_ n1_ n2_; (try clear hb); (try clear hb2); (try clear hk); (try clear hi)) | (go_at_call 71; have _t := tk4_; (with_reducible refine (graftagelaw37_id.calls k 49 t115 _ A8.out).mono ?_); rintro e w37 ⟨rfl, hb⟩; have n0_ := Aside0.mk (Kd.R_below (rk_ HO104.out) hb); have n1_ := Aside0.mk (Kd.R_below (rk_ HO113.out) hb); have n2_ := Aside0.mk (below_step (hb_ HB.out) hb); clear HO104; clear HO113; clear HB; have HO104 := n0_; have HO113 := n1_; have HB := n2_; clear n0_ n1_ n2_; (try clear hb); (try clear hb2); (try clear hk); (try clear hi); obtain ⟨Ao38, co38, eo38⟩ := Kd.R_slice HO113.out; subst eo38; clear tk4_) | (go_at_call 42; (with_reducible refine (graftageref37_Same.calls k _ _ y102 _ _ t110 true _ ?side1 ?side2 ?side3 ?side4 A13.out).mono ?_); (case side1 => repeat (first | exact (Kd.R_reads' HO104.out).2.2 | (with_reducible refine Kd.C_alloc ?_ _) | (with_reducible refine Kd.C_drewN ?_ _) | (with_reducible refine Kd.C_drew ?_))); (case side2 => exact (Kd.R_reads' HO104.out).2.1); (case side3 => repeat (first | exact (Kd.R_reads' HO113.out).2.2 | (with_reducible refine Kd.C_alloc ?_ _) | (with_reducible refine Kd.C_drewN ?_ _) | (with_reducible refine Kd.C_drew ?_))); (case side4 => exact (Kd.R_reads' HO113.out).2.1); rintro e w' ⟨rfl, ⟨nd, rfl⟩⟩) | (go_at_call 34; have _t := tk5_; (with_reducible refine (refs_Name.calls k (⟨#[114, 101, 102, 115, 47, 104, 101, 97, 100, 115, 47, 97, 46, 46, 98]⟩ : ByteArray) false _ ?side1 A15.out).mono ?_); (case side1 => exact GV.below hgv (hb_ HB.out)); rintro e w39 ⟨rfl, hb⟩; have n0_ := Aside0.mk (Kd.R_below (rk_ HO104.out) hb); have n1_ := Aside0.mk (Kd.R_below (rk_ HO113.out) hb); have n2_ := Aside0.mk (below_step (hb_ HB.out) hb); clear HO104; clear HO113; clear HB; have HO104 := n0_; have HO113 := n1_; have HB := n2_; clear n0_ n1_ n2_; (try clear hb); (try clear hb2); (try clear hk); (try clear hi); clear tk5_) | (go_at_call 34; have _t := tk6_; (with_reducible refine (refs_Name.calls k (⟨#[114, 101, 102, 115, 47, 97]⟩ : ByteArray) t118 _ ?side1 A28.out).mono ?_); (case side1 => exact GV.below hgv (hb_ HB.out)); rintro e w40 ⟨rfl, hb⟩; have n0_ := Aside0.mk (Kd.R_below (rk_ HO104.out) hb); have n1_ := Aside0.mk (Kd.R_below (rk_ HO113.out) hb); have n2_ := Aside0.mk (below_step (hb_ HB.out) hb); clear HO104; clear HO113; clear HB; have HO104 := n0_; have HO113 := n1_; have HB := n2_; clear n0_ n1_ n2_; (try clear hb); (try clear hb2); (try clear hk); (try clear hi); clear tk6_))
         go_ret
         exact ⟨by first | rfl | (simp [errW_none, errW_some] <;> rfl) | (simp [*, errW_none, errW_some] <;> rfl) | (simp [ne_nil_bool]; done) | (simp [*, ne_nil_bool]; done), hb_ HB.out⟩
       ·replace c14 := Bool.eq_false_iff.mpr c14
        subst c14
        have H1 : (some false) = some r := by rw [if_neg (show ¬ (false = true) by decide)] at H; exact H
        clear H
        have H := H1
        clear H1
        obtain rfl := Option.some.inj H
        go_enter Tryd.func33, Tryd.ntmps33
        have tk7_ : True := trivial
        have tk8_ : True := trivial
        go_wp2_with (first | (have _t := tk7_; (with_reducible refine gate_callee (f := 71) rfl ?_); refine goesL_ (some 10) rfl rfl Tryd.func71 (by kernel_rfl) rfl #[.int .u8 49] rfl (by (try simp only [List.map_toArray, List.map_cons, List.map_nil]); first | done | rfl | (simp only [List.length_drop, List.length_take]; rfl)) ?_; (with_reducible refine (graftagelaw37_id.calls k 49 t101 _ A1.out).mono ?_); rintro e w41 ⟨rfl, hb⟩; refine ⟨_, rfl, ?_⟩; have n0_ := Aside0.mk (below_step (hb_ HB.out) hb); clear HB; have HB := n0_; clear n0_; (try clear hb); (try clear hb2); (try clear hk); (try clear hi); clear tk7_) | ((with_reducible refine gate_dst (N := 12) rfl ?_); refine Kd.R_lit k55 _ 55 ?hg (N := 12) ?hd (xs := ([(⟨(⟨#[72, 69, 65, 68]⟩ : ByteArray), (⟨#[]⟩ : ByteArray), (⟨#[114, 101, 102, 115, 47, 104, 101, 97, 100, 115, 47, 109, 97, 105, 110]⟩ : ByteArray)⟩ : S55), (⟨(⟨#[114, 101, 102, 115, 47, 104, 101, 97, 100, 115, 47, 109, 97, 105, 110]⟩ : ByteArray), t101, (⟨#[]⟩ : ByteArray)⟩ : S55)] : List (S55))) (inner := [.string (⟨#[72, 69, 65, 68]⟩ : ByteArray), .string (⟨#[]⟩ : ByteArray), .string (⟨#[114, 101, 102, 115, 47, 104, 101, 97, 100, 115, 47, 109, 97, 105, 110]⟩ : ByteArray), .string (⟨#[114, 101, 102, 115, 47, 104, 101, 97, 100, 115, 47, 109, 97, 105, 110]⟩ : ByteArray), .string t101, .string (⟨#[]⟩ : ByteArray)]) (ok := fun _ => True) (okp := fun _ => True) ?hr ?hp (fun _ hk => hk) trivial (Below.refl _ _) (Nat.le_refl _) (by simp) ?_; (case hd => rfl); (case hg => rfl); (case hr => first | (go_simp; done) | (go_simp; rfl)); (case hp => exact (Reps.c3 (show Kd.M k55 _ _ _ (⟨(⟨#[72, 69, 65, 68]⟩ : ByteArray), (⟨#[]⟩ : ByteArray), (⟨#[114, 101, 102, 115, 47, 104, 101, 97, 100, 115, 47, 109, 97, 105, 110]⟩ : ByteArray)⟩ : S55) [.string (⟨#[72, 69, 65, 68]⟩ : ByteArray), .string (⟨#[]⟩ : ByteArray), .string (⟨#[114, 101, 102, 115, 47, 104, 101, 97, 100, 115, 47, 109, 97, 105, 110]⟩ : ByteArray)] from (k55_mkM _ _ _ (⟨(⟨#[72, 69, 65, 68]⟩ : ByteArray), (⟨#[]⟩ : ByteArray), (⟨#[114, 101, 102, 115, 47, 104, 101, 97, 100, 115, 47, 109, 97, 105, 110]⟩ : ByteArray)⟩ : S55) )) (Reps.c3 (show Kd.M k55 _ _ _ (⟨(⟨#[114, 101, 102, 115, 47, 104, 101, 97, 100, 115, 47, 109, 97, 105, 110]⟩ : ByteArray), t101, (⟨#[]⟩ : ByteArray)⟩ : S55) [.string (⟨#[114, 101, 102, 115, 47, 104, 101, 97, 100, 115, 47, 109, 97, 105, 110]⟩ : ByteArray), .string t101, .string (⟨#[]⟩ : ByteArray)] from (k55_mkM _ _ _ (⟨(⟨#[114, 101, 102, 115, 47, 104, 101, 97, 100, 115, 47, 109, 97, 105, 110]⟩ : ByteArray), t101, (⟨#[]⟩ : ByteArray)⟩ : S55) )) (Reps.none _ _)))); intro v103 w42 ho43 hb hg_ hnew_; clear hg_ hnew_; (first | rw [← Ny102.out] at ho43 | (simp only [Int.reduceToNat] at ho43; rw [← Ny102.out] at ho43)); have n0_ := Aside0.mk (Kd.R_lower ho43 (below_size (hb_ HB.out))); have n1_ := Aside0.mk (below_step (hb_ HB.out) hb); clear HB; have HO104 := n0_; have HB := n1_; clear n0_ n1_; clear hb ho43; obtain ⟨Ao44, co44, eo44⟩ := Kd.R_slice HO104.out; subst eo44) | ((with_reducible refine gate_callee (f := 43) rfl ?_); refine goesL_ (some 15) rfl rfl Tryd.func43 (by kernel_rfl) rfl #[.slice Ao44 y102.length co44, .string (⟨#[72, 69, 65, 68]⟩ : ByteArray)] rfl (by (try simp only [List.map_toArray, List.map_cons, List.map_nil]); first | done | rfl | (simp only [List.length_drop, List.length_take]; rfl)) ?_; (with_reducible refine (refs_Resolve.calls k _ _ y102 (⟨#[72, 69, 65, 68]⟩ : ByteArray) t105 t106 t107 _ ?side1 ?side2 ?side3 A2.out).mono ?_); (case side1 => repeat (first | exact (Kd.R_reads' HO104.out).2.2 | (with_reducible refine Kd.C_alloc ?_ _) | (with_reducible refine Kd.C_drewN ?_ _) | (with_reducible refine Kd.C_drew ?_))); (case side2 => exact (Kd.R_reads' HO104.out).2.1); (case side3 => exact GV.below hgv (hb_ HB.out)); rintro e w45 ⟨rfl, hb⟩; refine ⟨_, rfl, ?_⟩; have n0_ := Aside0.mk (Kd.R_below (rk_ HO104.out) hb); have n1_ := Aside0.mk (below_step (hb_ HB.out) hb); clear HO104; clear HB; have HO104 := n0_; have HB := n1_; clear n0_ n1_; (try clear hb); (try clear hb2); (try clear hk); (try clear hi)) | ((with_reducible refine gate_callee (f := 38) rfl ?_); refine goesL_ (some 21) rfl rfl Tryd.func38 (by kernel_rfl) rfl #[.slice Ao44 y102.length co44] rfl (by (try simp only [List.map_toArray, List.map_cons, List.map_nil]); first | done | rfl | (simp only [List.length_drop, List.length_take]; rfl)) ?_; (with_reducible refine (refs_Text.calls k _ _ y102 t108 t109 _ ?side1 ?side2 ?side3 A3.out).mono ?_); (case side1 => repeat (first | exact (Kd.R_reads' HO104.out).2.2 | (with_reducible refine Kd.C_alloc ?_ _) | (with_reducible refine Kd.C_drewN ?_ _) | (with_reducible refine Kd.C_drew ?_))); (case side2 => exact (Kd.R_reads' HO104.out).2.1); (case side3 => exact GV.below hgv (hb_ HB.out)); rintro e w46 ⟨rfl, hb⟩; refine ⟨_, rfl, ?_⟩; have n0_ := Aside0.mk (Kd.R_below (rk_ HO104.out) hb); have n1_ := Aside0.mk (below_step (hb_ HB.out) hb); clear HO104; clear HB; have HO104 := n0_; have HB := n1_; clear n0_ n1_; (try clear hb); (try clear hb2); (try clear hk); (try clear hi)) | ((with_reducible refine gate_callee (f := 40) rfl ?_); refine goesL_ (some 26) rfl rfl Tryd.func40 (by kernel_rfl) rfl #[.string t108] rfl (by (try simp only [List.map_toArray, List.map_cons, List.map_nil]); first | done | rfl | (simp only [List.length_drop, List.length_take]; rfl)) ?_; (with_reducible refine (refs_Parse.calls k t108 t110 t111 _ ?side1 A4.out).mono ?_); (case side1 => exact GV.below hgv (hb_ HB.out)); rintro e w47 ⟨v112, rfl, ho0, hb⟩; refine ⟨_, rfl, ?_⟩; have n0_ := Aside0.mk (Kd.R_elder' (rk_ HO104.out) (Kd.R_base ho0) hb); have n1_ := Aside0.mk (Kd.R_lower (Kd.R_new' ho0 (Kd.R_lt (rk_ HO104.out))) (below_size (hb_ HB.out))); have n2_ := Aside0.mk (below_step (hb_ HB.out) hb); clear HO104; clear HB; have HO104 := n0_; have HO113 := n1_; have HB := n2_; clear n0_ n1_ n2_; (try clear hb); (try clear hb2); (try clear hk); (try clear hi); (try clear ho0)) | ((with_reducible refine gate_callee (f := 36) rfl ?_); refine goesL_ (some 30) rfl rfl Tryd.func36 (by kernel_rfl) rfl #[.slice Ao44 y102.length co44] rfl (by (try simp only [List.map_toArray, List.map_cons, List.map_nil]); first | done | rfl | (simp only [List.length_drop, List.length_take]; rfl)) ?_; (with_reducible refine (refs_Check.calls k _ _ y102 t114 _ ?side1 ?side2 ?side3 A5.out).mono ?_); (case side1 => repeat (first | exact (Kd.R_reads' HO104.out).2.2 | (with_reducible refine Kd.C_alloc ?_ _) | (with_reducible refine Kd.C_drewN ?_ _) | (with_reducible refine Kd.C_drew ?_))); (case side2 => exact (Kd.R_reads' HO104.out).2.1); (case side3 => exact GV.below hgv (hb_ HB.out)); rintro e w48 ⟨rfl, hb⟩; refine ⟨_, rfl, ?_⟩; have n0_ := Aside0.mk (Kd.R_below (rk_ HO104.out) hb); have n1_ := Aside0.mk (Kd.R_below (rk_ HO113.out) hb); have n2_ := Aside0.mk (below_step (hb_ HB.out) hb); clear HO104; clear HO113; clear HB; have HO104 := n0_; have HO113 := n1_; have HB := n2_; clear n0_ n1_ n2_; (try clear hb); (try clear hb2); (try clear hk); (try clear hi)) | (go_at_call 71; have _t := tk8_; (with_reducible refine (graftagelaw37_id.calls k 49 t115 _ A8.out).mono ?_); rintro e w49 ⟨rfl, hb⟩; have n0_ := Aside0.mk (Kd.R_below (rk_ HO104.out) hb); have n1_ := Aside0.mk (Kd.R_below (rk_ HO113.out) hb); have n2_ := Aside0.mk (below_step (hb_ HB.out) hb); clear HO104; clear HO113; clear HB; have HO104 := n0_; have HO113 := n1_; have HB := n2_; clear n0_ n1_ n2_; (try clear hb); (try clear hb2); (try clear hk); (try clear hi); obtain ⟨Ao50, co50, eo50⟩ := Kd.R_slice HO113.out; subst eo50; clear tk8_) | (go_at_call 42; (with_reducible refine (graftageref37_Same.calls k _ _ y102 _ _ t110 false _ ?side1 ?side2 ?side3 ?side4 A13.out).mono ?_); (case side1 => repeat (first | exact (Kd.R_reads' HO104.out).2.2 | (with_reducible refine Kd.C_alloc ?_ _) | (with_reducible refine Kd.C_drewN ?_ _) | (with_reducible refine Kd.C_drew ?_))); (case side2 => exact (Kd.R_reads' HO104.out).2.1); (case side3 => repeat (first | exact (Kd.R_reads' HO113.out).2.2 | (with_reducible refine Kd.C_alloc ?_ _) | (with_reducible refine Kd.C_drewN ?_ _) | (with_reducible refine Kd.C_drew ?_))); (case side4 => exact (Kd.R_reads' HO113.out).2.1); rintro e w' ⟨rfl, ⟨nd, rfl⟩⟩))
        go_ret
        exact ⟨by first | rfl | (simp [errW_none, errW_some] <;> rfl) | (simp [*, errW_none, errW_some] <;> rfl) | (simp [ne_nil_bool]; done) | (simp [*, ne_nil_bool]; done), hb_ HB.out⟩
      ·rw [if_neg c12] at H
       have c12b0 : (t111 == 0) = false := beq_eq_false_iff_ne.mpr c12
       have c12b1 : (t111 != 0) = true := bne_iff_ne.mpr c12
       obtain rfl := Option.some.inj H
       go_enter Tryd.func33, Tryd.ntmps33
       have tk9_ : True := trivial
       have tk10_ : True := trivial
       go_wp2_with (first | (have _t := tk9_; (with_reducible refine gate_callee (f := 71) rfl ?_); refine goesL_ (some 10) rfl rfl Tryd.func71 (by kernel_rfl) rfl #[.int .u8 49] rfl (by (try simp only [List.map_toArray, List.map_cons, List.map_nil]); first | done | rfl | (simp only [List.length_drop, List.length_take]; rfl)) ?_; (with_reducible refine (graftagelaw37_id.calls k 49 t101 _ A1.out).mono ?_); rintro e w51 ⟨rfl, hb⟩; refine ⟨_, rfl, ?_⟩; have n0_ := Aside0.mk (below_step (hb_ HB.out) hb); clear HB; have HB := n0_; clear n0_; (try clear hb); (try clear hb2); (try clear hk); (try clear hi); clear tk9_) | ((with_reducible refine gate_dst (N := 12) rfl ?_); refine Kd.R_lit k55 _ 55 ?hg (N := 12) ?hd (xs := ([(⟨(⟨#[72, 69, 65, 68]⟩ : ByteArray), (⟨#[]⟩ : ByteArray), (⟨#[114, 101, 102, 115, 47, 104, 101, 97, 100, 115, 47, 109, 97, 105, 110]⟩ : ByteArray)⟩ : S55), (⟨(⟨#[114, 101, 102, 115, 47, 104, 101, 97, 100, 115, 47, 109, 97, 105, 110]⟩ : ByteArray), t101, (⟨#[]⟩ : ByteArray)⟩ : S55)] : List (S55))) (inner := [.string (⟨#[72, 69, 65, 68]⟩ : ByteArray), .string (⟨#[]⟩ : ByteArray), .string (⟨#[114, 101, 102, 115, 47, 104, 101, 97, 100, 115, 47, 109, 97, 105, 110]⟩ : ByteArray), .string (⟨#[114, 101, 102, 115, 47, 104, 101, 97, 100, 115, 47, 109, 97, 105, 110]⟩ : ByteArray), .string t101, .string (⟨#[]⟩ : ByteArray)]) (ok := fun _ => True) (okp := fun _ => True) ?hr ?hp (fun _ hk => hk) trivial (Below.refl _ _) (Nat.le_refl _) (by simp) ?_; (case hd => rfl); (case hg => rfl); (case hr => first | (go_simp; done) | (go_simp; rfl)); (case hp => exact (Reps.c3 (show Kd.M k55 _ _ _ (⟨(⟨#[72, 69, 65, 68]⟩ : ByteArray), (⟨#[]⟩ : ByteArray), (⟨#[114, 101, 102, 115, 47, 104, 101, 97, 100, 115, 47, 109, 97, 105, 110]⟩ : ByteArray)⟩ : S55) [.string (⟨#[72, 69, 65, 68]⟩ : ByteArray), .string (⟨#[]⟩ : ByteArray), .string (⟨#[114, 101, 102, 115, 47, 104, 101, 97, 100, 115, 47, 109, 97, 105, 110]⟩ : ByteArray)] from (k55_mkM _ _ _ (⟨(⟨#[72, 69, 65, 68]⟩ : ByteArray), (⟨#[]⟩ : ByteArray), (⟨#[114, 101, 102, 115, 47, 104, 101, 97, 100, 115, 47, 109, 97, 105, 110]⟩ : ByteArray)⟩ : S55) )) (Reps.c3 (show Kd.M k55 _ _ _ (⟨(⟨#[114, 101, 102, 115, 47, 104, 101, 97, 100, 115, 47, 109, 97, 105, 110]⟩ : ByteArray), t101, (⟨#[]⟩ : ByteArray)⟩ : S55) [.string (⟨#[114, 101, 102, 115, 47, 104, 101, 97, 100, 115, 47, 109, 97, 105, 110]⟩ : ByteArray), .string t101, .string (⟨#[]⟩ : ByteArray)] from (k55_mkM _ _ _ (⟨(⟨#[114, 101, 102, 115, 47, 104, 101, 97, 100, 115, 47, 109, 97, 105, 110]⟩ : ByteArray), t101, (⟨#[]⟩ : ByteArray)⟩ : S55) )) (Reps.none _ _)))); intro v103 w52 ho53 hb hg_ hnew_; clear hg_ hnew_; (first | rw [← Ny102.out] at ho53 | (simp only [Int.reduceToNat] at ho53; rw [← Ny102.out] at ho53)); have n0_ := Aside0.mk (Kd.R_lower ho53 (below_size (hb_ HB.out))); have n1_ := Aside0.mk (below_step (hb_ HB.out) hb); clear HB; have HO104 := n0_; have HB := n1_; clear n0_ n1_; clear hb ho53; obtain ⟨Ao54, co54, eo54⟩ := Kd.R_slice HO104.out; subst eo54) | ((with_reducible refine gate_callee (f := 43) rfl ?_); refine goesL_ (some 15) rfl rfl Tryd.func43 (by kernel_rfl) rfl #[.slice Ao54 y102.length co54, .string (⟨#[72, 69, 65, 68]⟩ : ByteArray)] rfl (by (try simp only [List.map_toArray, List.map_cons, List.map_nil]); first | done | rfl | (simp only [List.length_drop, List.length_take]; rfl)) ?_; (with_reducible refine (refs_Resolve.calls k _ _ y102 (⟨#[72, 69, 65, 68]⟩ : ByteArray) t105 t106 t107 _ ?side1 ?side2 ?side3 A2.out).mono ?_); (case side1 => repeat (first | exact (Kd.R_reads' HO104.out).2.2 | (with_reducible refine Kd.C_alloc ?_ _) | (with_reducible refine Kd.C_drewN ?_ _) | (with_reducible refine Kd.C_drew ?_))); (case side2 => exact (Kd.R_reads' HO104.out).2.1); (case side3 => exact GV.below hgv (hb_ HB.out)); rintro e w55 ⟨rfl, hb⟩; refine ⟨_, rfl, ?_⟩; have n0_ := Aside0.mk (Kd.R_below (rk_ HO104.out) hb); have n1_ := Aside0.mk (below_step (hb_ HB.out) hb); clear HO104; clear HB; have HO104 := n0_; have HB := n1_; clear n0_ n1_; (try clear hb); (try clear hb2); (try clear hk); (try clear hi)) | ((with_reducible refine gate_callee (f := 38) rfl ?_); refine goesL_ (some 21) rfl rfl Tryd.func38 (by kernel_rfl) rfl #[.slice Ao54 y102.length co54] rfl (by (try simp only [List.map_toArray, List.map_cons, List.map_nil]); first | done | rfl | (simp only [List.length_drop, List.length_take]; rfl)) ?_; (with_reducible refine (refs_Text.calls k _ _ y102 t108 t109 _ ?side1 ?side2 ?side3 A3.out).mono ?_); (case side1 => repeat (first | exact (Kd.R_reads' HO104.out).2.2 | (with_reducible refine Kd.C_alloc ?_ _) | (with_reducible refine Kd.C_drewN ?_ _) | (with_reducible refine Kd.C_drew ?_))); (case side2 => exact (Kd.R_reads' HO104.out).2.1); (case side3 => exact GV.below hgv (hb_ HB.out)); rintro e w56 ⟨rfl, hb⟩; refine ⟨_, rfl, ?_⟩; have n0_ := Aside0.mk (Kd.R_below (rk_ HO104.out) hb); have n1_ := Aside0.mk (below_step (hb_ HB.out) hb); clear HO104; clear HB; have HO104 := n0_; have HB := n1_; clear n0_ n1_; (try clear hb); (try clear hb2); (try clear hk); (try clear hi)) | ((with_reducible refine gate_callee (f := 40) rfl ?_); refine goesL_ (some 26) rfl rfl Tryd.func40 (by kernel_rfl) rfl #[.string t108] rfl (by (try simp only [List.map_toArray, List.map_cons, List.map_nil]); first | done | rfl | (simp only [List.length_drop, List.length_take]; rfl)) ?_; (with_reducible refine (refs_Parse.calls k t108 t110 t111 _ ?side1 A4.out).mono ?_); (case side1 => exact GV.below hgv (hb_ HB.out)); rintro e w57 ⟨v112, rfl, ho0, hb⟩; refine ⟨_, rfl, ?_⟩; have n0_ := Aside0.mk (Kd.R_elder' (rk_ HO104.out) (Kd.R_base ho0) hb); have n1_ := Aside0.mk (Kd.R_lower (Kd.R_new' ho0 (Kd.R_lt (rk_ HO104.out))) (below_size (hb_ HB.out))); have n2_ := Aside0.mk (below_step (hb_ HB.out) hb); clear HO104; clear HB; have HO104 := n0_; have HO113 := n1_; have HB := n2_; clear n0_ n1_ n2_; (try clear hb); (try clear hb2); (try clear hk); (try clear hi); (try clear ho0)) | ((with_reducible refine gate_callee (f := 36) rfl ?_); refine goesL_ (some 30) rfl rfl Tryd.func36 (by kernel_rfl) rfl #[.slice Ao54 y102.length co54] rfl (by (try simp only [List.map_toArray, List.map_cons, List.map_nil]); first | done | rfl | (simp only [List.length_drop, List.length_take]; rfl)) ?_; (with_reducible refine (refs_Check.calls k _ _ y102 t114 _ ?side1 ?side2 ?side3 A5.out).mono ?_); (case side1 => repeat (first | exact (Kd.R_reads' HO104.out).2.2 | (with_reducible refine Kd.C_alloc ?_ _) | (with_reducible refine Kd.C_drewN ?_ _) | (with_reducible refine Kd.C_drew ?_))); (case side2 => exact (Kd.R_reads' HO104.out).2.1); (case side3 => exact GV.below hgv (hb_ HB.out)); rintro e w58 ⟨rfl, hb⟩; refine ⟨_, rfl, ?_⟩; have n0_ := Aside0.mk (Kd.R_below (rk_ HO104.out) hb); have n1_ := Aside0.mk (Kd.R_below (rk_ HO113.out) hb); have n2_ := Aside0.mk (below_step (hb_ HB.out) hb); clear HO104; clear HO113; clear HB; have HO104 := n0_; have HO113 := n1_; have HB := n2_; clear n0_ n1_ n2_; (try clear hb); (try clear hb2); (try clear hk); (try clear hi)) | (go_at_call 71; have _t := tk10_; (with_reducible refine (graftagelaw37_id.calls k 49 t115 _ A8.out).mono ?_); rintro e w59 ⟨rfl, hb⟩; have n0_ := Aside0.mk (Kd.R_below (rk_ HO104.out) hb); have n1_ := Aside0.mk (Kd.R_below (rk_ HO113.out) hb); have n2_ := Aside0.mk (below_step (hb_ HB.out) hb); clear HO104; clear HO113; clear HB; have HO104 := n0_; have HO113 := n1_; have HB := n2_; clear n0_ n1_ n2_; (try clear hb); (try clear hb2); (try clear hk); (try clear hi); clear tk10_))
       go_ret
       exact ⟨by first | rfl | (simp [errW_none, errW_some] <;> rfl) | (simp [*, errW_none, errW_some] <;> rfl) | (simp [ne_nil_bool]; done) | (simp [*, ne_nil_bool]; done), hb_ HB.out⟩
     ·rw [if_neg c11] at H
      have c11b0 : (t109 == 0) = false := beq_eq_false_iff_ne.mpr c11
      have c11b1 : (t109 != 0) = true := bne_iff_ne.mpr c11
      obtain rfl := Option.some.inj H
      go_enter Tryd.func33, Tryd.ntmps33
      have tk11_ : True := trivial
      have tk12_ : True := trivial
      go_wp2_with (first | (have _t := tk11_; (with_reducible refine gate_callee (f := 71) rfl ?_); refine goesL_ (some 10) rfl rfl Tryd.func71 (by kernel_rfl) rfl #[.int .u8 49] rfl (by (try simp only [List.map_toArray, List.map_cons, List.map_nil]); first | done | rfl | (simp only [List.length_drop, List.length_take]; rfl)) ?_; (with_reducible refine (graftagelaw37_id.calls k 49 t101 _ A1.out).mono ?_); rintro e w60 ⟨rfl, hb⟩; refine ⟨_, rfl, ?_⟩; have n0_ := Aside0.mk (below_step (hb_ HB.out) hb); clear HB; have HB := n0_; clear n0_; (try clear hb); (try clear hb2); (try clear hk); (try clear hi); clear tk11_) | ((with_reducible refine gate_dst (N := 12) rfl ?_); refine Kd.R_lit k55 _ 55 ?hg (N := 12) ?hd (xs := ([(⟨(⟨#[72, 69, 65, 68]⟩ : ByteArray), (⟨#[]⟩ : ByteArray), (⟨#[114, 101, 102, 115, 47, 104, 101, 97, 100, 115, 47, 109, 97, 105, 110]⟩ : ByteArray)⟩ : S55), (⟨(⟨#[114, 101, 102, 115, 47, 104, 101, 97, 100, 115, 47, 109, 97, 105, 110]⟩ : ByteArray), t101, (⟨#[]⟩ : ByteArray)⟩ : S55)] : List (S55))) (inner := [.string (⟨#[72, 69, 65, 68]⟩ : ByteArray), .string (⟨#[]⟩ : ByteArray), .string (⟨#[114, 101, 102, 115, 47, 104, 101, 97, 100, 115, 47, 109, 97, 105, 110]⟩ : ByteArray), .string (⟨#[114, 101, 102, 115, 47, 104, 101, 97, 100, 115, 47, 109, 97, 105, 110]⟩ : ByteArray), .string t101, .string (⟨#[]⟩ : ByteArray)]) (ok := fun _ => True) (okp := fun _ => True) ?hr ?hp (fun _ hk => hk) trivial (Below.refl _ _) (Nat.le_refl _) (by simp) ?_; (case hd => rfl); (case hg => rfl); (case hr => first | (go_simp; done) | (go_simp; rfl)); (case hp => exact (Reps.c3 (show Kd.M k55 _ _ _ (⟨(⟨#[72, 69, 65, 68]⟩ : ByteArray), (⟨#[]⟩ : ByteArray), (⟨#[114, 101, 102, 115, 47, 104, 101, 97, 100, 115, 47, 109, 97, 105, 110]⟩ : ByteArray)⟩ : S55) [.string (⟨#[72, 69, 65, 68]⟩ : ByteArray), .string (⟨#[]⟩ : ByteArray), .string (⟨#[114, 101, 102, 115, 47, 104, 101, 97, 100, 115, 47, 109, 97, 105, 110]⟩ : ByteArray)] from (k55_mkM _ _ _ (⟨(⟨#[72, 69, 65, 68]⟩ : ByteArray), (⟨#[]⟩ : ByteArray), (⟨#[114, 101, 102, 115, 47, 104, 101, 97, 100, 115, 47, 109, 97, 105, 110]⟩ : ByteArray)⟩ : S55) )) (Reps.c3 (show Kd.M k55 _ _ _ (⟨(⟨#[114, 101, 102, 115, 47, 104, 101, 97, 100, 115, 47, 109, 97, 105, 110]⟩ : ByteArray), t101, (⟨#[]⟩ : ByteArray)⟩ : S55) [.string (⟨#[114, 101, 102, 115, 47, 104, 101, 97, 100, 115, 47, 109, 97, 105, 110]⟩ : ByteArray), .string t101, .string (⟨#[]⟩ : ByteArray)] from (k55_mkM _ _ _ (⟨(⟨#[114, 101, 102, 115, 47, 104, 101, 97, 100, 115, 47, 109, 97, 105, 110]⟩ : ByteArray), t101, (⟨#[]⟩ : ByteArray)⟩ : S55) )) (Reps.none _ _)))); intro v103 w61 ho62 hb hg_ hnew_; clear hg_ hnew_; (first | rw [← Ny102.out] at ho62 | (simp only [Int.reduceToNat] at ho62; rw [← Ny102.out] at ho62)); have n0_ := Aside0.mk (Kd.R_lower ho62 (below_size (hb_ HB.out))); have n1_ := Aside0.mk (below_step (hb_ HB.out) hb); clear HB; have HO104 := n0_; have HB := n1_; clear n0_ n1_; clear hb ho62; obtain ⟨Ao63, co63, eo63⟩ := Kd.R_slice HO104.out; subst eo63) | ((with_reducible refine gate_callee (f := 43) rfl ?_); refine goesL_ (some 15) rfl rfl Tryd.func43 (by kernel_rfl) rfl #[.slice Ao63 y102.length co63, .string (⟨#[72, 69, 65, 68]⟩ : ByteArray)] rfl (by (try simp only [List.map_toArray, List.map_cons, List.map_nil]); first | done | rfl | (simp only [List.length_drop, List.length_take]; rfl)) ?_; (with_reducible refine (refs_Resolve.calls k _ _ y102 (⟨#[72, 69, 65, 68]⟩ : ByteArray) t105 t106 t107 _ ?side1 ?side2 ?side3 A2.out).mono ?_); (case side1 => repeat (first | exact (Kd.R_reads' HO104.out).2.2 | (with_reducible refine Kd.C_alloc ?_ _) | (with_reducible refine Kd.C_drewN ?_ _) | (with_reducible refine Kd.C_drew ?_))); (case side2 => exact (Kd.R_reads' HO104.out).2.1); (case side3 => exact GV.below hgv (hb_ HB.out)); rintro e w64 ⟨rfl, hb⟩; refine ⟨_, rfl, ?_⟩; have n0_ := Aside0.mk (Kd.R_below (rk_ HO104.out) hb); have n1_ := Aside0.mk (below_step (hb_ HB.out) hb); clear HO104; clear HB; have HO104 := n0_; have HB := n1_; clear n0_ n1_; (try clear hb); (try clear hb2); (try clear hk); (try clear hi)) | ((with_reducible refine gate_callee (f := 38) rfl ?_); refine goesL_ (some 21) rfl rfl Tryd.func38 (by kernel_rfl) rfl #[.slice Ao63 y102.length co63] rfl (by (try simp only [List.map_toArray, List.map_cons, List.map_nil]); first | done | rfl | (simp only [List.length_drop, List.length_take]; rfl)) ?_; (with_reducible refine (refs_Text.calls k _ _ y102 t108 t109 _ ?side1 ?side2 ?side3 A3.out).mono ?_); (case side1 => repeat (first | exact (Kd.R_reads' HO104.out).2.2 | (with_reducible refine Kd.C_alloc ?_ _) | (with_reducible refine Kd.C_drewN ?_ _) | (with_reducible refine Kd.C_drew ?_))); (case side2 => exact (Kd.R_reads' HO104.out).2.1); (case side3 => exact GV.below hgv (hb_ HB.out)); rintro e w65 ⟨rfl, hb⟩; refine ⟨_, rfl, ?_⟩; have n0_ := Aside0.mk (Kd.R_below (rk_ HO104.out) hb); have n1_ := Aside0.mk (below_step (hb_ HB.out) hb); clear HO104; clear HB; have HO104 := n0_; have HB := n1_; clear n0_ n1_; (try clear hb); (try clear hb2); (try clear hk); (try clear hi)) | ((with_reducible refine gate_callee (f := 40) rfl ?_); refine goesL_ (some 26) rfl rfl Tryd.func40 (by kernel_rfl) rfl #[.string t108] rfl (by (try simp only [List.map_toArray, List.map_cons, List.map_nil]); first | done | rfl | (simp only [List.length_drop, List.length_take]; rfl)) ?_; (with_reducible refine (refs_Parse.calls k t108 t110 t111 _ ?side1 A4.out).mono ?_); (case side1 => exact GV.below hgv (hb_ HB.out)); rintro e w66 ⟨v112, rfl, ho0, hb⟩; refine ⟨_, rfl, ?_⟩; have n0_ := Aside0.mk (Kd.R_elder' (rk_ HO104.out) (Kd.R_base ho0) hb); have n1_ := Aside0.mk (Kd.R_lower (Kd.R_new' ho0 (Kd.R_lt (rk_ HO104.out))) (below_size (hb_ HB.out))); have n2_ := Aside0.mk (below_step (hb_ HB.out) hb); clear HO104; clear HB; have HO104 := n0_; have HO113 := n1_; have HB := n2_; clear n0_ n1_ n2_; (try clear hb); (try clear hb2); (try clear hk); (try clear hi); (try clear ho0)) | ((with_reducible refine gate_callee (f := 36) rfl ?_); refine goesL_ (some 30) rfl rfl Tryd.func36 (by kernel_rfl) rfl #[.slice Ao63 y102.length co63] rfl (by (try simp only [List.map_toArray, List.map_cons, List.map_nil]); first | done | rfl | (simp only [List.length_drop, List.length_take]; rfl)) ?_; (with_reducible refine (refs_Check.calls k _ _ y102 t114 _ ?side1 ?side2 ?side3 A5.out).mono ?_); (case side1 => repeat (first | exact (Kd.R_reads' HO104.out).2.2 | (with_reducible refine Kd.C_alloc ?_ _) | (with_reducible refine Kd.C_drewN ?_ _) | (with_reducible refine Kd.C_drew ?_))); (case side2 => exact (Kd.R_reads' HO104.out).2.1); (case side3 => exact GV.below hgv (hb_ HB.out)); rintro e w67 ⟨rfl, hb⟩; refine ⟨_, rfl, ?_⟩; have n0_ := Aside0.mk (Kd.R_below (rk_ HO104.out) hb); have n1_ := Aside0.mk (Kd.R_below (rk_ HO113.out) hb); have n2_ := Aside0.mk (below_step (hb_ HB.out) hb); clear HO104; clear HO113; clear HB; have HO104 := n0_; have HO113 := n1_; have HB := n2_; clear n0_ n1_ n2_; (try clear hb); (try clear hb2); (try clear hk); (try clear hi)) | (go_at_call 71; have _t := tk12_; (with_reducible refine (graftagelaw37_id.calls k 49 t115 _ A8.out).mono ?_); rintro e w68 ⟨rfl, hb⟩; have n0_ := Aside0.mk (Kd.R_below (rk_ HO104.out) hb); have n1_ := Aside0.mk (Kd.R_below (rk_ HO113.out) hb); have n2_ := Aside0.mk (below_step (hb_ HB.out) hb); clear HO104; clear HO113; clear HB; have HO104 := n0_; have HO113 := n1_; have HB := n2_; clear n0_ n1_ n2_; (try clear hb); (try clear hb2); (try clear hk); (try clear hi); clear tk12_))
      go_ret
      exact ⟨by first | rfl | (simp [errW_none, errW_some] <;> rfl) | (simp [*, errW_none, errW_some] <;> rfl) | (simp [ne_nil_bool]; done) | (simp [*, ne_nil_bool]; done), hb_ HB.out⟩
    ·rw [if_neg c10] at H
     have c10b0 : (t107 == 0) = false := beq_eq_false_iff_ne.mpr c10
     have c10b1 : (t107 != 0) = true := bne_iff_ne.mpr c10
     obtain rfl := Option.some.inj H
     go_enter Tryd.func33, Tryd.ntmps33
     have tk13_ : True := trivial
     have tk14_ : True := trivial
     go_wp2_with (first | (have _t := tk13_; (with_reducible refine gate_callee (f := 71) rfl ?_); refine goesL_ (some 10) rfl rfl Tryd.func71 (by kernel_rfl) rfl #[.int .u8 49] rfl (by (try simp only [List.map_toArray, List.map_cons, List.map_nil]); first | done | rfl | (simp only [List.length_drop, List.length_take]; rfl)) ?_; (with_reducible refine (graftagelaw37_id.calls k 49 t101 _ A1.out).mono ?_); rintro e w69 ⟨rfl, hb⟩; refine ⟨_, rfl, ?_⟩; have n0_ := Aside0.mk (below_step (hb_ HB.out) hb); clear HB; have HB := n0_; clear n0_; (try clear hb); (try clear hb2); (try clear hk); (try clear hi); clear tk13_) | ((with_reducible refine gate_dst (N := 12) rfl ?_); refine Kd.R_lit k55 _ 55 ?hg (N := 12) ?hd (xs := ([(⟨(⟨#[72, 69, 65, 68]⟩ : ByteArray), (⟨#[]⟩ : ByteArray), (⟨#[114, 101, 102, 115, 47, 104, 101, 97, 100, 115, 47, 109, 97, 105, 110]⟩ : ByteArray)⟩ : S55), (⟨(⟨#[114, 101, 102, 115, 47, 104, 101, 97, 100, 115, 47, 109, 97, 105, 110]⟩ : ByteArray), t101, (⟨#[]⟩ : ByteArray)⟩ : S55)] : List (S55))) (inner := [.string (⟨#[72, 69, 65, 68]⟩ : ByteArray), .string (⟨#[]⟩ : ByteArray), .string (⟨#[114, 101, 102, 115, 47, 104, 101, 97, 100, 115, 47, 109, 97, 105, 110]⟩ : ByteArray), .string (⟨#[114, 101, 102, 115, 47, 104, 101, 97, 100, 115, 47, 109, 97, 105, 110]⟩ : ByteArray), .string t101, .string (⟨#[]⟩ : ByteArray)]) (ok := fun _ => True) (okp := fun _ => True) ?hr ?hp (fun _ hk => hk) trivial (Below.refl _ _) (Nat.le_refl _) (by simp) ?_; (case hd => rfl); (case hg => rfl); (case hr => first | (go_simp; done) | (go_simp; rfl)); (case hp => exact (Reps.c3 (show Kd.M k55 _ _ _ (⟨(⟨#[72, 69, 65, 68]⟩ : ByteArray), (⟨#[]⟩ : ByteArray), (⟨#[114, 101, 102, 115, 47, 104, 101, 97, 100, 115, 47, 109, 97, 105, 110]⟩ : ByteArray)⟩ : S55) [.string (⟨#[72, 69, 65, 68]⟩ : ByteArray), .string (⟨#[]⟩ : ByteArray), .string (⟨#[114, 101, 102, 115, 47, 104, 101, 97, 100, 115, 47, 109, 97, 105, 110]⟩ : ByteArray)] from (k55_mkM _ _ _ (⟨(⟨#[72, 69, 65, 68]⟩ : ByteArray), (⟨#[]⟩ : ByteArray), (⟨#[114, 101, 102, 115, 47, 104, 101, 97, 100, 115, 47, 109, 97, 105, 110]⟩ : ByteArray)⟩ : S55) )) (Reps.c3 (show Kd.M k55 _ _ _ (⟨(⟨#[114, 101, 102, 115, 47, 104, 101, 97, 100, 115, 47, 109, 97, 105, 110]⟩ : ByteArray), t101, (⟨#[]⟩ : ByteArray)⟩ : S55) [.string (⟨#[114, 101, 102, 115, 47, 104, 101, 97, 100, 115, 47, 109, 97, 105, 110]⟩ : ByteArray), .string t101, .string (⟨#[]⟩ : ByteArray)] from (k55_mkM _ _ _ (⟨(⟨#[114, 101, 102, 115, 47, 104, 101, 97, 100, 115, 47, 109, 97, 105, 110]⟩ : ByteArray), t101, (⟨#[]⟩ : ByteArray)⟩ : S55) )) (Reps.none _ _)))); intro v103 w70 ho71 hb hg_ hnew_; clear hg_ hnew_; (first | rw [← Ny102.out] at ho71 | (simp only [Int.reduceToNat] at ho71; rw [← Ny102.out] at ho71)); have n0_ := Aside0.mk (Kd.R_lower ho71 (below_size (hb_ HB.out))); have n1_ := Aside0.mk (below_step (hb_ HB.out) hb); clear HB; have HO104 := n0_; have HB := n1_; clear n0_ n1_; clear hb ho71; obtain ⟨Ao72, co72, eo72⟩ := Kd.R_slice HO104.out; subst eo72) | ((with_reducible refine gate_callee (f := 43) rfl ?_); refine goesL_ (some 15) rfl rfl Tryd.func43 (by kernel_rfl) rfl #[.slice Ao72 y102.length co72, .string (⟨#[72, 69, 65, 68]⟩ : ByteArray)] rfl (by (try simp only [List.map_toArray, List.map_cons, List.map_nil]); first | done | rfl | (simp only [List.length_drop, List.length_take]; rfl)) ?_; (with_reducible refine (refs_Resolve.calls k _ _ y102 (⟨#[72, 69, 65, 68]⟩ : ByteArray) t105 t106 t107 _ ?side1 ?side2 ?side3 A2.out).mono ?_); (case side1 => repeat (first | exact (Kd.R_reads' HO104.out).2.2 | (with_reducible refine Kd.C_alloc ?_ _) | (with_reducible refine Kd.C_drewN ?_ _) | (with_reducible refine Kd.C_drew ?_))); (case side2 => exact (Kd.R_reads' HO104.out).2.1); (case side3 => exact GV.below hgv (hb_ HB.out)); rintro e w73 ⟨rfl, hb⟩; refine ⟨_, rfl, ?_⟩; have n0_ := Aside0.mk (Kd.R_below (rk_ HO104.out) hb); have n1_ := Aside0.mk (below_step (hb_ HB.out) hb); clear HO104; clear HB; have HO104 := n0_; have HB := n1_; clear n0_ n1_; (try clear hb); (try clear hb2); (try clear hk); (try clear hi)) | ((with_reducible refine gate_callee (f := 38) rfl ?_); refine goesL_ (some 21) rfl rfl Tryd.func38 (by kernel_rfl) rfl #[.slice Ao72 y102.length co72] rfl (by (try simp only [List.map_toArray, List.map_cons, List.map_nil]); first | done | rfl | (simp only [List.length_drop, List.length_take]; rfl)) ?_; (with_reducible refine (refs_Text.calls k _ _ y102 t108 t109 _ ?side1 ?side2 ?side3 A3.out).mono ?_); (case side1 => repeat (first | exact (Kd.R_reads' HO104.out).2.2 | (with_reducible refine Kd.C_alloc ?_ _) | (with_reducible refine Kd.C_drewN ?_ _) | (with_reducible refine Kd.C_drew ?_))); (case side2 => exact (Kd.R_reads' HO104.out).2.1); (case side3 => exact GV.below hgv (hb_ HB.out)); rintro e w74 ⟨rfl, hb⟩; refine ⟨_, rfl, ?_⟩; have n0_ := Aside0.mk (Kd.R_below (rk_ HO104.out) hb); have n1_ := Aside0.mk (below_step (hb_ HB.out) hb); clear HO104; clear HB; have HO104 := n0_; have HB := n1_; clear n0_ n1_; (try clear hb); (try clear hb2); (try clear hk); (try clear hi)) | ((with_reducible refine gate_callee (f := 40) rfl ?_); refine goesL_ (some 26) rfl rfl Tryd.func40 (by kernel_rfl) rfl #[.string t108] rfl (by (try simp only [List.map_toArray, List.map_cons, List.map_nil]); first | done | rfl | (simp only [List.length_drop, List.length_take]; rfl)) ?_; (with_reducible refine (refs_Parse.calls k t108 t110 t111 _ ?side1 A4.out).mono ?_); (case side1 => exact GV.below hgv (hb_ HB.out)); rintro e w75 ⟨v112, rfl, ho0, hb⟩; refine ⟨_, rfl, ?_⟩; have n0_ := Aside0.mk (Kd.R_elder' (rk_ HO104.out) (Kd.R_base ho0) hb); have n1_ := Aside0.mk (Kd.R_lower (Kd.R_new' ho0 (Kd.R_lt (rk_ HO104.out))) (below_size (hb_ HB.out))); have n2_ := Aside0.mk (below_step (hb_ HB.out) hb); clear HO104; clear HB; have HO104 := n0_; have HO113 := n1_; have HB := n2_; clear n0_ n1_ n2_; (try clear hb); (try clear hb2); (try clear hk); (try clear hi); (try clear ho0)) | ((with_reducible refine gate_callee (f := 36) rfl ?_); refine goesL_ (some 30) rfl rfl Tryd.func36 (by kernel_rfl) rfl #[.slice Ao72 y102.length co72] rfl (by (try simp only [List.map_toArray, List.map_cons, List.map_nil]); first | done | rfl | (simp only [List.length_drop, List.length_take]; rfl)) ?_; (with_reducible refine (refs_Check.calls k _ _ y102 t114 _ ?side1 ?side2 ?side3 A5.out).mono ?_); (case side1 => repeat (first | exact (Kd.R_reads' HO104.out).2.2 | (with_reducible refine Kd.C_alloc ?_ _) | (with_reducible refine Kd.C_drewN ?_ _) | (with_reducible refine Kd.C_drew ?_))); (case side2 => exact (Kd.R_reads' HO104.out).2.1); (case side3 => exact GV.below hgv (hb_ HB.out)); rintro e w76 ⟨rfl, hb⟩; refine ⟨_, rfl, ?_⟩; have n0_ := Aside0.mk (Kd.R_below (rk_ HO104.out) hb); have n1_ := Aside0.mk (Kd.R_below (rk_ HO113.out) hb); have n2_ := Aside0.mk (below_step (hb_ HB.out) hb); clear HO104; clear HO113; clear HB; have HO104 := n0_; have HO113 := n1_; have HB := n2_; clear n0_ n1_ n2_; (try clear hb); (try clear hb2); (try clear hk); (try clear hi)) | (go_at_call 71; have _t := tk14_; (with_reducible refine (graftagelaw37_id.calls k 49 t115 _ A8.out).mono ?_); rintro e w77 ⟨rfl, hb⟩; have n0_ := Aside0.mk (Kd.R_below (rk_ HO104.out) hb); have n1_ := Aside0.mk (Kd.R_below (rk_ HO113.out) hb); have n2_ := Aside0.mk (below_step (hb_ HB.out) hb); clear HO104; clear HO113; clear HB; have HO104 := n0_; have HO113 := n1_; have HB := n2_; clear n0_ n1_ n2_; (try clear hb); (try clear hb2); (try clear hk); (try clear hi); clear tk14_))
     go_ret
     exact ⟨by first | rfl | (simp [errW_none, errW_some] <;> rfl) | (simp [*, errW_none, errW_some] <;> rfl) | (simp [ne_nil_bool]; done) | (simp [*, ne_nil_bool]; done), hb_ HB.out⟩
   ·rw [if_neg c9] at H
    have c9b0 : (t106.toList == t115.toList) = false := beq_eq_false_iff_ne.mpr c9
    have c9b1 : (t106.toList != t115.toList) = true := bne_iff_ne.mpr c9
    obtain rfl := Option.some.inj H
    go_enter Tryd.func33, Tryd.ntmps33
    have tk15_ : True := trivial
    have tk16_ : True := trivial
    go_wp2_with (first | (have _t := tk15_; (with_reducible refine gate_callee (f := 71) rfl ?_); refine goesL_ (some 10) rfl rfl Tryd.func71 (by kernel_rfl) rfl #[.int .u8 49] rfl (by (try simp only [List.map_toArray, List.map_cons, List.map_nil]); first | done | rfl | (simp only [List.length_drop, List.length_take]; rfl)) ?_; (with_reducible refine (graftagelaw37_id.calls k 49 t101 _ A1.out).mono ?_); rintro e w78 ⟨rfl, hb⟩; refine ⟨_, rfl, ?_⟩; have n0_ := Aside0.mk (below_step (hb_ HB.out) hb); clear HB; have HB := n0_; clear n0_; (try clear hb); (try clear hb2); (try clear hk); (try clear hi); clear tk15_) | ((with_reducible refine gate_dst (N := 12) rfl ?_); refine Kd.R_lit k55 _ 55 ?hg (N := 12) ?hd (xs := ([(⟨(⟨#[72, 69, 65, 68]⟩ : ByteArray), (⟨#[]⟩ : ByteArray), (⟨#[114, 101, 102, 115, 47, 104, 101, 97, 100, 115, 47, 109, 97, 105, 110]⟩ : ByteArray)⟩ : S55), (⟨(⟨#[114, 101, 102, 115, 47, 104, 101, 97, 100, 115, 47, 109, 97, 105, 110]⟩ : ByteArray), t101, (⟨#[]⟩ : ByteArray)⟩ : S55)] : List (S55))) (inner := [.string (⟨#[72, 69, 65, 68]⟩ : ByteArray), .string (⟨#[]⟩ : ByteArray), .string (⟨#[114, 101, 102, 115, 47, 104, 101, 97, 100, 115, 47, 109, 97, 105, 110]⟩ : ByteArray), .string (⟨#[114, 101, 102, 115, 47, 104, 101, 97, 100, 115, 47, 109, 97, 105, 110]⟩ : ByteArray), .string t101, .string (⟨#[]⟩ : ByteArray)]) (ok := fun _ => True) (okp := fun _ => True) ?hr ?hp (fun _ hk => hk) trivial (Below.refl _ _) (Nat.le_refl _) (by simp) ?_; (case hd => rfl); (case hg => rfl); (case hr => first | (go_simp; done) | (go_simp; rfl)); (case hp => exact (Reps.c3 (show Kd.M k55 _ _ _ (⟨(⟨#[72, 69, 65, 68]⟩ : ByteArray), (⟨#[]⟩ : ByteArray), (⟨#[114, 101, 102, 115, 47, 104, 101, 97, 100, 115, 47, 109, 97, 105, 110]⟩ : ByteArray)⟩ : S55) [.string (⟨#[72, 69, 65, 68]⟩ : ByteArray), .string (⟨#[]⟩ : ByteArray), .string (⟨#[114, 101, 102, 115, 47, 104, 101, 97, 100, 115, 47, 109, 97, 105, 110]⟩ : ByteArray)] from (k55_mkM _ _ _ (⟨(⟨#[72, 69, 65, 68]⟩ : ByteArray), (⟨#[]⟩ : ByteArray), (⟨#[114, 101, 102, 115, 47, 104, 101, 97, 100, 115, 47, 109, 97, 105, 110]⟩ : ByteArray)⟩ : S55) )) (Reps.c3 (show Kd.M k55 _ _ _ (⟨(⟨#[114, 101, 102, 115, 47, 104, 101, 97, 100, 115, 47, 109, 97, 105, 110]⟩ : ByteArray), t101, (⟨#[]⟩ : ByteArray)⟩ : S55) [.string (⟨#[114, 101, 102, 115, 47, 104, 101, 97, 100, 115, 47, 109, 97, 105, 110]⟩ : ByteArray), .string t101, .string (⟨#[]⟩ : ByteArray)] from (k55_mkM _ _ _ (⟨(⟨#[114, 101, 102, 115, 47, 104, 101, 97, 100, 115, 47, 109, 97, 105, 110]⟩ : ByteArray), t101, (⟨#[]⟩ : ByteArray)⟩ : S55) )) (Reps.none _ _)))); intro v103 w79 ho80 hb hg_ hnew_; clear hg_ hnew_; (first | rw [← Ny102.out] at ho80 | (simp only [Int.reduceToNat] at ho80; rw [← Ny102.out] at ho80)); have n0_ := Aside0.mk (Kd.R_lower ho80 (below_size (hb_ HB.out))); have n1_ := Aside0.mk (below_step (hb_ HB.out) hb); clear HB; have HO104 := n0_; have HB := n1_; clear n0_ n1_; clear hb ho80; obtain ⟨Ao81, co81, eo81⟩ := Kd.R_slice HO104.out; subst eo81) | ((with_reducible refine gate_callee (f := 43) rfl ?_); refine goesL_ (some 15) rfl rfl Tryd.func43 (by kernel_rfl) rfl #[.slice Ao81 y102.length co81, .string (⟨#[72, 69, 65, 68]⟩ : ByteArray)] rfl (by (try simp only [List.map_toArray, List.map_cons, List.map_nil]); first | done | rfl | (simp only [List.length_drop, List.length_take]; rfl)) ?_; (with_reducible refine (refs_Resolve.calls k _ _ y102 (⟨#[72, 69, 65, 68]⟩ : ByteArray) t105 t106 t107 _ ?side1 ?side2 ?side3 A2.out).mono ?_); (case side1 => repeat (first | exact (Kd.R_reads' HO104.out).2.2 | (with_reducible refine Kd.C_alloc ?_ _) | (with_reducible refine Kd.C_drewN ?_ _) | (with_reducible refine Kd.C_drew ?_))); (case side2 => exact (Kd.R_reads' HO104.out).2.1); (case side3 => exact GV.below hgv (hb_ HB.out)); rintro e w82 ⟨rfl, hb⟩; refine ⟨_, rfl, ?_⟩; have n0_ := Aside0.mk (Kd.R_below (rk_ HO104.out) hb); have n1_ := Aside0.mk (below_step (hb_ HB.out) hb); clear HO104; clear HB; have HO104 := n0_; have HB := n1_; clear n0_ n1_; (try clear hb); (try clear hb2); (try clear hk); (try clear hi)) | ((with_reducible refine gate_callee (f := 38) rfl ?_); refine goesL_ (some 21) rfl rfl Tryd.func38 (by kernel_rfl) rfl #[.slice Ao81 y102.length co81] rfl (by (try simp only [List.map_toArray, List.map_cons, List.map_nil]); first | done | rfl | (simp only [List.length_drop, List.length_take]; rfl)) ?_; (with_reducible refine (refs_Text.calls k _ _ y102 t108 t109 _ ?side1 ?side2 ?side3 A3.out).mono ?_); (case side1 => repeat (first | exact (Kd.R_reads' HO104.out).2.2 | (with_reducible refine Kd.C_alloc ?_ _) | (with_reducible refine Kd.C_drewN ?_ _) | (with_reducible refine Kd.C_drew ?_))); (case side2 => exact (Kd.R_reads' HO104.out).2.1); (case side3 => exact GV.below hgv (hb_ HB.out)); rintro e w83 ⟨rfl, hb⟩; refine ⟨_, rfl, ?_⟩; have n0_ := Aside0.mk (Kd.R_below (rk_ HO104.out) hb); have n1_ := Aside0.mk (below_step (hb_ HB.out) hb); clear HO104; clear HB; have HO104 := n0_; have HB := n1_; clear n0_ n1_; (try clear hb); (try clear hb2); (try clear hk); (try clear hi)) | ((with_reducible refine gate_callee (f := 40) rfl ?_); refine goesL_ (some 26) rfl rfl Tryd.func40 (by kernel_rfl) rfl #[.string t108] rfl (by (try simp only [List.map_toArray, List.map_cons, List.map_nil]); first | done | rfl | (simp only [List.length_drop, List.length_take]; rfl)) ?_; (with_reducible refine (refs_Parse.calls k t108 t110 t111 _ ?side1 A4.out).mono ?_); (case side1 => exact GV.below hgv (hb_ HB.out)); rintro e w84 ⟨v112, rfl, ho0, hb⟩; refine ⟨_, rfl, ?_⟩; have n0_ := Aside0.mk (Kd.R_elder' (rk_ HO104.out) (Kd.R_base ho0) hb); have n1_ := Aside0.mk (Kd.R_lower (Kd.R_new' ho0 (Kd.R_lt (rk_ HO104.out))) (below_size (hb_ HB.out))); have n2_ := Aside0.mk (below_step (hb_ HB.out) hb); clear HO104; clear HB; have HO104 := n0_; have HO113 := n1_; have HB := n2_; clear n0_ n1_ n2_; (try clear hb); (try clear hb2); (try clear hk); (try clear hi); (try clear ho0)) | ((with_reducible refine gate_callee (f := 36) rfl ?_); refine goesL_ (some 30) rfl rfl Tryd.func36 (by kernel_rfl) rfl #[.slice Ao81 y102.length co81] rfl (by (try simp only [List.map_toArray, List.map_cons, List.map_nil]); first | done | rfl | (simp only [List.length_drop, List.length_take]; rfl)) ?_; (with_reducible refine (refs_Check.calls k _ _ y102 t114 _ ?side1 ?side2 ?side3 A5.out).mono ?_); (case side1 => repeat (first | exact (Kd.R_reads' HO104.out).2.2 | (with_reducible refine Kd.C_alloc ?_ _) | (with_reducible refine Kd.C_drewN ?_ _) | (with_reducible refine Kd.C_drew ?_))); (case side2 => exact (Kd.R_reads' HO104.out).2.1); (case side3 => exact GV.below hgv (hb_ HB.out)); rintro e w85 ⟨rfl, hb⟩; refine ⟨_, rfl, ?_⟩; have n0_ := Aside0.mk (Kd.R_below (rk_ HO104.out) hb); have n1_ := Aside0.mk (Kd.R_below (rk_ HO113.out) hb); have n2_ := Aside0.mk (below_step (hb_ HB.out) hb); clear HO104; clear HO113; clear HB; have HO104 := n0_; have HO113 := n1_; have HB := n2_; clear n0_ n1_ n2_; (try clear hb); (try clear hb2); (try clear hk); (try clear hi)) | (go_at_call 71; have _t := tk16_; (with_reducible refine (graftagelaw37_id.calls k 49 t115 _ A8.out).mono ?_); rintro e w86 ⟨rfl, hb⟩; have n0_ := Aside0.mk (Kd.R_below (rk_ HO104.out) hb); have n1_ := Aside0.mk (Kd.R_below (rk_ HO113.out) hb); have n2_ := Aside0.mk (below_step (hb_ HB.out) hb); clear HO104; clear HO113; clear HB; have HO104 := n0_; have HO113 := n1_; have HB := n2_; clear n0_ n1_ n2_; (try clear hb); (try clear hb2); (try clear hk); (try clear hi); clear tk16_))
    go_ret
    exact ⟨by first | rfl | (simp [errW_none, errW_some] <;> rfl) | (simp [*, errW_none, errW_some] <;> rfl) | (simp [ne_nil_bool]; done) | (simp [*, ne_nil_bool]; done), hb_ HB.out⟩
  ·rw [if_neg c7] at H
   have c7b0 : (t105.toList == ([114, 101, 102, 115, 47, 104, 101, 97, 100, 115, 47, 109, 97, 105, 110] : List UInt8)) = false := beq_eq_false_iff_ne.mpr c7
   have c7b1 : (t105.toList != ([114, 101, 102, 115, 47, 104, 101, 97, 100, 115, 47, 109, 97, 105, 110] : List UInt8)) = true := bne_iff_ne.mpr c7
   obtain rfl := Option.some.inj H
   go_enter Tryd.func33, Tryd.ntmps33
   go_wp2_with (first | ((with_reducible refine gate_callee (f := 71) rfl ?_); refine goesL_ (some 10) rfl rfl Tryd.func71 (by kernel_rfl) rfl #[.int .u8 49] rfl (by (try simp only [List.map_toArray, List.map_cons, List.map_nil]); first | done | rfl | (simp only [List.length_drop, List.length_take]; rfl)) ?_; (with_reducible refine (graftagelaw37_id.calls k 49 t101 _ A1.out).mono ?_); rintro e w87 ⟨rfl, hb⟩; refine ⟨_, rfl, ?_⟩; have n0_ := Aside0.mk (below_step (hb_ HB.out) hb); clear HB; have HB := n0_; clear n0_; (try clear hb); (try clear hb2); (try clear hk); (try clear hi)) | ((with_reducible refine gate_dst (N := 12) rfl ?_); refine Kd.R_lit k55 _ 55 ?hg (N := 12) ?hd (xs := ([(⟨(⟨#[72, 69, 65, 68]⟩ : ByteArray), (⟨#[]⟩ : ByteArray), (⟨#[114, 101, 102, 115, 47, 104, 101, 97, 100, 115, 47, 109, 97, 105, 110]⟩ : ByteArray)⟩ : S55), (⟨(⟨#[114, 101, 102, 115, 47, 104, 101, 97, 100, 115, 47, 109, 97, 105, 110]⟩ : ByteArray), t101, (⟨#[]⟩ : ByteArray)⟩ : S55)] : List (S55))) (inner := [.string (⟨#[72, 69, 65, 68]⟩ : ByteArray), .string (⟨#[]⟩ : ByteArray), .string (⟨#[114, 101, 102, 115, 47, 104, 101, 97, 100, 115, 47, 109, 97, 105, 110]⟩ : ByteArray), .string (⟨#[114, 101, 102, 115, 47, 104, 101, 97, 100, 115, 47, 109, 97, 105, 110]⟩ : ByteArray), .string t101, .string (⟨#[]⟩ : ByteArray)]) (ok := fun _ => True) (okp := fun _ => True) ?hr ?hp (fun _ hk => hk) trivial (Below.refl _ _) (Nat.le_refl _) (by simp) ?_; (case hd => rfl); (case hg => rfl); (case hr => first | (go_simp; done) | (go_simp; rfl)); (case hp => exact (Reps.c3 (show Kd.M k55 _ _ _ (⟨(⟨#[72, 69, 65, 68]⟩ : ByteArray), (⟨#[]⟩ : ByteArray), (⟨#[114, 101, 102, 115, 47, 104, 101, 97, 100, 115, 47, 109, 97, 105, 110]⟩ : ByteArray)⟩ : S55) [.string (⟨#[72, 69, 65, 68]⟩ : ByteArray), .string (⟨#[]⟩ : ByteArray), .string (⟨#[114, 101, 102, 115, 47, 104, 101, 97, 100, 115, 47, 109, 97, 105, 110]⟩ : ByteArray)] from (k55_mkM _ _ _ (⟨(⟨#[72, 69, 65, 68]⟩ : ByteArray), (⟨#[]⟩ : ByteArray), (⟨#[114, 101, 102, 115, 47, 104, 101, 97, 100, 115, 47, 109, 97, 105, 110]⟩ : ByteArray)⟩ : S55) )) (Reps.c3 (show Kd.M k55 _ _ _ (⟨(⟨#[114, 101, 102, 115, 47, 104, 101, 97, 100, 115, 47, 109, 97, 105, 110]⟩ : ByteArray), t101, (⟨#[]⟩ : ByteArray)⟩ : S55) [.string (⟨#[114, 101, 102, 115, 47, 104, 101, 97, 100, 115, 47, 109, 97, 105, 110]⟩ : ByteArray), .string t101, .string (⟨#[]⟩ : ByteArray)] from (k55_mkM _ _ _ (⟨(⟨#[114, 101, 102, 115, 47, 104, 101, 97, 100, 115, 47, 109, 97, 105, 110]⟩ : ByteArray), t101, (⟨#[]⟩ : ByteArray)⟩ : S55) )) (Reps.none _ _)))); intro v103 w88 ho89 hb hg_ hnew_; clear hg_ hnew_; (first | rw [← Ny102.out] at ho89 | (simp only [Int.reduceToNat] at ho89; rw [← Ny102.out] at ho89)); have n0_ := Aside0.mk (Kd.R_lower ho89 (below_size (hb_ HB.out))); have n1_ := Aside0.mk (below_step (hb_ HB.out) hb); clear HB; have HO104 := n0_; have HB := n1_; clear n0_ n1_; clear hb ho89; obtain ⟨Ao90, co90, eo90⟩ := Kd.R_slice HO104.out; subst eo90) | ((with_reducible refine gate_callee (f := 43) rfl ?_); refine goesL_ (some 15) rfl rfl Tryd.func43 (by kernel_rfl) rfl #[.slice Ao90 y102.length co90, .string (⟨#[72, 69, 65, 68]⟩ : ByteArray)] rfl (by (try simp only [List.map_toArray, List.map_cons, List.map_nil]); first | done | rfl | (simp only [List.length_drop, List.length_take]; rfl)) ?_; (with_reducible refine (refs_Resolve.calls k _ _ y102 (⟨#[72, 69, 65, 68]⟩ : ByteArray) t105 t106 t107 _ ?side1 ?side2 ?side3 A2.out).mono ?_); (case side1 => repeat (first | exact (Kd.R_reads' HO104.out).2.2 | (with_reducible refine Kd.C_alloc ?_ _) | (with_reducible refine Kd.C_drewN ?_ _) | (with_reducible refine Kd.C_drew ?_))); (case side2 => exact (Kd.R_reads' HO104.out).2.1); (case side3 => exact GV.below hgv (hb_ HB.out)); rintro e w91 ⟨rfl, hb⟩; refine ⟨_, rfl, ?_⟩; have n0_ := Aside0.mk (Kd.R_below (rk_ HO104.out) hb); have n1_ := Aside0.mk (below_step (hb_ HB.out) hb); clear HO104; clear HB; have HO104 := n0_; have HB := n1_; clear n0_ n1_; (try clear hb); (try clear hb2); (try clear hk); (try clear hi)) | ((with_reducible refine gate_callee (f := 38) rfl ?_); refine goesL_ (some 21) rfl rfl Tryd.func38 (by kernel_rfl) rfl #[.slice Ao90 y102.length co90] rfl (by (try simp only [List.map_toArray, List.map_cons, List.map_nil]); first | done | rfl | (simp only [List.length_drop, List.length_take]; rfl)) ?_; (with_reducible refine (refs_Text.calls k _ _ y102 t108 t109 _ ?side1 ?side2 ?side3 A3.out).mono ?_); (case side1 => repeat (first | exact (Kd.R_reads' HO104.out).2.2 | (with_reducible refine Kd.C_alloc ?_ _) | (with_reducible refine Kd.C_drewN ?_ _) | (with_reducible refine Kd.C_drew ?_))); (case side2 => exact (Kd.R_reads' HO104.out).2.1); (case side3 => exact GV.below hgv (hb_ HB.out)); rintro e w92 ⟨rfl, hb⟩; refine ⟨_, rfl, ?_⟩; have n0_ := Aside0.mk (Kd.R_below (rk_ HO104.out) hb); have n1_ := Aside0.mk (below_step (hb_ HB.out) hb); clear HO104; clear HB; have HO104 := n0_; have HB := n1_; clear n0_ n1_; (try clear hb); (try clear hb2); (try clear hk); (try clear hi)) | ((with_reducible refine gate_callee (f := 40) rfl ?_); refine goesL_ (some 26) rfl rfl Tryd.func40 (by kernel_rfl) rfl #[.string t108] rfl (by (try simp only [List.map_toArray, List.map_cons, List.map_nil]); first | done | rfl | (simp only [List.length_drop, List.length_take]; rfl)) ?_; (with_reducible refine (refs_Parse.calls k t108 t110 t111 _ ?side1 A4.out).mono ?_); (case side1 => exact GV.below hgv (hb_ HB.out)); rintro e w93 ⟨v112, rfl, ho0, hb⟩; refine ⟨_, rfl, ?_⟩; have n0_ := Aside0.mk (Kd.R_elder' (rk_ HO104.out) (Kd.R_base ho0) hb); have n1_ := Aside0.mk (Kd.R_lower (Kd.R_new' ho0 (Kd.R_lt (rk_ HO104.out))) (below_size (hb_ HB.out))); have n2_ := Aside0.mk (below_step (hb_ HB.out) hb); clear HO104; clear HB; have HO104 := n0_; have HO113 := n1_; have HB := n2_; clear n0_ n1_ n2_; (try clear hb); (try clear hb2); (try clear hk); (try clear hi); (try clear ho0)) | ((with_reducible refine gate_callee (f := 36) rfl ?_); refine goesL_ (some 30) rfl rfl Tryd.func36 (by kernel_rfl) rfl #[.slice Ao90 y102.length co90] rfl (by (try simp only [List.map_toArray, List.map_cons, List.map_nil]); first | done | rfl | (simp only [List.length_drop, List.length_take]; rfl)) ?_; (with_reducible refine (refs_Check.calls k _ _ y102 t114 _ ?side1 ?side2 ?side3 A5.out).mono ?_); (case side1 => repeat (first | exact (Kd.R_reads' HO104.out).2.2 | (with_reducible refine Kd.C_alloc ?_ _) | (with_reducible refine Kd.C_drewN ?_ _) | (with_reducible refine Kd.C_drew ?_))); (case side2 => exact (Kd.R_reads' HO104.out).2.1); (case side3 => exact GV.below hgv (hb_ HB.out)); rintro e w94 ⟨rfl, hb⟩; refine ⟨_, rfl, ?_⟩; have n0_ := Aside0.mk (Kd.R_below (rk_ HO104.out) hb); have n1_ := Aside0.mk (Kd.R_below (rk_ HO113.out) hb); have n2_ := Aside0.mk (below_step (hb_ HB.out) hb); clear HO104; clear HO113; clear HB; have HO104 := n0_; have HO113 := n1_; have HB := n2_; clear n0_ n1_ n2_; (try clear hb); (try clear hb2); (try clear hk); (try clear hi)))
   go_ret
   exact ⟨by first | rfl | (simp [errW_none, errW_some] <;> rfl) | (simp [*, errW_none, errW_some] <;> rfl) | (simp [ne_nil_bool]; done) | (simp [*, ne_nil_bool]; done), hb_ HB.out⟩
 ·rw [if_neg c6] at H
  have c6b0 : (t114 == 0) = false := beq_eq_false_iff_ne.mpr c6
  have c6b1 : (t114 != 0) = true := bne_iff_ne.mpr c6
  obtain rfl := Option.some.inj H
  go_enter Tryd.func33, Tryd.ntmps33
  go_wp2_with (first | ((with_reducible refine gate_callee (f := 71) rfl ?_); refine goesL_ (some 10) rfl rfl Tryd.func71 (by kernel_rfl) rfl #[.int .u8 49] rfl (by (try simp only [List.map_toArray, List.map_cons, List.map_nil]); first | done | rfl | (simp only [List.length_drop, List.length_take]; rfl)) ?_; (with_reducible refine (graftagelaw37_id.calls k 49 t101 _ A1.out).mono ?_); rintro e w95 ⟨rfl, hb⟩; refine ⟨_, rfl, ?_⟩; have n0_ := Aside0.mk (below_step (hb_ HB.out) hb); clear HB; have HB := n0_; clear n0_; (try clear hb); (try clear hb2); (try clear hk); (try clear hi)) | ((with_reducible refine gate_dst (N := 12) rfl ?_); refine Kd.R_lit k55 _ 55 ?hg (N := 12) ?hd (xs := ([(⟨(⟨#[72, 69, 65, 68]⟩ : ByteArray), (⟨#[]⟩ : ByteArray), (⟨#[114, 101, 102, 115, 47, 104, 101, 97, 100, 115, 47, 109, 97, 105, 110]⟩ : ByteArray)⟩ : S55), (⟨(⟨#[114, 101, 102, 115, 47, 104, 101, 97, 100, 115, 47, 109, 97, 105, 110]⟩ : ByteArray), t101, (⟨#[]⟩ : ByteArray)⟩ : S55)] : List (S55))) (inner := [.string (⟨#[72, 69, 65, 68]⟩ : ByteArray), .string (⟨#[]⟩ : ByteArray), .string (⟨#[114, 101, 102, 115, 47, 104, 101, 97, 100, 115, 47, 109, 97, 105, 110]⟩ : ByteArray), .string (⟨#[114, 101, 102, 115, 47, 104, 101, 97, 100, 115, 47, 109, 97, 105, 110]⟩ : ByteArray), .string t101, .string (⟨#[]⟩ : ByteArray)]) (ok := fun _ => True) (okp := fun _ => True) ?hr ?hp (fun _ hk => hk) trivial (Below.refl _ _) (Nat.le_refl _) (by simp) ?_; (case hd => rfl); (case hg => rfl); (case hr => first | (go_simp; done) | (go_simp; rfl)); (case hp => exact (Reps.c3 (show Kd.M k55 _ _ _ (⟨(⟨#[72, 69, 65, 68]⟩ : ByteArray), (⟨#[]⟩ : ByteArray), (⟨#[114, 101, 102, 115, 47, 104, 101, 97, 100, 115, 47, 109, 97, 105, 110]⟩ : ByteArray)⟩ : S55) [.string (⟨#[72, 69, 65, 68]⟩ : ByteArray), .string (⟨#[]⟩ : ByteArray), .string (⟨#[114, 101, 102, 115, 47, 104, 101, 97, 100, 115, 47, 109, 97, 105, 110]⟩ : ByteArray)] from (k55_mkM _ _ _ (⟨(⟨#[72, 69, 65, 68]⟩ : ByteArray), (⟨#[]⟩ : ByteArray), (⟨#[114, 101, 102, 115, 47, 104, 101, 97, 100, 115, 47, 109, 97, 105, 110]⟩ : ByteArray)⟩ : S55) )) (Reps.c3 (show Kd.M k55 _ _ _ (⟨(⟨#[114, 101, 102, 115, 47, 104, 101, 97, 100, 115, 47, 109, 97, 105, 110]⟩ : ByteArray), t101, (⟨#[]⟩ : ByteArray)⟩ : S55) [.string (⟨#[114, 101, 102, 115, 47, 104, 101, 97, 100, 115, 47, 109, 97, 105, 110]⟩ : ByteArray), .string t101, .string (⟨#[]⟩ : ByteArray)] from (k55_mkM _ _ _ (⟨(⟨#[114, 101, 102, 115, 47, 104, 101, 97, 100, 115, 47, 109, 97, 105, 110]⟩ : ByteArray), t101, (⟨#[]⟩ : ByteArray)⟩ : S55) )) (Reps.none _ _)))); intro v103 w96 ho97 hb hg_ hnew_; clear hg_ hnew_; (first | rw [← Ny102.out] at ho97 | (simp only [Int.reduceToNat] at ho97; rw [← Ny102.out] at ho97)); have n0_ := Aside0.mk (Kd.R_lower ho97 (below_size (hb_ HB.out))); have n1_ := Aside0.mk (below_step (hb_ HB.out) hb); clear HB; have HO104 := n0_; have HB := n1_; clear n0_ n1_; clear hb ho97; obtain ⟨Ao98, co98, eo98⟩ := Kd.R_slice HO104.out; subst eo98) | ((with_reducible refine gate_callee (f := 43) rfl ?_); refine goesL_ (some 15) rfl rfl Tryd.func43 (by kernel_rfl) rfl #[.slice Ao98 y102.length co98, .string (⟨#[72, 69, 65, 68]⟩ : ByteArray)] rfl (by (try simp only [List.map_toArray, List.map_cons, List.map_nil]); first | done | rfl | (simp only [List.length_drop, List.length_take]; rfl)) ?_; (with_reducible refine (refs_Resolve.calls k _ _ y102 (⟨#[72, 69, 65, 68]⟩ : ByteArray) t105 t106 t107 _ ?side1 ?side2 ?side3 A2.out).mono ?_); (case side1 => repeat (first | exact (Kd.R_reads' HO104.out).2.2 | (with_reducible refine Kd.C_alloc ?_ _) | (with_reducible refine Kd.C_drewN ?_ _) | (with_reducible refine Kd.C_drew ?_))); (case side2 => exact (Kd.R_reads' HO104.out).2.1); (case side3 => exact GV.below hgv (hb_ HB.out)); rintro e w99 ⟨rfl, hb⟩; refine ⟨_, rfl, ?_⟩; have n0_ := Aside0.mk (Kd.R_below (rk_ HO104.out) hb); have n1_ := Aside0.mk (below_step (hb_ HB.out) hb); clear HO104; clear HB; have HO104 := n0_; have HB := n1_; clear n0_ n1_; (try clear hb); (try clear hb2); (try clear hk); (try clear hi)) | ((with_reducible refine gate_callee (f := 38) rfl ?_); refine goesL_ (some 21) rfl rfl Tryd.func38 (by kernel_rfl) rfl #[.slice Ao98 y102.length co98] rfl (by (try simp only [List.map_toArray, List.map_cons, List.map_nil]); first | done | rfl | (simp only [List.length_drop, List.length_take]; rfl)) ?_; (with_reducible refine (refs_Text.calls k _ _ y102 t108 t109 _ ?side1 ?side2 ?side3 A3.out).mono ?_); (case side1 => repeat (first | exact (Kd.R_reads' HO104.out).2.2 | (with_reducible refine Kd.C_alloc ?_ _) | (with_reducible refine Kd.C_drewN ?_ _) | (with_reducible refine Kd.C_drew ?_))); (case side2 => exact (Kd.R_reads' HO104.out).2.1); (case side3 => exact GV.below hgv (hb_ HB.out)); rintro e w100 ⟨rfl, hb⟩; refine ⟨_, rfl, ?_⟩; have n0_ := Aside0.mk (Kd.R_below (rk_ HO104.out) hb); have n1_ := Aside0.mk (below_step (hb_ HB.out) hb); clear HO104; clear HB; have HO104 := n0_; have HB := n1_; clear n0_ n1_; (try clear hb); (try clear hb2); (try clear hk); (try clear hi)) | ((with_reducible refine gate_callee (f := 40) rfl ?_); refine goesL_ (some 26) rfl rfl Tryd.func40 (by kernel_rfl) rfl #[.string t108] rfl (by (try simp only [List.map_toArray, List.map_cons, List.map_nil]); first | done | rfl | (simp only [List.length_drop, List.length_take]; rfl)) ?_; (with_reducible refine (refs_Parse.calls k t108 t110 t111 _ ?side1 A4.out).mono ?_); (case side1 => exact GV.below hgv (hb_ HB.out)); rintro e w101 ⟨v112, rfl, ho0, hb⟩; refine ⟨_, rfl, ?_⟩; have n0_ := Aside0.mk (Kd.R_elder' (rk_ HO104.out) (Kd.R_base ho0) hb); have n1_ := Aside0.mk (Kd.R_lower (Kd.R_new' ho0 (Kd.R_lt (rk_ HO104.out))) (below_size (hb_ HB.out))); have n2_ := Aside0.mk (below_step (hb_ HB.out) hb); clear HO104; clear HB; have HO104 := n0_; have HO113 := n1_; have HB := n2_; clear n0_ n1_ n2_; (try clear hb); (try clear hb2); (try clear hk); (try clear hi); (try clear ho0)) | ((with_reducible refine gate_callee (f := 36) rfl ?_); refine goesL_ (some 30) rfl rfl Tryd.func36 (by kernel_rfl) rfl #[.slice Ao98 y102.length co98] rfl (by (try simp only [List.map_toArray, List.map_cons, List.map_nil]); first | done | rfl | (simp only [List.length_drop, List.length_take]; rfl)) ?_; (with_reducible refine (refs_Check.calls k _ _ y102 t114 _ ?side1 ?side2 ?side3 A5.out).mono ?_); (case side1 => repeat (first | exact (Kd.R_reads' HO104.out).2.2 | (with_reducible refine Kd.C_alloc ?_ _) | (with_reducible refine Kd.C_drewN ?_ _) | (with_reducible refine Kd.C_drew ?_))); (case side2 => exact (Kd.R_reads' HO104.out).2.1); (case side3 => exact GV.below hgv (hb_ HB.out)); rintro e w102 ⟨rfl, hb⟩; refine ⟨_, rfl, ?_⟩; have n0_ := Aside0.mk (Kd.R_below (rk_ HO104.out) hb); have n1_ := Aside0.mk (Kd.R_below (rk_ HO113.out) hb); have n2_ := Aside0.mk (below_step (hb_ HB.out) hb); clear HO104; clear HO113; clear HB; have HO104 := n0_; have HO113 := n1_; have HB := n2_; clear n0_ n1_ n2_; (try clear hb); (try clear hb2); (try clear hk); (try clear hi)))
  go_ret
  exact ⟨by first | rfl | (simp [errW_none, errW_some] <;> rfl) | (simp [*, errW_none, errW_some] <;> rfl) | (simp [ne_nil_bool]; done) | (simp [*, ne_nil_bool]; done), hb_ HB.out⟩

end Go.Proofs.YtccbpbdfihnlgaaDoor.Q


/- Contracts of Go functions as calls of plain Lean functions, written by a program of this session over the kit's print. -/
namespace Go.Proofs.YtccbpbdfihnlgaaDoor.Q
open Go.RowKit Go.Proofs.YtccbpbdfihnlgaaDoorW.PrintWords Go.Proofs.YtccbpbdfihnlgaaDoorW.PrintLast Go.Proofs.YtccbpbdfihnlgaaDoorW.PrintMore
attribute [local go_sem] max2_int min2_int max_two min_two max_three min_three max_four min_four   -- for this text's walks alone

/-! ### graftagelaw37_RefsTexts: function 10 -/
def graftagelaw37_RefsTexts.j0 : Nat → List (S55) → ByteArray → Bool → Option (Bool)
 | 0, _, _, _ => none
 | k + 1, x0, x1, x20 => if x20 = true then ((graftagelaw37_lives.f k).bind fun t109 => (some t109)) else ((refs_Text.f k x0).bind fun bt110 => ((graftageref37_Text.f k x0).bind fun bt112 => ((refs_Parse.f k x1).bind fun bt114 => ((graftageref37_Parse.f k x1).bind fun bt118 => (if bt110.1.toList = bt112.1.toList then (if bt110.2 = bt112.2 then ((graftageref37_Same.f k bt114.1 bt118.1).bind fun t122 => (if t122 = true then (if bt114.2 = bt118.2 then ((graftagelaw37_lives.f k).bind fun t123 => (some t123)) else (some false)) else (some false))) else (some false)) else (some false))))))
def graftagelaw37_RefsTexts.f (k : Nat) (l0 : List (S55)) (a1 : ByteArray) : Option (Bool) := (graftageref37_Few.f k l0).bind fun t108 => (if t108 = true then (graftagelaw37_RefsTexts.j0 k l0 a1 (decide ((a1.size : Int) > 3000))) else (graftagelaw37_RefsTexts.j0 k l0 a1 true))
set_option maxHeartbeats 8000000 in
set_option maxRecDepth 100000 in
theorem graftagelaw37_RefsTexts.calls (k : Nat) (A0 : Option Addr) (c0 : Nat) (l0 : List (S55)) (a1 : ByteArray) (r : Bool) (w : World) (hr0 : Kd.C k55 w A0 l0.length l0) (hc0 : l0.length ≤ c0) (hgv : GV w) (h : graftagelaw37_RefsTexts.f k l0 a1 = some r) :
  Calls Tryd.prog 10 #[.slice A0 l0.length c0, .string a1] w fun e w' => e = .returned (.bool r) ∧ Below w.heap.size w w' := by
 have HR0 := Aside0.mk hr0
 have HC0 := Aside0.mk hc0
 clear hr0 hc0
 have HB := Aside0.mk (Below.refl w.heap.size w)
 have H : ((graftageref37_Few.f k l0).bind fun t108 => (if t108 = true then (graftagelaw37_RefsTexts.j0 k l0 a1 (decide ((a1.size : Int) > 3000))) else (graftagelaw37_RefsTexts.j0 k l0 a1 true))) = some r := h
 clear h
 have HC3 := Aside0.mk H
 clear H
 go_enter Tryd.func10, Tryd.ntmps10
 go_upto_region 1 with (fail)
 go_cut [20] (fun v20 wc => ∃ (kq : Nat) (x20_2 : Bool), v20 = .bool x20_2 ∧ Aside0 (graftagelaw37_RefsTexts.j0 kq l0 a1 x20_2 = some r) ∧ Aside0 (kq ≤ k) ∧ Aside0 (Below w.heap.size w wc))
 case first =>
  have H := HC3.out
  clear HC3
  replace H := Option.bind_eq_some_iff.mp H
  obtain ⟨t108, A40, H⟩ := H
  replace H : (if t108 = true then (graftagelaw37_RefsTexts.j0 k l0 a1 (decide ((a1.size : Int) > 3000))) else (graftagelaw37_RefsTexts.j0 k l0 a1 true)) = some r := H
  have A4 := Aside0.mk A40
  clear A40
  by_cases c5 : t108 = true
  ·subst c5
   have H1 : (graftagelaw37_RefsTexts.j0 k l0 a1 (decide ((a1.size : Int) > 3000))) = some r := by rw [if_pos rfl] at H; exact H
   clear H
   have H := H1
   clear H1
   have H' := Aside0.mk H
   clear H
   go_wp2_with (first | ((with_reducible refine gate_callee (f := 32) rfl ?_); refine goesL_ (some 14) rfl rfl Tryd.func32 (by kernel_rfl) rfl #[.slice A0 l0.length c0] rfl (by (try simp only [List.map_toArray, List.map_cons, List.map_nil]); first | done | rfl | (simp only [List.length_drop, List.length_take]; rfl)) ?_; (with_reducible refine (graftageref37_Few.calls k _ _ l0 true _ ?side1 ?side2 A4.out).mono ?_); (case side1 => repeat (first | exact (Kd.C_below HR0.out HB.out) | (with_reducible refine Kd.C_alloc ?_ _) | (with_reducible refine Kd.C_drewN ?_ _) | (with_reducible refine Kd.C_drew ?_))); (case side2 => exact HC0.out); rintro e w' ⟨rfl, ⟨nd, rfl⟩⟩; refine ⟨_, rfl, ?_⟩))
   go_meet
   case rel => exact ⟨_, (decide ((a1.size : Int) > 3000)), (by first | rfl | (simp; done) | (simp [*]; done) | (simp [ne_nil_bool]; done) | (simp [*, ne_nil_bool]; done)), H', ⟨by first | omega | exact Nat.le_refl _⟩, ⟨hb_ HB.out⟩⟩
  ·replace c5 := Bool.eq_false_iff.mpr c5
   subst c5
   have H1 : (graftagelaw37_RefsTexts.j0 k l0 a1 true) = some r := by rw [if_neg (show ¬ (false = true) by decide)] at H; exact H
   clear H
   have H := H1
   clear H1
   have H' := Aside0.mk H
   clear H
   go_wp2_with (first | ((with_reducible refine gate_callee (f := 32) rfl ?_); refine goesL_ (some 14) rfl rfl Tryd.func32 (by kernel_rfl) rfl #[.slice A0 l0.length c0] rfl (by (try simp only [List.map_toArray, List.map_cons, List.map_nil]); first | done | rfl | (simp only [List.length_drop, List.length_take]; rfl)) ?_; (with_reducible refine (graftageref37_Few.calls k _ _ l0 false _ ?side1 ?side2 A4.out).mono ?_); (case side1 => repeat (first | exact (Kd.C_below HR0.out HB.out) | (with_reducible refine Kd.C_alloc ?_ _) | (with_reducible refine Kd.C_drewN ?_ _) | (with_reducible refine Kd.C_drew ?_))); (case side2 => exact HC0.out); rintro e w' ⟨rfl, ⟨nd, rfl⟩⟩; refine ⟨_, rfl, ?_⟩))
   go_meet
   case rel => exact ⟨_, (true), (by first | rfl | (simp; done) | (simp [*]; done) | (simp [ne_nil_bool]; done) | (simp [*, ne_nil_bool]; done)), H', ⟨by first | omega | exact Nat.le_refl _⟩, ⟨hb_ HB.out⟩⟩
 case rest =>
  clear HC3
  try clear c1
  try clear p2
  try clear c3
  try clear c5
  obtain ⟨kq, x20_2, rfl, HA, HJ2, HB⟩ := hcut
  cases kq with
  | zero => exact absurd HA.out (by simp [graftagelaw37_RefsTexts.j0])
  | succ kj2 =>
   have H := HA.out
   clear HA
   simp only [graftagelaw37_RefsTexts.j0] at H
   by_cases c6 : x20_2 = true
   ·subst c6
    have H1 : ((graftagelaw37_lives.f kj2).bind fun t109 => (some t109)) = some r := by rw [if_pos rfl] at H; exact H
    clear H
    have H := H1
    clear H1
    replace H := Option.bind_eq_some_iff.mp H
    obtain ⟨t109, A70, H⟩ := H
    replace H : (some t109) = some r := H
    have A7 := Aside0.mk A70
    clear A70
    obtain rfl := Option.some.inj H
    go_wp2_with (first | ((with_reducible refine gate_callee (f := 33) rfl ?_); refine goesL_ (some 21) rfl rfl Tryd.func33 (by kernel_rfl) rfl #[] rfl (by (try simp only [List.map_toArray, List.map_cons, List.map_nil]); first | done | rfl | (simp only [List.length_drop, List.length_take]; rfl)) ?_; (with_reducible refine (graftagelaw37_lives.calls kj2  t109 _ ?side1 A7.out).mono ?_); (case side1 => exact GV.below hgv (hb_ HB.out)); rintro e w8 ⟨rfl, hb⟩; refine ⟨_, rfl, ?_⟩; have n0_ := Aside0.mk (below_step (hb_ HB.out) hb); clear HB; have HB := n0_; clear n0_; (try clear hb); (try clear hb2); (try clear hk); (try clear hi)))
    go_ret
    exact ⟨by first | rfl | (simp [errW_none, errW_some] <;> rfl) | (simp [*, errW_none, errW_some] <;> rfl) | (simp [ne_nil_bool]; done) | (simp [*, ne_nil_bool]; done), hb_ HB.out⟩
   ·replace c6 := Bool.eq_false_iff.mpr c6
    subst c6
    have H1 : ((refs_Text.f kj2 l0).bind fun bt110 => ((graftageref37_Text.f kj2 l0).bind fun bt112 => ((refs_Parse.f kj2 a1).bind fun bt114 => ((graftageref37_Parse.f kj2 a1).bind fun bt118 => (if bt110.1.toList = bt112.1.toList then (if bt110.2 = bt112.2 then ((graftageref37_Same.f kj2 bt114.1 bt118.1).bind fun t122 => (if t122 = true then (if bt114.2 = bt118.2 then ((graftagelaw37_lives.f kj2).bind fun t123 => (some t123)) else (some false)) else (some false))) else (some false)) else (some false)))))) = some r := by rw [if_neg (show ¬ (false = true) by decide)] at H; exact H
    clear H
    have H := H1
    clear H1
    replace H := Option.bind_eq_some_iff.mp H
    obtain ⟨⟨t110, t111⟩, A90, H⟩ := H
    replace H : ((graftageref37_Text.f kj2 l0).bind fun bt112 => ((refs_Parse.f kj2 a1).bind fun bt114 => ((graftageref37_Parse.f kj2 a1).bind fun bt118 => (if t110.toList = bt112.1.toList then (if t111 = bt112.2 then ((graftageref37_Same.f kj2 bt114.1 bt118.1).bind fun t122 => (if t122 = true then (if bt114.2 = bt118.2 then ((graftagelaw37_lives.f kj2).bind fun t123 => (some t123)) else (some false)) else (some false))) else (some false)) else (some false))))) = some r := H
    have A9 := Aside0.mk A90
    clear A90
    replace H := Option.bind_eq_some_iff.mp H
    obtain ⟨⟨t112, t113⟩, A100, H⟩ := H
    replace H : ((refs_Parse.f kj2 a1).bind fun bt114 => ((graftageref37_Parse.f kj2 a1).bind fun bt118 => (if t110.toList = t112.toList then (if t111 = t113 then ((graftageref37_Same.f kj2 bt114.1 bt118.1).bind fun t122 => (if t122 = true then (if bt114.2 = bt118.2 then ((graftagelaw37_lives.f kj2).bind fun t123 => (some t123)) else (some false)) else (some false))) else (some false)) else (some false)))) = some r := H
    have A10 := Aside0.mk A100
    clear A100
    replace H := Option.bind_eq_some_iff.mp H
    obtain ⟨⟨t114, t115⟩, A110, H⟩ := H
    replace H : ((graftageref37_Parse.f kj2 a1).bind fun bt118 => (if t110.toList = t112.toList then (if t111 = t113 then ((graftageref37_Same.f kj2 t114 bt118.1).bind fun t122 => (if t122 = true then (if t115 = bt118.2 then ((graftagelaw37_lives.f kj2).bind fun t123 => (some t123)) else (some false)) else (some false))) else (some false)) else (some false))) = some r := H
    have A11 := Aside0.mk A110
    clear A110
    replace H := Option.bind_eq_some_iff.mp H
    obtain ⟨⟨t118, t119⟩, A120, H⟩ := H
    replace H : (if t110.toList = t112.toList then (if t111 = t113 then ((graftageref37_Same.f kj2 t114 t118).bind fun t122 => (if t122 = true then (if t115 = t119 then ((graftagelaw37_lives.f kj2).bind fun t123 => (some t123)) else (some false)) else (some false))) else (some false)) else (some false)) = some r := H
    have A12 := Aside0.mk A120
    clear A120
    by_cases c13 : t110.toList = t112.toList
    ·rw [if_pos c13] at H
     have c13b0 : (t110.toList == t112.toList) = true := beq_iff_eq.mpr c13
     have c13b1 : (t110.toList != t112.toList) = false := bne_eq_false_iff_eq.mpr c13
     clear c13
     by_cases c14 : t111 = t113
     ·rw [if_pos c14] at H
      have c14b0 : (t111 == t113) = true := beq_iff_eq.mpr c14
      have c14b1 : (t111 != t113) = false := bne_eq_false_iff_eq.mpr c14
      clear c14
      replace H := Option.bind_eq_some_iff.mp H
      obtain ⟨t122, A150, H⟩ := H
      replace H : (if t122 = true then (if t115 = t119 then ((graftagelaw37_lives.f kj2).bind fun t123 => (some t123)) else (some false)) else (some false)) = some r := H
      have A15 := Aside0.mk A150
      clear A150
      by_cases c16 : t122 = true
      ·subst c16
       have H1 : (if t115 = t119 then ((graftagelaw37_lives.f kj2).bind fun t123 => (some t123)) else (some false)) = some r := by rw [if_pos rfl] at H; exact H
       clear H
       have H := H1
       clear H1
       by_cases c17 : t115 = t119
       ·rw [if_pos c17] at H
        have c17b0 : (t115 == t119) = true := beq_iff_eq.mpr c17
        have c17b1 : (t115 != t119) = false := bne_eq_false_iff_eq.mpr c17
        clear c17
        replace H := Option.bind_eq_some_iff.mp H
        obtain ⟨t123, A180, H⟩ := H
        replace H : (some t123) = some r := H
        have A18 := Aside0.mk A180
        clear A180
        obtain rfl := Option.some.inj H
        go_wp2_with (first | ((with_reducible refine gate_callee (f := 38) rfl ?_); refine goesL_ (some 24) rfl rfl Tryd.func38 (by kernel_rfl) rfl #[.slice A0 l0.length c0] rfl (by (try simp only [List.map_toArray, List.map_cons, List.map_nil]); first | done | rfl | (simp only [List.length_drop, List.length_take]; rfl)) ?_; (with_reducible refine (refs_Text.calls kj2 _ _ l0 t110 t111 _ ?side1 ?side2 ?side3 A9.out).mono ?_); (case side1 => repeat (first | exact (Kd.C_below HR0.out HB.out) | (with_reducible refine Kd.C_alloc ?_ _) | (with_reducible refine Kd.C_drewN ?_ _) | (with_reducible refine Kd.C_drew ?_))); (case side2 => exact HC0.out); (case side3 => exact GV.below hgv (hb_ HB.out)); rintro e w19 ⟨rfl, hb⟩; refine ⟨_, rfl, ?_⟩; have n0_ := Aside0.mk (below_step (hb_ HB.out) hb); clear HB; have HB := n0_; clear n0_; (try clear hb); (try clear hb2); (try clear hk); (try clear hi)) | ((with_reducible refine gate_callee (f := 39) rfl ?_); refine goesL_ (some 29) rfl rfl Tryd.func39 (by kernel_rfl) rfl #[.slice A0 l0.length c0] rfl (by (try simp only [List.map_toArray, List.map_cons, List.map_nil]); first | done | rfl | (simp only [List.length_drop, List.length_take]; rfl)) ?_; (with_reducible refine (graftageref37_Text.calls kj2 _ _ l0 t112 t113 _ ?side1 ?side2 A10.out).mono ?_); (case side1 => repeat (first | exact (Kd.C_below HR0.out HB.out) | (with_reducible refine Kd.C_alloc ?_ _) | (with_reducible refine Kd.C_drewN ?_ _) | (with_reducible refine Kd.C_drew ?_))); (case side2 => exact HC0.out); rintro e w20 ⟨rfl, hb⟩; refine ⟨_, rfl, ?_⟩; have n0_ := Aside0.mk (below_step (hb_ HB.out) hb); clear HB; have HB := n0_; clear n0_; (try clear hb); (try clear hb2); (try clear hk); (try clear hi)) | ((with_reducible refine gate_callee (f := 40) rfl ?_); refine goesL_ (some 34) rfl rfl Tryd.func40 (by kernel_rfl) rfl #[.string a1] rfl (by (try simp only [List.map_toArray, List.map_cons, List.map_nil]); first | done | rfl | (simp only [List.length_drop, List.length_take]; rfl)) ?_; (with_reducible refine (refs_Parse.calls kj2 a1 t114 t115 _ ?side1 A11.out).mono ?_); (case side1 => exact GV.below hgv (hb_ HB.out)); rintro e w21 ⟨v116, rfl, ho0, hb⟩; refine ⟨_, rfl, ?_⟩; have n0_ := Aside0.mk (Kd.R_lower ho0 (below_size (hb_ HB.out))); have n1_ := Aside0.mk (below_step (hb_ HB.out) hb); clear HB; have HO117 := n0_; have HB := n1_; clear n0_ n1_; (try clear hb); (try clear hb2); (try clear hk); (try clear hi); (try clear ho0)) | ((with_reducible refine gate_callee (f := 41) rfl ?_); refine goesL_ (some 39) rfl rfl Tryd.func41 (by kernel_rfl) rfl #[.string a1] rfl (by (try simp only [List.map_toArray, List.map_cons, List.map_nil]); first | done | rfl | (simp only [List.length_drop, List.length_take]; rfl)) ?_; (with_reducible refine (graftageref37_Parse.calls kj2 a1 t118 t119 _ A12.out).mono ?_); rintro e w22 ⟨v120, rfl, ho0, hb⟩; refine ⟨_, rfl, ?_⟩; have n0_ := Aside0.mk (Kd.R_elder' (rk_ HO117.out) (Kd.R_base ho0) hb); have n1_ := Aside0.mk (Kd.R_lower (Kd.R_new' ho0 (Kd.R_lt (rk_ HO117.out))) (below_size (hb_ HB.out))); have n2_ := Aside0.mk (below_step (hb_ HB.out) hb); clear HO117; clear HB; have HO117 := n0_; have HO121 := n1_; have HB := n2_; clear n0_ n1_ n2_; (try clear hb); (try clear hb2); (try clear hk); (try clear hi); (try clear ho0); obtain ⟨Ao23, co23, eo23⟩ := Kd.R_slice HO117.out; subst eo23; obtain ⟨Ao24, co24, eo24⟩ := Kd.R_slice HO121.out; subst eo24) | (go_at_call 42; (with_reducible refine (graftageref37_Same.calls kj2 _ _ t114 _ _ t118 true _ ?side1 ?side2 ?side3 ?side4 A15.out).mono ?_); (case side1 => repeat (first | exact (Kd.R_reads' HO117.out).2.2 | (with_reducible refine Kd.C_alloc ?_ _) | (with_reducible refine Kd.C_drewN ?_ _) | (with_reducible refine Kd.C_drew ?_))); (case side2 => exact (Kd.R_reads' HO117.out).2.1); (case side3 => repeat (first | exact (Kd.R_reads' HO121.out).2.2 | (with_reducible refine Kd.C_alloc ?_ _) | (with_reducible refine Kd.C_drewN ?_ _) | (with_reducible refine Kd.C_drew ?_))); (case side4 => exact (Kd.R_reads' HO121.out).2.1); rintro e w' ⟨rfl, ⟨nd, rfl⟩⟩) | (go_at_call 33; (with_reducible refine (graftagelaw37_lives.calls kj2  t123 _ ?side1 A18.out).mono ?_); (case side1 => exact GV.below hgv (hb_ HB.out)); rintro e w25 ⟨rfl, hb⟩; have n0_ := Aside0.mk (Kd.R_below (rk_ HO117.out) hb); have n1_ := Aside0.mk (Kd.R_below (rk_ HO121.out) hb); have n2_ := Aside0.mk (below_step (hb_ HB.out) hb); clear HO117; clear HO121; clear HB; have HO117 := n0_; have HO121 := n1_; have HB := n2_; clear n0_ n1_ n2_; (try clear hb); (try clear hb2); (try clear hk); (try clear hi)))
        go_ret
        exact ⟨by first | rfl | (simp [errW_none, errW_some] <;> rfl) | (simp [*, errW_none, errW_some] <;> rfl) | (simp [ne_nil_bool]; done) | (simp [*, ne_nil_bool]; done), hb_ HB.out⟩
       ·rw [if_neg c17] at H
        have c17b0 : (t115 == t119) = false := beq_eq_false_iff_ne.mpr c17
        have c17b1 : (t115 != t119) = true := bne_iff_ne.mpr c17
        obtain rfl := Option.some.inj H
        go_wp2_with (first | ((with_reducible refine gate_callee (f := 38) rfl ?_); refine goesL_ (some 24) rfl rfl Tryd.func38 (by kernel_rfl) rfl #[.slice A0 l0.length c0] rfl (by (try simp only [List.map_toArray, List.map_cons, List.map_nil]); first | done | rfl | (simp only [List.length_drop, List.length_take]; rfl)) ?_; (with_reducible refine (refs_Text.calls kj2 _ _ l0 t110 t111 _ ?side1 ?side2 ?side3 A9.out).mono ?_); (case side1 => repeat (first | exact (Kd.C_below HR0.out HB.out) | (with_reducible refine Kd.C_alloc ?_ _) | (with_reducible refine Kd.C_drewN ?_ _) | (with_reducible refine Kd.C_drew ?_))); (case side2 => exact HC0.out); (case side3 => exact GV.below hgv (hb_ HB.out)); rintro e w26 ⟨rfl, hb⟩; refine ⟨_, rfl, ?_⟩; have n0_ := Aside0.mk (below_step (hb_ HB.out) hb); clear HB; have HB := n0_; clear n0_; (try clear hb); (try clear hb2); (try clear hk); (try clear hi)) | ((with_reducible refine gate_callee (f := 39) rfl ?_); refine goesL_ (some 29) rfl rfl Tryd.func39 (by kernel_rfl) rfl #[.slice A0 l0.length c0] rfl (by (try simp only [List.map_toArray, List.map_cons, List.map_nil]); first | done | rfl | (simp only [List.length_drop, List.length_take]; rfl)) ?_; (with_reducible refine (graftageref37_Text.calls kj2 _ _ l0 t112 t113 _ ?side1 ?side2 A10.out).mono ?_); (case side1 => repeat (first | exact (Kd.C_below HR0.out HB.out) | (with_reducible refine Kd.C_alloc ?_ _) | (with_reducible refine Kd.C_drewN ?_ _) | (with_reducible refine Kd.C_drew ?_))); (case side2 => exact HC0.out); rintro e w27 ⟨rfl, hb⟩; refine ⟨_, rfl, ?_⟩; have n0_ := Aside0.mk (below_step (hb_ HB.out) hb); clear HB; have HB := n0_; clear n0_; (try clear hb); (try clear hb2); (try clear hk); (try clear hi)) | ((with_reducible refine gate_callee (f := 40) rfl ?_); refine goesL_ (some 34) rfl rfl Tryd.func40 (by kernel_rfl) rfl #[.string a1] rfl (by (try simp only [List.map_toArray, List.map_cons, List.map_nil]); first | done | rfl | (simp only [List.length_drop, List.length_take]; rfl)) ?_; (with_reducible refine (refs_Parse.calls kj2 a1 t114 t115 _ ?side1 A11.out).mono ?_); (case side1 => exact GV.below hgv (hb_ HB.out)); rintro e w28 ⟨v116, rfl, ho0, hb⟩; refine ⟨_, rfl, ?_⟩; have n0_ := Aside0.mk (Kd.R_lower ho0 (below_size (hb_ HB.out))); have n1_ := Aside0.mk (below_step (hb_ HB.out) hb); clear HB; have HO117 := n0_; have HB := n1_; clear n0_ n1_; (try clear hb); (try clear hb2); (try clear hk); (try clear hi); (try clear ho0)) | ((with_reducible refine gate_callee (f := 41) rfl ?_); refine goesL_ (some 39) rfl rfl Tryd.func41 (by kernel_rfl) rfl #[.string a1] rfl (by (try simp only [List.map_toArray, List.map_cons, List.map_nil]); first | done | rfl | (simp only [List.length_drop, List.length_take]; rfl)) ?_; (with_reducible refine (graftageref37_Parse.calls kj2 a1 t118 t119 _ A12.out).mono ?_); rintro e w29 ⟨v120, rfl, ho0, hb⟩; refine ⟨_, rfl, ?_⟩; have n0_ := Aside0.mk (Kd.R_elder' (rk_ HO117.out) (Kd.R_base ho0) hb); have n1_ := Aside0.mk (Kd.R_lower (Kd.R_new' ho0 (Kd.R_lt (rk_ HO117.out))) (below_size (hb_ HB.out))); have n2_ := Aside0.mk (below_step (hb_ HB.out) hb); clear HO117; clear HB; have HO117 := n0_; have HO121 := n1_; have HB := n2_; clear n0_ n1_ n2_; (try clear hb); (try clear hb2); (try clear hk); (try clear hi); (try clear ho0); obtain ⟨Ao30, co30, eo30⟩ := Kd.R_slice HO117.out; subst eo30; obtain ⟨Ao31, co31, eo31⟩ := Kd.R_slice HO121.out; subst eo31) | (go_at_call 42; (with_reducible refine (graftageref37_Same.calls kj2 _ _ t114 _ _ t118 true _ ?side1 ?side2 ?side3 ?side4 A15.out).mono ?_); (case side1 => repeat (first | exact (Kd.R_reads' HO117.out).2.2 | (with_reducible refine Kd.C_alloc ?_ _) | (with_reducible refine Kd.C_drewN ?_ _) | (with_reducible refine Kd.C_drew ?_))); (case side2 => exact (Kd.R_reads' HO117.out).2.1); (case side3 => repeat (first | exact (Kd.R_reads' HO121.out).2.2 | (with_reducible refine Kd.C_alloc ?_ _) | (with_reducible refine Kd.C_drewN ?_ _) | (with_reducible refine Kd.C_drew ?_))); (case side4 => exact (Kd.R_reads' HO121.out).2.1); rintro e w' ⟨rfl, ⟨nd, rfl⟩⟩))
        go_ret
        exact ⟨by first | rfl | (simp [errW_none, errW_some] <;> rfl) | (simp [*, errW_none, errW_some] <;> rfl) | (simp [ne_nil_bool]; done) | (simp [*, ne_nil_bool]; done), hb_ HB.out⟩
      ·replace c16 := Bool.eq_false_iff.mpr c16
       subst c16
       have H1 : (some false) = some r := by rw [if_neg (show ¬ (false = true) by decide)] at H; exact H
       clear H
       have H := H1
       clear H1
       obtain rfl := Option.some.inj H
       go_wp2_with (first | ((with_reducible refine gate_callee (f := 38) rfl ?_); refine goesL_ (some 24) rfl rfl Tryd.func38 (by kernel_rfl) rfl #[.slice A0 l0.length c0] rfl (by (try simp only [List.map_toArray, List.map_cons, List.map_nil]); first | done | rfl | (simp only [List.length_drop, List.length_take]; rfl)) ?_; (with_reducible refine (refs_Text.calls kj2 _ _ l0 t110 t111 _ ?side1 ?side2 ?side3 A9.out).mono ?_); (case side1 => repeat (first | exact (Kd.C_below HR0.out HB.out) | (with_reducible refine Kd.C_alloc ?_ _) | (with_reducible refine Kd.C_drewN ?_ _) | (with_reducible refine Kd.C_drew ?_))); (case side2 => exact HC0.out); (case side3 => exact GV.below hgv (hb_ HB.out)); rintro e w32 ⟨rfl, hb⟩; refine ⟨_, rfl, ?_⟩; have n0_ := Aside0.mk (below_step (hb_ HB.out) hb); clear HB; have HB := n0_; clear n0_; (try clear hb); (try clear hb2); (try clear hk); (try clear hi)) | ((with_reducible refine gate_callee (f := 39) rfl ?_); refine goesL_ (some 29) rfl rfl Tryd.func39 (by kernel_rfl) rfl #[.slice A0 l0.length c0] rfl (by (try simp only [List.map_toArray, List.map_cons, List.map_nil]); first | done | rfl | (simp only [List.length_drop, List.length_take]; rfl)) ?_; (with_reducible refine (graftageref37_Text.calls kj2 _ _ l0 t112 t113 _ ?side1 ?side2 A10.out).mono ?_); (case side1 => repeat (first | exact (Kd.C_below HR0.out HB.out) | (with_reducible refine Kd.C_alloc ?_ _) | (with_reducible refine Kd.C_drewN ?_ _) | (with_reducible refine Kd.C_drew ?_))); (case side2 => exact HC0.out); rintro e w33 ⟨rfl, hb⟩; refine ⟨_, rfl, ?_⟩; have n0_ := Aside0.mk (below_step (hb_ HB.out) hb); clear HB; have HB := n0_; clear n0_; (try clear hb); (try clear hb2); (try clear hk); (try clear hi)) | ((with_reducible refine gate_callee (f := 40) rfl ?_); refine goesL_ (some 34) rfl rfl Tryd.func40 (by kernel_rfl) rfl #[.string a1] rfl (by (try simp only [List.map_toArray, List.map_cons, List.map_nil]); first | done | rfl | (simp only [List.length_drop, List.length_take]; rfl)) ?_; (with_reducible refine (refs_Parse.calls kj2 a1 t114 t115 _ ?side1 A11.out).mono ?_); (case side1 => exact GV.below hgv (hb_ HB.out)); rintro e w34 ⟨v116, rfl, ho0, hb⟩; refine ⟨_, rfl, ?_⟩; have n0_ := Aside0.mk (Kd.R_lower ho0 (below_size (hb_ HB.out))); have n1_ := Aside0.mk (below_step (hb_ HB.out) hb); clear HB; have HO117 := n0_; have HB := n1_; clear n0_ n1_; (try clear hb); (try clear hb2); (try clear hk); (try clear hi); (try clear ho0)) | ((with_reducible refine gate_callee (f := 41) rfl ?_); refine goesL_ (some 39) rfl rfl Tryd.func41 (by kernel_rfl) rfl #[.string a1] rfl (by (try simp only [List.map_toArray, List.map_cons, List.map_nil]); first | done | rfl | (simp only [List.length_drop, List.length_take]; rfl)) ?_; (with_reducible refine (graftageref37_Parse.calls kj2 a1 t118 t119 _ A12.out).mono ?_); rintro e w35 ⟨v120, rfl, ho0, hb⟩; refine ⟨_, rfl, ?_⟩; have n0_ := Aside0.mk (Kd.R_elder' (rk_ HO117.out) (Kd.R_base ho0) hb); have n1_ := Aside0.mk (Kd.R_lower (Kd.R_new' ho0 (Kd.R_lt (rk_ HO117.out))) (below_size (hb_ HB.out))); have n2_ := Aside0.mk (below_step (hb_ HB.out) hb); clear HO117; clear HB; have HO117 := n0_; have HO121 := n1_; have HB := n2_; clear n0_ n1_ n2_; (try clear hb); (try clear hb2); (try clear hk); (try clear hi); (try clear ho0); obtain ⟨Ao36, co36, eo36⟩ := Kd.R_slice HO117.out; subst eo36; obtain ⟨Ao37, co37, eo37⟩ := Kd.R_slice HO121.out; subst eo37) | (go_at_call 42; (with_reducible refine (graftageref37_Same.calls kj2 _ _ t114 _ _ t118 false _ ?side1 ?side2 ?side3 ?side4 A15.out).mono ?_); (case side1 => repeat (first | exact (Kd.R_reads' HO117.out).2.2 | (with_reducible refine Kd.C_alloc ?_ _) | (with_reducible refine Kd.C_drewN ?_ _) | (with_reducible refine Kd.C_drew ?_))); (case side2 => exact (Kd.R_reads' HO117.out).2.1); (case side3 => repeat (first | exact (Kd.R_reads' HO121.out).2.2 | (with_reducible refine Kd.C_alloc ?_ _) | (with_reducible refine Kd.C_drewN ?_ _) | (with_reducible refine Kd.C_drew ?_))); (case side4 => exact (Kd.R_reads' HO121.out).2.1); rintro e w' ⟨rfl, ⟨nd, rfl⟩⟩))
       go_ret
       exact ⟨by first | rfl | (simp [errW_none, errW_some] <;> rfl) | (simp [*, errW_none, errW_some] <;> rfl) | (simp [ne_nil_bool]; done) | (simp [*, ne_nil_bool]; done), hb_ HB.out⟩
     ·rw [if_neg c14] at H
      have c14b0 : (t111 == t113) = false := beq_eq_false_iff_ne.mpr c14
      have c14b1 : (t111 != t113) = true := bne_iff_ne.mpr c14
      obtain rfl := Option.some.inj H
      go_wp2_with (first | ((with_reducible refine gate_callee (f := 38) rfl ?_); refine goesL_ (some 24) rfl rfl Tryd.func38 (by kernel_rfl) rfl #[.slice A0 l0.length c0] rfl (by (try simp only [List.map_toArray, List.map_cons, List.map_nil]); first | done | rfl | (simp only [List.length_drop, List.length_take]; rfl)) ?_; (with_reducible refine (refs_Text.calls kj2 _ _ l0 t110 t111 _ ?side1 ?side2 ?side3 A9.out).mono ?_); (case side1 => repeat (first | exact (Kd.C_below HR0.out HB.out) | (with_reducible refine Kd.C_alloc ?_ _) | (with_reducible refine Kd.C_drewN ?_ _) | (with_reducible refine Kd.C_drew ?_))); (case side2 => exact HC0.out); (case side3 => exact GV.below hgv (hb_ HB.out)); rintro e w38 ⟨rfl, hb⟩; refine ⟨_, rfl, ?_⟩; have n0_ := Aside0.mk (below_step (hb_ HB.out) hb); clear HB; have HB := n0_; clear n0_; (try clear hb); (try clear hb2); (try clear hk); (try clear hi)) | ((with_reducible refine gate_callee (f := 39) rfl ?_); refine goesL_ (some 29) rfl rfl Tryd.func39 (by kernel_rfl) rfl #[.slice A0 l0.length c0] rfl (by (try simp only [List.map_toArray, List.map_cons, List.map_nil]); first | done | rfl | (simp only [List.length_drop, List.length_take]; rfl)) ?_; (with_reducible refine (graftageref37_Text.calls kj2 _ _ l0 t112 t113 _ ?side1 ?side2 A10.out).mono ?_); (case side1 => repeat (first | exact (Kd.C_below HR0.out HB.out) | (with_reducible refine Kd.C_alloc ?_ _) | (with_reducible refine Kd.C_drewN ?_ _) | (with_reducible refine Kd.C_drew ?_))); (case side2 => exact HC0.out); rintro e w39 ⟨rfl, hb⟩; refine ⟨_, rfl, ?_⟩; have n0_ := Aside0.mk (below_step (hb_ HB.out) hb); clear HB; have HB := n0_; clear n0_; (try clear hb); (try clear hb2); (try clear hk); (try clear hi)) | ((with_reducible refine gate_callee (f := 40) rfl ?_); refine goesL_ (some 34) rfl rfl Tryd.func40 (by kernel_rfl) rfl #[.string a1] rfl (by (try simp only [List.map_toArray, List.map_cons, List.map_nil]); first | done | rfl | (simp only [List.length_drop, List.length_take]; rfl)) ?_; (with_reducible refine (refs_Parse.calls kj2 a1 t114 t115 _ ?side1 A11.out).mono ?_); (case side1 => exact GV.below hgv (hb_ HB.out)); rintro e w40 ⟨v116, rfl, ho0, hb⟩; refine ⟨_, rfl, ?_⟩; have n0_ := Aside0.mk (Kd.R_lower ho0 (below_size (hb_ HB.out))); have n1_ := Aside0.mk (below_step (hb_ HB.out) hb); clear HB; have HO117 := n0_; have HB := n1_; clear n0_ n1_; (try clear hb); (try clear hb2); (try clear hk); (try clear hi); (try clear ho0)) | ((with_reducible refine gate_callee (f := 41) rfl ?_); refine goesL_ (some 39) rfl rfl Tryd.func41 (by kernel_rfl) rfl #[.string a1] rfl (by (try simp only [List.map_toArray, List.map_cons, List.map_nil]); first | done | rfl | (simp only [List.length_drop, List.length_take]; rfl)) ?_; (with_reducible refine (graftageref37_Parse.calls kj2 a1 t118 t119 _ A12.out).mono ?_); rintro e w41 ⟨v120, rfl, ho0, hb⟩; refine ⟨_, rfl, ?_⟩; have n0_ := Aside0.mk (Kd.R_elder' (rk_ HO117.out) (Kd.R_base ho0) hb); have n1_ := Aside0.mk (Kd.R_lower (Kd.R_new' ho0 (Kd.R_lt (rk_ HO117.out))) (below_size (hb_ HB.out))); have n2_ := Aside0.mk (below_step (hb_ HB.out) hb); clear HO117; clear HB; have HO117 := n0_; have HO121 := n1_; have HB := n2_; clear n0_ n1_ n2_; (try clear hb); (try clear hb2); (try clear hk); (try clear hi); (try clear ho0)))
      go_ret
      exact ⟨by first | rfl | (simp [errW_none, errW_some] <;> rfl) | (simp [*, errW_none, errW_some] <;> rfl) | (simp [ne_nil_bool]; done) | (simp [*, ne_nil_bool]; done), hb_ HB.out⟩
    ·rw [if_neg c13] at H
     have c13b0 : (t110.toList == t112.toList) = false := beq_eq_false_iff_ne.mpr c13
     have c13b1 : (t110.toList != t112.toList) = true := bne_iff_ne.mpr c13
     obtain rfl := Option.some.inj H
     go_wp2_with (first | ((with_reducible refine gate_callee (f := 38) rfl ?_); refine goesL_ (some 24) rfl rfl Tryd.func38 (by kernel_rfl) rfl #[.slice A0 l0.length c0] rfl (by (try simp only [List.map_toArray, List.map_cons, List.map_nil]); first | done | rfl | (simp only [List.length_drop, List.length_take]; rfl)) ?_; (with_reducible refine (refs_Text.calls kj2 _ _ l0 t110 t111 _ ?side1 ?side2 ?side3 A9.out).mono ?_); (case side1 => repeat (first | exact (Kd.C_below HR0.out HB.out) | (with_reducible refine Kd.C_alloc ?_ _) | (with_reducible refine Kd.C_drewN ?_ _) | (with_reducible refine Kd.C_drew ?_))); (case side2 => exact HC0.out); (case side3 => exact GV.below hgv (hb_ HB.out)); rintro e w42 ⟨rfl, hb⟩; refine ⟨_, rfl, ?_⟩; have n0_ := Aside0.mk (below_step (hb_ HB.out) hb); clear HB; have HB := n0_; clear n0_; (try clear hb); (try clear hb2); (try clear hk); (try clear hi)) | ((with_reducible refine gate_callee (f := 39) rfl ?_); refine goesL_ (some 29) rfl rfl Tryd.func39 (by kernel_rfl) rfl #[.slice A0 l0.length c0] rfl (by (try simp only [List.map_toArray, List.map_cons, List.map_nil]); first | done | rfl | (simp only [List.length_drop, List.length_take]; rfl)) ?_; (with_reducible refine (graftageref37_Text.calls kj2 _ _ l0 t112 t113 _ ?side1 ?side2 A10.out).mono ?_); (case side1 => repeat (first | exact (Kd.C_below HR0.out HB.out) | (with_reducible refine Kd.C_alloc ?_ _) | (with_reducible refine Kd.C_drewN ?_ _) | (with_reducible refine Kd.C_drew ?_))); (case side2 => exact HC0.out); rintro e w43 ⟨rfl, hb⟩; refine ⟨_, rfl, ?_⟩; have n0_ := Aside0.mk (below_step (hb_ HB.out) hb); clear HB; have HB := n0_; clear n0_; (try clear hb); (try clear hb2); (try clear hk); (try clear hi)) | ((with_reducible refine gate_callee (f := 40) rfl ?_); refine goesL_ (some 34) rfl rfl Tryd.func40 (by kernel_rfl) rfl #[.string a1] rfl (by (try simp only [List.map_toArray, List.map_cons, List.map_nil]); first | done | rfl | (simp only [List.length_drop, List.length_take]; rfl)) ?_; (with_reducible refine (refs_Parse.calls kj2 a1 t114 t115 _ ?side1 A11.out).mono ?_); (case side1 => exact GV.below hgv (hb_ HB.out)); rintro e w44 ⟨v116, rfl, ho0, hb⟩; refine ⟨_, rfl, ?_⟩; have n0_ := Aside0.mk (Kd.R_lower ho0 (below_size (hb_ HB.out))); have n1_ := Aside0.mk (below_step (hb_ HB.out) hb); clear HB; have HO117 := n0_; have HB := n1_; clear n0_ n1_; (try clear hb); (try clear hb2); (try clear hk); (try clear hi); (try clear ho0)) | ((with_reducible refine gate_callee (f := 41) rfl ?_); refine goesL_ (some 39) rfl rfl Tryd.func41 (by kernel_rfl) rfl #[.string a1] rfl (by (try simp only [List.map_toArray, List.map_cons, List.map_nil]); first | done | rfl | (simp only [List.length_drop, List.length_take]; rfl)) ?_; (with_reducible refine (graftageref37_Parse.calls kj2 a1 t118 t119 _ A12.out).mono ?_); rintro e w45 ⟨v120, rfl, ho0, hb⟩; refine ⟨_, rfl, ?_⟩; have n0_ := Aside0.mk (Kd.R_elder' (rk_ HO117.out) (Kd.R_base ho0) hb); have n1_ := Aside0.mk (Kd.R_lower (Kd.R_new' ho0 (Kd.R_lt (rk_ HO117.out))) (below_size (hb_ HB.out))); have n2_ := Aside0.mk (below_step (hb_ HB.out) hb); clear HO117; clear HB; have HO117 := n0_; have HO121 := n1_; have HB := n2_; clear n0_ n1_ n2_; (try clear hb); (try clear hb2); (try clear hk); (try clear hi); (try clear ho0)))
     go_ret
     exact ⟨by first | rfl | (simp [errW_none, errW_some] <;> rfl) | (simp [*, errW_none, errW_some] <;> rfl) | (simp [ne_nil_bool]; done) | (simp [*, ne_nil_bool]; done), hb_ HB.out⟩

end Go.Proofs.YtccbpbdfihnlgaaDoor.Q


/- Paths: the parts between slashes, and what is a path; the program's and the reference's. -/
namespace Go.Proofs.YtccbpbdfihnlgaaDoor.Q
open Go.RowKit Go.Proofs.YtccbpbdfihnlgaaDoorW.PrintWords Go.Proofs.YtccbpbdfihnlgaaDoorW.PrintLast Go.Proofs.YtccbpbdfihnlgaaDoorW.PrintMore

theorem wrap_id {x : Int} (h0 : -9223372036854775808 ≤ x) (h1 : x ≤ 9223372036854775807) : wrap64 x = x := by unfold wrap64; omega
theorem rd_ext (l : List ByteArray) (i : Nat) (h : i < l.length) : rdOf ByteArray.empty l i = l[i] := by
  simp [rdOf, List.getD, List.getElem?_eq_getElem h]
theorem ba_ext {a b : ByteArray} (h : a.data.toList = b.data.toList) : a = b := by
  cases a; cases b; simp at h; simp [h]
/-! ### Parts -/
def consH (b : UInt8) : List (List UInt8) → List (List UInt8)
  | [] => [[b]]
  | h :: t => (b :: h) :: t
def partsL : List UInt8 → List (List UInt8)
  | [] => [[]]
  | b :: r => if b = 47 then [] :: partsL r else consH b (partsL r)
theorem partsL_ne (l : List UInt8) : partsL l ≠ [] := by
  cases l with
  | nil => simp [partsL]
  | cons b r =>
    unfold partsL
    split
    · simp
    · cases partsL r <;> simp [consH]
theorem index_cons_ne (b c : UInt8) (l : List UInt8) (h : b ≠ c) : Lib.index (b :: l) [c] = if Lib.index l [c] == -1 then -1 else Lib.index l [c] + 1 := by
  have hp : ([c] : List UInt8).isPrefixOf (b :: l) = false := by simp [List.isPrefixOf, Ne.symm h]
  rw [Lib.index, hp]; simp
theorem splitK_cons (b : UInt8) (hb : b ≠ 47) : ∀ (n : Nat) (r : List UInt8), Lib.splitK [47] 0 n (b :: r) = consH b (Lib.splitK [47] 0 n r) := by
  intro n r
  cases n with
  | zero => rfl
  | succ n =>
    have hix := index_cons_ne b 47 r hb
    by_cases hm : Lib.index r [47] = -1
    · rw [if_pos (beq_iff_eq.2 hm)] at hix
      rw [Lib.splitK, if_pos (beq_iff_eq.2 hix), Lib.splitK, if_pos (beq_iff_eq.2 hm)]
      rfl
    · have hge := Lib.index_ge r [47]
      obtain ⟨j, hj⟩ : ∃ j : Nat, Lib.index r [47] = j := ⟨(Lib.index r [47]).toNat, by omega⟩
      rw [if_neg (fun e => hm (beq_iff_eq.1 e)), hj] at hix
      rw [Lib.splitK, if_neg (fun e => by have := beq_iff_eq.1 e; omega), Lib.splitK, if_neg (fun e => hm (beq_iff_eq.1 e)), hix, hj]
      rw [show ((j : Int) + 1).toNat = j + 1 by omega, show ((j : Int)).toNat = j by omega]
      simp [consH]
theorem splitK_parts : ∀ l : List UInt8, Lib.splitK [47] 0 (Lib.count l [47]) l = partsL l
  | [] => by rw [Lib.count_miss (by simp [Lib.index])]; rfl
  | b :: r => by
    by_cases h : b = 47
    · subst h
      have hix : Lib.index (47 :: r) [47] = ((0 : Nat) : Int) := by rw [Lib.index]; simp [List.isPrefixOf]
      rw [Lib.count_cons_eq, Nat.add_comm, Lib.splitK, if_neg (by rw [hix]; decide), hix]
      simp [partsL, splitK_parts r]
    · rw [Lib.count_cons_ne b 47 r h, splitK_cons b h, splitK_parts r, partsL, if_neg h]
theorem partsL_no47 : ∀ (l : List UInt8) (p : List UInt8), p ∈ partsL l → (47 : UInt8) ∉ p
  | [], p, hp => by simp [partsL] at hp; subst hp; simp
  | b :: r, p, hp => by
    unfold partsL at hp
    split at hp
    · rcases List.mem_cons.1 hp with rfl | hp
      · simp
      · exact partsL_no47 r p hp
    · rename_i hb
      have ih := partsL_no47 r
      cases hq : partsL r with
      | nil => exact absurd hq (partsL_ne r)
      | cons h t =>
        rw [hq] at hp ih
        rcases List.mem_cons.1 hp with rfl | hp
        · have := ih h List.mem_cons_self
          intro hm
          rcases List.mem_cons.1 hm with e | hm
          · exact hb e.symm
          · exact this hm
        · exact ih p (List.mem_cons_of_mem _ hp)
theorem partsL_length_le : ∀ l : List UInt8, (partsL l).length ≤ l.length + 1
  | [] => by simp [partsL]
  | b :: r => by
    have := partsL_length_le r
    unfold partsL
    split
    · simp; omega
    · cases hq : partsL r with
      | nil => simp [consH]
      | cons h t => rw [hq] at this; simp [consH] at this ⊢; omega

def partsB (s : ByteArray) : List ByteArray := (partsL s.data.toList).map (fun x => ⟨x.toArray⟩)
theorem map_data_inj {l l' : List ByteArray} (h : l.map (·.data.toList) = l'.map (·.data.toList)) : l = l' := by
  induction l generalizing l' with
  | nil => cases l' with
           | nil => rfl
           | cons _ _ => simp at h
  | cons x r ih =>
    cases l' with
    | nil => simp at h
    | cons y r' =>
      simp only [List.map_cons, List.cons.injEq] at h
      rw [ba_ext h.1, ih h.2]
theorem partsB_data (s : ByteArray) : (partsB s).map (·.data.toList) = partsL s.data.toList := by
  simp [partsB, Function.comp_def]
theorem split_parts (s : ByteArray) : Lib.splitB ⟨#[47]⟩ 0 (Lib.countB s ⟨#[47]⟩) s = partsB s := by
  apply map_data_inj
  rw [Lib.splitB_data, partsB_data]
  exact splitK_parts s.data.toList

def cutsF : Nat → ByteArray → Nat → Nat → List ByteArray
  | 0, s, fr, _ => [s.extract fr s.size]
  | d + 1, s, fr, i => if bt s i = 47 then s.extract fr i :: cutsF d s (i + 1) (i + 1) else cutsF d s fr (i + 1)
theorem bt_get (s : ByteArray) (i : Nat) (h : i < s.size) : bt s i = ((s.data.toList[i]'(by rw [← Lib.size_eq]; exact h)).toNat : Int) := by
  unfold bt
  simp only [Int.toNat_natCast]
  rw [dif_pos h]
  rfl
def preH (a : List UInt8) : List (List UInt8) → List (List UInt8)
  | [] => []
  | h :: t => (a ++ h) :: t
theorem cutsF_data (s : ByteArray) : ∀ (d fr i : Nat), i + d = s.size → fr ≤ i → (cutsF d s fr i).map (·.data.toList) = preH ((s.data.toList.drop fr).take (i - fr)) (partsL (s.data.toList.drop i)) := by
  intro d
  induction d with
  | zero =>
    intro fr i hi hf
    have hsz := Lib.size_eq s
    rw [List.drop_of_length_le (l := s.data.toList) (i := i) (by omega)]
    simp only [cutsF, List.map_cons, List.map_nil, partsL, preH, List.append_nil]
    rw [Lib.extract_to_end, List.take_of_length_le (by rw [List.length_drop]; omega)]
  | succ d ih =>
    intro fr i hi hf
    have hsz := Lib.size_eq s
    have hlt : i < s.data.toList.length := by omega
    rw [List.drop_eq_getElem_cons hlt]
    have hb := bt_get s i (by omega)
    have htk : (s.data.toList.drop fr).take (i + 1 - fr) = (s.data.toList.drop fr).take (i - fr) ++ [s.data.toList[i]] := by
      rw [show i + 1 - fr = (i - fr) + 1 by omega, List.take_succ_eq_append_getElem (by rw [List.length_drop]; omega)]
      simp [show fr + (i - fr) = i by omega]
    by_cases h : bt s i = 47
    · have h47 : s.data.toList[i] = 47 := by
        apply UInt8.toNat_inj.1
        rw [hb] at h
        show _ = 47
        omega
      rw [cutsF, if_pos h, h47, partsL, if_pos rfl]
      simp only [List.map_cons, preH, List.append_nil]
      rw [ih (i + 1) (i + 1) (by omega) (Nat.le_refl _), Lib.extract_data]
      have hne := partsL_ne (s.data.toList.drop (i + 1))
      cases hq : partsL (s.data.toList.drop (i + 1)) with
      | nil => exact absurd hq hne
      | cons a t => simp [preH]
    · have h47 : ¬ s.data.toList[i] = 47 := by
        intro e
        rw [hb, e] at h
        exact h rfl
      rw [cutsF, if_neg h, partsL, if_neg h47, ih fr (i + 1) (by omega) (by omega), htk]
      have hne := partsL_ne (s.data.toList.drop (i + 1))
      cases hq : partsL (s.data.toList.drop (i + 1)) with
      | nil => exact absurd hq hne
      | cons a t => simp [preH, consH]
theorem cutsF_parts (s : ByteArray) : cutsF s.size s 0 0 = partsB s := by
  apply map_data_inj
  rw [cutsF_data s s.size 0 0 (by omega) (Nat.le_refl _), partsB_data]
  have hne := partsL_ne s.data.toList
  cases hq : partsL s.data.toList with
  | nil => exact absurd hq hne
  | cons a t => simp [preH, hq]
theorem ref_Parts_l0 (s : ByteArray) (hs : s.size ≤ 4294967280) : ∀ (d k i fr : Nat) (acc : List ByteArray), i + d = s.size → fr ≤ i → acc.length ≤ i → d < k →
    graftageref06_Parts.l0 k s acc fr i = some (acc ++ cutsF d s fr i) := by
  intro d
  induction d with
  | zero =>
    intro k i fr acc hi hf ha hk
    obtain ⟨k, rfl⟩ : ∃ m, k = m + 1 := ⟨k - 1, by omega⟩
    simp only [graftageref06_Parts.l0]
    rw [if_neg (by omega), if_pos (by omega), if_pos (by omega), if_pos (by omega)]
    simp [cutsF]
  | succ d ih =>
    intro k i fr acc hi hf ha hk
    obtain ⟨k, rfl⟩ : ∃ m, k = m + 1 := ⟨k - 1, by omega⟩
    simp only [graftageref06_Parts.l0]
    rw [if_pos (by omega), if_pos (by omega), wrap_id (by omega) (by omega)]
    by_cases h : bt s i = 47
    · rw [if_pos h, if_pos (by omega), if_pos (by omega), if_pos (by omega), if_pos (by omega)]
      have := ih k (i + 1) (i + 1) (acc ++ [s.extract fr i]) (by omega) (Nat.le_refl _) (by simp; omega) (by omega)
      rw [cutsF, if_pos h]
      simpa using this
    · rw [if_neg h]
      have := ih k (i + 1) fr acc (by omega) (by omega) (by omega) (by omega)
      rw [cutsF, if_neg h]
      simpa using this
def pathParts (s : ByteArray) : List ByteArray := if s.toList = [] then [] else partsB s
theorem ref_Parts_ev (s : ByteArray) (hs : s.size ≤ 4294967280) : Ev (fun k => graftageref06_Parts.f k s) (pathParts s) := by
  unfold graftageref06_Parts.f pathParts
  by_cases h : s.toList = []
  · simp only [if_pos h]
    exact Ev.now _
  · simp only [if_neg h]
    refine Ev.of (g := fun k => graftageref06_Parts.l0 k s [] 0 0) (fun k => graftageref06_Parts.mono_l k _ _ _ _) (k := s.size + 1) ?_
    have := ref_Parts_l0 s hs s.size (s.size + 1) 0 0 [] (by omega) (Nat.le_refl _) (by simp) (by omega)
    rw [cutsF_parts] at this
    simpa using this
theorem split_eq (s : ByteArray) (hs : s.size ≤ 4294967280) : strings_Split.f s ⟨#[47]⟩ = some (partsB s) := by
  unfold strings_Split.f
  rw [if_pos ⟨rfl, by omega⟩, split_parts]
theorem path_Parts_eq (s : ByteArray) (hs : s.size ≤ 4294967280) : path_Parts.f s = some (pathParts s) := by
  unfold path_Parts.f pathParts
  by_cases h : s.toList = []
  · rw [if_pos h, if_pos h]
  · rw [if_neg h, if_neg h, split_eq s hs]
    rfl

/-! ### part, Is, Same -/
/-- A path's part, as far as both texts ask alike. -/
def partOK (s : ByteArray) : Bool := decide (1 ≤ s.size) && decide (s.size ≤ 64) && (s.toList != [46]) && (s.toList != [46, 46]) && (s.toList != [46, 103, 114, 97, 102, 116]) && s.data.toList.all (fun b => decide (32 ≤ b.toNat))
theorem all_drop (p : UInt8 → Bool) (l : List UInt8) (i : Nat) (h : i < l.length) : (l.drop i).all p = (p l[i] && (l.drop (i + 1)).all p) := by
  rw [List.drop_eq_getElem_cons h, List.all_cons]
theorem path_part_l0 (s : ByteArray) (hs : s.size ≤ 140737488351232) : ∀ (d k i : Nat), i + d = s.size → d < k → path_part.l0 k s s.size i = some ((s.data.toList.drop i).all (fun b => decide (32 ≤ b.toNat))) := by
  intro d
  induction d with
  | zero =>
    intro k i hi hk
    obtain ⟨k, rfl⟩ : ∃ m, k = m + 1 := ⟨k - 1, by omega⟩
    have hsz := Lib.size_eq s
    simp only [path_part.l0]
    rw [if_neg (by omega), List.drop_of_length_le (by omega)]
    rfl
  | succ d ih =>
    intro k i hi hk
    obtain ⟨k, rfl⟩ : ∃ m, k = m + 1 := ⟨k - 1, by omega⟩
    have hsz := Lib.size_eq s
    have := ih k (i + 1) (by omega) (by omega)
    simp only [path_part.l0]
    rw [if_pos (by omega), if_pos (by omega), if_pos (by omega), wrap_id (by omega) (by omega), all_drop _ _ i (by omega), bt_get s i (by omega)]
    by_cases h : (s.data.toList[i]'(by omega)).toNat < 32
    · rw [if_pos (by omega), decide_eq_false (show ¬ 32 ≤ (s.data.toList[i]'(by omega)).toNat by omega)]
      rfl
    · rw [if_neg (by omega), decide_eq_true (show 32 ≤ (s.data.toList[i]'(by omega)).toNat by omega), Bool.true_and]
      exact_mod_cast this
theorem ref_part_l0 (s : ByteArray) (hs : s.size ≤ 140737488351232) (h47 : (47 : UInt8) ∉ s.data.toList) : ∀ (d k i : Nat), i + d = s.size → d < k → graftageref06_part.l0 k s i = some ((s.data.toList.drop i).all (fun b => decide (32 ≤ b.toNat))) := by
  intro d
  induction d with
  | zero =>
    intro k i hi hk
    obtain ⟨k, rfl⟩ : ∃ m, k = m + 1 := ⟨k - 1, by omega⟩
    have hsz := Lib.size_eq s
    simp only [graftageref06_part.l0]
    rw [if_neg (by omega), List.drop_of_length_le (by omega)]
    rfl
  | succ d ih =>
    intro k i hi hk
    obtain ⟨k, rfl⟩ : ∃ m, k = m + 1 := ⟨k - 1, by omega⟩
    have hsz := Lib.size_eq s
    have := ih k (i + 1) (by omega) (by omega)
    have hne : ¬ (bt s i = 47) := by
      rw [bt_get s i (by omega)]
      intro e
      apply h47
      have : s.data.toList[i]'(by omega) = 47 := by
        apply UInt8.toNat_inj.1
        show _ = 47
        omega
      rw [← this]
      exact List.getElem_mem _
    simp only [graftageref06_part.l0]
    rw [if_pos (by omega), if_pos (by omega), if_neg hne, wrap_id (by omega) (by omega), all_drop _ _ i (by omega), bt_get s i (by omega)]
    by_cases h : (s.data.toList[i]'(by omega)).toNat < 32
    · rw [if_pos (by omega), decide_eq_false (show ¬ 32 ≤ (s.data.toList[i]'(by omega)).toNat by omega)]
      rfl
    · rw [if_neg (by omega), decide_eq_true (show 32 ≤ (s.data.toList[i]'(by omega)).toNat by omega), Bool.true_and]
      exact_mod_cast this
theorem path_part_eq (s : ByteArray) (hs : s.size ≤ 140737488351232) (k : Nat) (hk : s.size + 1 < k) : path_part.f k s = some (partOK s) := by
  obtain ⟨k, rfl⟩ : ∃ m, k = m + 1 := ⟨k - 1, by omega⟩
  have hl := path_part_l0 s hs s.size k 0 (by omega) (by omega)
  unfold path_part.f partOK
  by_cases h1 : s.size < 1
  · rw [if_pos (by omega), path_part.j0, if_pos rfl]; simp [show ¬ (1 ≤ s.size) by omega]
  rw [if_neg (by omega)]
  by_cases h2 : s.size > 64
  · rw [if_pos (by omega), path_part.j0, if_pos rfl]; simp [show ¬ (s.size ≤ 64) by omega]
  rw [if_neg (by omega)]
  by_cases h3 : s.toList = [46]
  · rw [if_pos h3, path_part.j0, if_pos rfl]; simp [h3]
  rw [if_neg h3]
  by_cases h4 : s.toList = [46, 46]
  · rw [if_pos h4, path_part.j0, if_pos rfl]; simp [h4]
  rw [if_neg h4, path_part.j0]
  by_cases h5 : s.toList = [46, 103, 114, 97, 102, 116]
  · rw [if_pos (by simp [h5])]; simp [h5]
  · rw [if_neg (by simp [h5]), show (0 : Int) = ((0 : Nat) : Int) from rfl, hl]
    simp [h3, h4, h5, show 1 ≤ s.size by omega, show s.size ≤ 64 by omega]
theorem ref_part_eq (s : ByteArray) (hs : s.size ≤ 140737488351232) (h47 : (47 : UInt8) ∉ s.data.toList) (k : Nat) (hk : s.size + 1 < k) : graftageref06_part.f k s = some (partOK s) := by
  obtain ⟨k, rfl⟩ : ∃ m, k = m + 1 := ⟨k - 1, by omega⟩
  have hl := ref_part_l0 s hs h47 s.size k 0 (by omega) (by omega)
  unfold graftageref06_part.f partOK
  by_cases h1 : s.size < 1
  · rw [if_pos (by omega), graftageref06_part.j0, if_pos rfl]; simp [show ¬ (1 ≤ s.size) by omega]
  rw [if_neg (by omega)]
  by_cases h2 : s.size > 64
  · rw [if_pos (by omega), graftageref06_part.j0, if_pos rfl]; simp [show ¬ (s.size ≤ 64) by omega]
  rw [if_neg (by omega)]
  by_cases h3 : s.toList = [46]
  · rw [if_pos h3, graftageref06_part.j0, if_pos rfl]; simp [h3]
  rw [if_neg h3]
  by_cases h4 : s.toList = [46, 46]
  · rw [if_pos h4, graftageref06_part.j0, if_pos rfl]; simp [h4]
  rw [if_neg h4, graftageref06_part.j0]
  by_cases h5 : s.toList = [46, 103, 114, 97, 102, 116]
  · rw [if_pos (by simp [h5])]; simp [h5]
  · rw [if_neg (by simp [h5]), show (0 : Int) = ((0 : Nat) : Int) from rfl, hl]
    simp [h3, h4, h5, show 1 ≤ s.size by omega, show s.size ≤ 64 by omega]
/-- A loop that asks each element, with rounds for each. -/
theorem all_ext (p : ByteArray → Bool) (l : List ByteArray) (i : Nat) (h : i < l.length) : (l.drop i).all p = (p l[i] && (l.drop (i + 1)).all p) := by
  rw [List.drop_eq_getElem_cons h, List.all_cons]
theorem path_Is_l0 (l : List ByteArray) (B : Nat) (hB : B ≤ 140737488351232) (hl : ∀ x ∈ l, x.size ≤ B) (hn : l.length ≤ 140737488351232) : ∀ (d k i : Nat), i + d = l.length → d + B + 2 ≤ k →
    path_Is.l0 k l l l.length i = some ((l.drop i).all partOK && decide (l.length ≤ 16)) := by
  intro d
  induction d with
  | zero =>
    intro k i hi hk
    obtain ⟨k, rfl⟩ : ∃ m, k = m + 1 := ⟨k - 1, by omega⟩
    simp only [path_Is.l0]
    rw [if_neg (by omega), List.drop_of_length_le (by omega), List.all_nil, Bool.true_and, decide_eq_decide.2 (show ((l.length : Int) ≤ 16) ↔ l.length ≤ 16 by omega)]
  | succ d ih =>
    intro k i hi hk
    obtain ⟨k, rfl⟩ : ∃ m, k = m + 1 := ⟨k - 1, by omega⟩
    have hi' : i < l.length := by omega
    have := ih k (i + 1) (by omega) (by omega)
    have hsz := hl _ (List.getElem_mem hi')
    simp only [path_Is.l0]
    rw [if_pos (by omega), if_pos (by omega), if_pos (by omega), rd_ext l i hi', path_part_eq _ (by omega) k (by omega), wrap_id (by omega) (by omega), all_ext _ _ i hi']
    simp only [Option.bind_some]
    by_cases h : partOK l[i] = true
    · rw [if_pos h, h]
      simpa using this
    · rw [if_neg h]
      simp [h]
theorem partsB_size (s : ByteArray) : ∀ x ∈ partsB s, x.size ≤ s.size := by
  have key : ∀ (l : List UInt8), ∀ p ∈ partsL l, p.length ≤ l.length := by
    intro l
    induction l with
    | nil => intro p hp; simp [partsL] at hp; simp [hp]
    | cons b r ih =>
      intro p hp
      unfold partsL at hp
      split at hp
      · rcases List.mem_cons.1 hp with rfl | hp
        · simp
        · have := ih p hp; simp; omega
      · cases hq : partsL r with
        | nil => exact absurd hq (partsL_ne r)
        | cons h t =>
          rw [hq] at hp ih
          rcases List.mem_cons.1 hp with rfl | hp
          · have := ih h List.mem_cons_self; simp; omega
          · have := ih p (List.mem_cons_of_mem _ hp); simp; omega
  intro x hx
  obtain ⟨p, hp, rfl⟩ := List.mem_map.1 hx
  have := key _ p hp
  rw [Lib.size_eq s]
  show p.toArray.size ≤ _
  rw [List.size_toArray]
  exact this
theorem partsB_no47 (s : ByteArray) : ∀ x ∈ partsB s, (47 : UInt8) ∉ x.data.toList := by
  intro x hx
  obtain ⟨p, hp, rfl⟩ := List.mem_map.1 hx
  simpa using partsL_no47 _ p hp
theorem partsB_length_le (s : ByteArray) : (partsB s).length ≤ s.size + 1 := by
  have := partsL_length_le s.data.toList
  rw [Lib.size_eq s]
  simpa [partsB] using this
def isPath (s : ByteArray) : Bool := (s.toList != []) && decide (s.size ≤ 255) && ((partsB s).all partOK && decide ((partsB s).length ≤ 16))
theorem path_Is_ev (s : ByteArray) : Ev (fun k => path_Is.f k s) (isPath s) := by
  refine Ev.of (fun k => path_Is.mono s k) (k := 1000) ?_
  show path_Is.f (999 + 1) s = _
  unfold path_Is.f isPath
  by_cases h : s.toList = []
  · rw [if_pos h, path_Is.j0, if_pos rfl]; simp [h]
  · rw [if_neg h, path_Is.j0]
    by_cases h2 : s.size ≤ 255
    · rw [if_neg (by simp; omega), split_eq s (by omega)]
      simp only [Option.bind_some]
      have hn := partsB_length_le s
      rw [show (0 : Int) = ((0 : Nat) : Int) from rfl, path_Is_l0 (partsB s) 255 (by omega) (fun x hx => Nat.le_trans (partsB_size s x hx) h2) (by omega) (partsB s).length 999 0 (by omega) (by omega)]
      simp [h, h2]
    · rw [if_pos (by simp; omega)]
      simp [h2]
theorem ref_Is_l0 (l : List ByteArray) (B : Nat) (hB : B ≤ 140737488351232) (hl : ∀ x ∈ l, x.size ≤ B) (h47 : ∀ x ∈ l, (47 : UInt8) ∉ x.data.toList) (hn : l.length ≤ 140737488351232) : ∀ (d k i : Nat), i + d = l.length → d + B + 2 ≤ k →
    graftageref06_Is.l0 k l i = some ((l.drop i).all partOK) := by
  intro d
  induction d with
  | zero =>
    intro k i hi hk
    obtain ⟨k, rfl⟩ : ∃ m, k = m + 1 := ⟨k - 1, by omega⟩
    simp only [graftageref06_Is.l0]
    rw [if_neg (by omega), List.drop_of_length_le (by omega)]
    simp
  | succ d ih =>
    intro k i hi hk
    obtain ⟨k, rfl⟩ : ∃ m, k = m + 1 := ⟨k - 1, by omega⟩
    have hi' : i < l.length := by omega
    have := ih k (i + 1) (by omega) (by omega)
    have hsz := hl _ (List.getElem_mem hi')
    simp only [graftageref06_Is.l0]
    rw [if_pos (by omega), if_pos (by omega), rd_ext l i hi', ref_part_eq _ (by omega) (h47 _ (List.getElem_mem hi')) k (by omega), wrap_id (by omega) (by omega), all_ext _ _ i hi']
    simp only [Option.bind_some]
    by_cases h : partOK l[i] = true
    · rw [if_pos h, h]
      simpa using this
    · rw [if_neg h]
      simp [h]
theorem ref_Is_ev (s : ByteArray) (hs : s.size ≤ 4294967280) : Ev (fun k => graftageref06_Is.f k s) (isPath s) := by
  refine Ev.bind (ref_Parts_ev s hs) ?_
  unfold isPath pathParts
  by_cases h : s.toList = []
  · have e1 : (([] : List ByteArray).length : Int) < 1 := by simp
    simp only [if_pos h, if_pos e1]
    refine Ev.step (f := fun _ => some false) (fun k => by rw [graftageref06_Is.j0, if_pos rfl]) ?_
    simp only [h, bne_self_eq_false, Bool.false_and]
    exact Ev.now _
  · have hne : (partsB s).length ≠ 0 := by
      simp [partsB, partsL_ne]
    have e1 : ¬ ((partsB s).length : Int) < 1 := by omega
    simp only [if_neg h, if_neg e1]
    by_cases h16 : (partsB s).length > 16
    · have e2 : ((partsB s).length : Int) > 16 := by omega
      simp only [if_pos e2]
      refine Ev.step (f := fun _ => some false) (fun k => by rw [graftageref06_Is.j0, if_pos rfl]) ?_
      simp only [show decide ((partsB s).length ≤ 16) = false by simp; omega, Bool.and_false]
      exact Ev.now _
    · have e2 : ¬ ((partsB s).length : Int) > 16 := by omega
      simp only [if_neg e2]
      by_cases h2 : s.size ≤ 255
      · refine Ev.step (f := fun k => graftageref06_Is.l0 k (partsB s) 0) (fun k => by rw [graftageref06_Is.j0, if_neg (by simp; omega)]) ?_
        refine Ev.of (fun k => (graftageref06_Is.mono_l k).2 _ _) (k := (partsB s).length + 255 + 2) ?_
        have hn := partsB_length_le s
        rw [show (0 : Int) = ((0 : Nat) : Int) from rfl, ref_Is_l0 (partsB s) 255 (by omega) (fun x hx => Nat.le_trans (partsB_size s x hx) h2) (partsB_no47 s) (by omega) (partsB s).length _ 0 (by omega) (by omega)]
        have b1 : (s.toList != []) = true := by simpa using h
        rw [List.drop_zero, b1, decide_eq_true h2, decide_eq_true (show (partsB s).length ≤ 16 by omega)]
        simp
      · refine Ev.step (f := fun _ => some false) (fun k => by rw [graftageref06_Is.j0, if_pos (by simp; omega)]) ?_
        simp only [show decide (s.size ≤ 255) = false by simp; omega, Bool.and_false, Bool.false_and]
        exact Ev.now _
end Go.Proofs.YtccbpbdfihnlgaaDoor.Q


/- Contracts of Go functions as calls of plain Lean functions, written by a program of this session over the kit's print. -/
namespace Go.Proofs.YtccbpbdfihnlgaaDoor.Q
open Go.RowKit Go.Proofs.YtccbpbdfihnlgaaDoorW.PrintWords Go.Proofs.YtccbpbdfihnlgaaDoorW.PrintLast Go.Proofs.YtccbpbdfihnlgaaDoorW.PrintMore
attribute [local go_sem] max2_int min2_int max_two min_two max_three min_three max_four min_four   -- for this text's walks alone

def ident_Raw.T7 : Bool × List (List Nat × List Nat) := (true, [([], []), ([], []), ([], []), ([], []), ([3], [3]), ([2, 4], [2, 4]), ([5], [5]), ([6], [6]), ([], []), ([], []), ([9], [9]), ([10], [10]), ([8, 11], [8, 11]), ([12, 6], [12]), ([7, 13], [7, 13]), ([14], [14]), ([0, 1, 0, 1, 2, 3, 4, 5, 6, 7, 8, 9, 10, 11, 12, 13, 14, 15], [0, 1]), ([16, 15, 13, 0, 1, 2, 3, 4, 5, 6, 7, 8, 9, 10, 11, 12, 13, 14, 15], [15, 16])])
def ident_Raw.B7 : List Nat := [0, 0, 0, 0, 8, 28, 60, 124, 0, 0, 512, 1536, 3840, 8060, 16380, 32764, 65535, 131071]
theorem ident_Raw.tab7 : rtab .any (opsOf Tryd.f49 7) = ident_Raw.T7 := by kernel_rfl
theorem ident_Raw.bits7 : waitsOk ident_Raw.T7.2 ident_Raw.B7 = true := by kernel_rfl
end Go.Proofs.YtccbpbdfihnlgaaDoor.Q


/- Contracts of Go functions as calls of plain Lean functions, written by a program of this session over the kit's print. -/
namespace Go.Proofs.YtccbpbdfihnlgaaDoor.Q
open Go.RowKit Go.Proofs.YtccbpbdfihnlgaaDoorW.PrintWords Go.Proofs.YtccbpbdfihnlgaaDoorW.PrintLast Go.Proofs.YtccbpbdfihnlgaaDoorW.PrintMore
attribute [local go_sem] max2_int min2_int max_two min_two max_three min_three max_four min_four   -- for this text's walks alone

end Go.Proofs.YtccbpbdfihnlgaaDoor.Q


/- Contracts of Go functions as calls of plain Lean functions, written by a program of this session over the kit's print. -/
namespace Go.Proofs.YtccbpbdfihnlgaaDoor.Q
open Go.RowKit Go.Proofs.YtccbpbdfihnlgaaDoorW.PrintWords Go.Proofs.YtccbpbdfihnlgaaDoorW.PrintLast Go.Proofs.YtccbpbdfihnlgaaDoorW.PrintMore
attribute [local go_sem] max2_int min2_int max_two min_two max_three min_three max_four min_four   -- for this text's walks alone

def graftageref02_Raw.T7 : Bool × List (List Nat × List Nat) := (true, [([], []), ([], []), ([], []), ([1, 2], [1, 2]), ([3], [3]), ([4], [4]), ([], []), ([], []), ([7], [7]), ([6, 8], [6, 8]), ([9, 4], [9]), ([5, 10], [5, 10]), ([11], [11]), ([12], [12]), ([0, 13, 10], [0, 13]), ([14, 14, 0, 1, 2, 3, 4, 5, 6, 7, 8, 9, 10, 11, 12, 13, 14], [0, 14])])
def graftageref02_Raw.B7 : List Nat := [0, 0, 0, 6, 14, 30, 0, 0, 128, 448, 990, 2046, 4094, 8190, 16383, 32767]
theorem graftageref02_Raw.tab7 : rtab .any (opsOf Tryd.f53 7) = graftageref02_Raw.T7 := by kernel_rfl
theorem graftageref02_Raw.bits7 : waitsOk graftageref02_Raw.T7.2 graftageref02_Raw.B7 = true := by kernel_rfl
end Go.Proofs.YtccbpbdfihnlgaaDoor.Q


/- Contracts of Go functions as calls of plain Lean functions, written by a program of this session over the kit's print. -/
namespace Go.Proofs.YtccbpbdfihnlgaaDoor.Q
open Go.RowKit Go.Proofs.YtccbpbdfihnlgaaDoorW.PrintWords Go.Proofs.YtccbpbdfihnlgaaDoorW.PrintLast Go.Proofs.YtccbpbdfihnlgaaDoorW.PrintMore
attribute [local go_sem] max2_int min2_int max_two min_two max_three min_three max_four min_four   -- for this text's walks alone

def graftageref02_Hex.T6 : Bool × List (List Nat × List Nat) := (true, [([], []), ([], []), ([], []), ([], []), ([2, 3], [2, 3]), ([4], [4]), ([1, 5], [1, 5]), ([], []), ([], []), ([], []), ([8, 9], [8, 9]), ([10], [10]), ([7, 11], [7, 11]), ([6, 12], [6, 12]), ([0, 13], [0, 13]), ([14, 14, 0, 1, 2, 3, 4, 5, 6, 7, 8, 9, 10, 11, 12, 13, 14], [0, 14])])
def graftageref02_Hex.B6 : List Nat := [0, 0, 0, 0, 12, 28, 62, 0, 0, 0, 768, 1792, 3968, 8190, 16383, 32767]
theorem graftageref02_Hex.tab6 : rtab .any (opsOf Tryd.f110 6) = graftageref02_Hex.T6 := by kernel_rfl
theorem graftageref02_Hex.bits6 : waitsOk graftageref02_Hex.T6.2 graftageref02_Hex.B6 = true := by kernel_rfl
end Go.Proofs.YtccbpbdfihnlgaaDoor.Q


/- Ids: digits, bytes and their digits; the program's and the reference's. -/
namespace Go.Proofs.YtccbpbdfihnlgaaDoor.Q
open Go.RowKit Go.Proofs.YtccbpbdfihnlgaaDoorW.PrintWords Go.Proofs.YtccbpbdfihnlgaaDoorW.PrintLast Go.Proofs.YtccbpbdfihnlgaaDoorW.PrintMore

def hexD : List UInt8 := [48, 49, 50, 51, 52, 53, 54, 55, 56, 57, 97, 98, 99, 100, 101, 102]
/-- A digit's value; -1. -/
def dv (b : Int) : Int := Lib.indexByte hexD b.toNat.toUInt8
theorem dv_table : ∀ n : Fin 256, graftageref02_Digit.f 2 (n.val : Int) = some (dv (n.val : Int)) ∧ -1 ≤ dv (n.val : Int) ∧ dv (n.val : Int) ≤ 15 := by decide +kernel
theorem bt_fin (s : ByteArray) (i : Int) : ∃ n : Fin 256, bt s i = (n.val : Int) := by
  obtain ⟨h0, h1⟩ := bt_range s i
  exact ⟨⟨(bt s i).toNat, by omega⟩, by simp; omega⟩
theorem value_eq (b : Int) : ident_value.f b = some (dv b) := rfl
theorem Digit_bt (s : ByteArray) (i : Int) (k : Nat) (hk : 2 ≤ k) : graftageref02_Digit.f k (bt s i) = some (dv (bt s i)) := by
  obtain ⟨n, hn⟩ := bt_fin s i
  rw [hn]
  exact at_rounds (fun k => graftageref02_Digit.mono _ k) hk (dv_table n).1
/-- Are all digits, from a place on? -/
def hexF (s : ByteArray) : Nat → Nat → Bool
  | 0, _ => true
  | d + 1, i => decide (0 ≤ dv (bt s i)) && hexF s d (i + 1)
theorem all_l0 (s : ByteArray) (hs : s.size ≤ 140737488351232) : ∀ (d k i : Nat), i + d = s.size → d < k → ident_all.l0 k s s.size i = some (hexF s d i) := by
  intro d
  induction d with
  | zero =>
    intro k i hi hk
    obtain ⟨k, rfl⟩ : ∃ m, k = m + 1 := ⟨k - 1, by omega⟩
    simp only [ident_all.l0]
    rw [if_neg (by omega)]; rfl
  | succ d ih =>
    intro k i hi hk
    obtain ⟨k, rfl⟩ : ∃ m, k = m + 1 := ⟨k - 1, by omega⟩
    have := ih k (i + 1) (by omega) (by omega)
    simp only [ident_all.l0]
    rw [if_pos (by omega), if_pos (by omega), if_pos (by omega), value_eq, wrap_id (by omega) (by omega)]
    simp only [Option.bind_some]
    rw [hexF]
    by_cases h : dv (bt s i) < 0
    · rw [if_pos h, decide_eq_false (by omega)]; rfl
    · rw [if_neg h, decide_eq_true (by omega), Bool.true_and]; exact_mod_cast this
theorem digits_l0 (s : ByteArray) (hs : s.size ≤ 140737488351232) : ∀ (d k i : Nat), i + d = s.size → d + 2 < k → graftageref02_digits.l0 k s i = some (hexF s d i) := by
  intro d
  induction d with
  | zero =>
    intro k i hi hk
    obtain ⟨k, rfl⟩ : ∃ m, k = m + 1 := ⟨k - 1, by omega⟩
    simp only [graftageref02_digits.l0]
    rw [if_neg (by omega)]; rfl
  | succ d ih =>
    intro k i hi hk
    obtain ⟨k, rfl⟩ : ∃ m, k = m + 1 := ⟨k - 1, by omega⟩
    have := ih k (i + 1) (by omega) (by omega)
    simp only [graftageref02_digits.l0]
    rw [if_pos (by omega), if_pos (by omega), Digit_bt s i k (by omega), wrap_id (by omega) (by omega)]
    simp only [Option.bind_some]
    rw [hexF]
    by_cases h : dv (bt s i) < 0
    · rw [if_pos h, decide_eq_false (by omega)]; rfl
    · rw [if_neg h, decide_eq_true (by omega), Bool.true_and]; exact_mod_cast this
def idOk (s : ByteArray) : Bool := decide (s.size = 40) && hexF s s.size 0
theorem ident_Is_ev (s : ByteArray) : Ev (fun k => ident_Is.f k s) (idOk s) := by
  unfold idOk
  by_cases h : s.size = 40
  · refine Ev.congr (f := fun k => (ident_all.f k s).bind fun t => some t) (fun k => by unfold ident_Is.f; rw [if_pos (by omega)]) ?_
    refine Ev.bind (Ev.of (fun k => ident_all.mono s k) (k := 60) (r := hexF s s.size 0) ?_) ?_
    · unfold ident_all.f
      exact_mod_cast all_l0 s (by omega) s.size 60 0 (by omega) (by omega)
    · rw [decide_eq_true h, Bool.true_and]; exact Ev.now _
  · refine Ev.congr (f := fun _ => some false) (fun k => by unfold ident_Is.f; rw [if_neg (by omega)]) ?_
    rw [decide_eq_false h, Bool.false_and]; exact Ev.now _
theorem ref_idIs_ev (s : ByteArray) : Ev (fun k => graftageref02_Is.f k s) (idOk s) := by
  unfold idOk
  by_cases h : s.size = 40
  · refine Ev.congr (f := fun k => (graftageref02_digits.f k s).bind fun t => some t) (fun k => by unfold graftageref02_Is.f; rw [if_pos (by omega)]) ?_
    refine Ev.bind (Ev.of (fun k => graftageref02_digits.mono s k) (k := 60) (r := hexF s s.size 0) ?_) ?_
    · unfold graftageref02_digits.f
      exact_mod_cast digits_l0 s (by omega) s.size 60 0 (by omega) (by omega)
    · rw [decide_eq_true h, Bool.true_and]; exact Ev.now _
  · refine Ev.congr (f := fun _ => some false) (fun k => by unfold graftageref02_Is.f; rw [if_neg (by omega)]) ?_
    rw [decide_eq_false h, Bool.false_and]; exact Ev.now _
theorem idOk_size {s : ByteArray} (h : idOk s = true) : s.size = 40 := by
  unfold idOk at h
  rw [Bool.and_eq_true, decide_eq_true_eq] at h
  exact h.1
/-! ### Hex -/
def hx (n : Int) : Int := bt (⟨#[48, 49, 50, 51, 52, 53, 54, 55, 56, 57, 97, 98, 99, 100, 101, 102]⟩ : ByteArray) n
end Go.Proofs.YtccbpbdfihnlgaaDoor.Q


/- Names of refs: both functions tell the same. -/
namespace Go.Proofs.YtccbpbdfihnlgaaDoor.Q
open Go.RowKit Go.Proofs.YtccbpbdfihnlgaaDoorW.PrintWords Go.Proofs.YtccbpbdfihnlgaaDoorW.PrintLast Go.Proofs.YtccbpbdfihnlgaaDoorW.PrintMore
theorem ev_iff {α : Type} {c : Prop} [Decidable c] {f g : Nat → Option α} {r : α} (h1 : c → Ev f r) (h2 : ¬ c → Ev g r) : Ev (fun k => if c then f k else g k) r := by
  by_cases h : c
  · simp only [if_pos h]; exact h1 h
  · simp only [if_neg h]; exact h2 h
/-! ### what is in a text -/
theorem contains_cons (x : UInt8) (l sub : List UInt8) : Lib.contains (x :: l) sub = (sub.isPrefixOf (x :: l) || Lib.contains l sub) := by
  have hge := Lib.index_ge l sub
  unfold Lib.contains
  rw [Lib.index]
  by_cases hp : sub.isPrefixOf (x :: l) = true
  · rw [if_pos hp, hp]; rfl
  · rw [if_neg hp]
    have : sub.isPrefixOf (x :: l) = false := Bool.eq_false_iff.2 hp
    rw [this, Bool.false_or]
    by_cases h1 : Lib.index l sub = -1
    · rw [if_pos (by simp [h1]), h1]
    · rw [if_neg (by simpa using h1)]
      by_cases h0 : 0 ≤ Lib.index l sub
      · rw [decide_eq_true h0, decide_eq_true (by omega)]
      · omega
theorem contains_two (a b : UInt8) : ∀ l : List UInt8, Lib.contains l [a, b] = true ↔ ∃ i, l[i]? = some a ∧ l[i + 1]? = some b
  | [] => by simp [Lib.contains, Lib.index]
  | x :: l => by
    rw [contains_cons, Bool.or_eq_true, contains_two a b l]
    constructor
    · rintro (h | ⟨i, h1, h2⟩)
      · cases l with
        | nil => simp [List.isPrefixOf] at h
        | cons y l =>
          simp [List.isPrefixOf] at h
          exact ⟨0, by simp [h.1], by simp [h.2]⟩
      · exact ⟨i + 1, by simpa using h1, by simpa using h2⟩
    · rintro ⟨i, h1, h2⟩
      cases i with
      | zero =>
        left
        cases l with
        | nil => simp at h2
        | cons y l =>
          simp at h1 h2
          simp [List.isPrefixOf, h1, h2]
      | succ i => exact .inr ⟨i, by simpa using h1, by simpa using h2⟩
theorem containsAny_cons (x : UInt8) (l cs : List UInt8) : Lib.containsAny (x :: l) cs = (cs.contains x || Lib.containsAny l cs) := by
  have hge := Lib.indexAny_ge cs l
  unfold Lib.containsAny
  rw [Lib.indexAny]
  by_cases hp : cs.contains x = true
  · rw [if_pos hp, hp]; rfl
  · rw [if_neg hp]
    have : cs.contains x = false := by simpa using hp
    rw [this, Bool.false_or]
    by_cases h1 : Lib.indexAny l cs = -1
    · rw [if_pos (by simp [h1]), h1]
    · rw [if_neg (by simpa using h1)]
      by_cases h0 : 0 ≤ Lib.indexAny l cs
      · rw [decide_eq_true h0, decide_eq_true (by omega)]
      · omega
theorem containsAny_any (cs : List UInt8) : ∀ l : List UInt8, Lib.containsAny l cs = l.any (fun b => cs.contains b)
  | [] => rfl
  | x :: l => by rw [containsAny_cons, containsAny_any cs l, List.any_cons]
/-! ### beginnings and ends -/
def preB (a b : ByteArray) : Bool := decide (b.size ≤ a.size) && ((a.extract 0 b.size).toList == b.toList)
def sufB (a b : ByteArray) : Bool := decide (b.size ≤ a.size) && ((a.extract (a.size - b.size) a.size).toList == b.toList)
theorem HasPrefix_is (a b : ByteArray) : strings_HasPrefix.f a b = some (preB a b) := by
  unfold strings_HasPrefix.f stringslite_HasPrefix.f preB
  by_cases h : b.size ≤ a.size
  · rw [if_pos (by omega), if_pos (by omega), if_pos (by omega), decide_eq_true h, Bool.true_and]; rfl
  · rw [if_neg (by omega), decide_eq_false h, Bool.false_and]; rfl
theorem begins_is (a b : ByteArray) : graftageref37_begins.f a b = some (preB a b) := by
  unfold graftageref37_begins.f preB
  by_cases h : b.size ≤ a.size
  · rw [if_pos (by omega), if_pos (by omega), if_pos (by omega), decide_eq_true h, Bool.true_and]
  · rw [if_neg (by omega), decide_eq_false h, Bool.false_and]
theorem HasSuffix_is (a b : ByteArray) (ha : a.size ≤ 140737488351232) : strings_HasSuffix.f a b = some (sufB a b) := by
  unfold strings_HasSuffix.f stringslite_HasSuffix.f sufB
  by_cases h : b.size ≤ a.size
  · rw [if_pos (by omega), wrap_id (by omega) (by omega), if_pos (by omega), if_pos (by omega), decide_eq_true h, Bool.true_and, show ((a.size : Int) - (b.size : Int)).toNat = a.size - b.size by omega]; rfl
  · rw [if_neg (by omega), decide_eq_false h, Bool.false_and]; rfl
theorem ends_is (a b : ByteArray) (ha : a.size ≤ 140737488351232) : graftageref37_ends.f a b = some (sufB a b) := by
  unfold graftageref37_ends.f sufB
  by_cases h : b.size ≤ a.size
  · rw [if_pos (by omega), wrap_id (by omega) (by omega), if_pos (by omega), if_pos (by omega), decide_eq_true h, Bool.true_and, show ((a.size : Int) - (b.size : Int)).toNat = a.size - b.size by omega]
  · rw [if_neg (by omega), decide_eq_false h, Bool.false_and]
/-! ### parts -/
def badPart (p : ByteArray) : Bool := preB p ⟨#[46]⟩ || sufB p ⟨#[46, 108, 111, 99, 107]⟩
theorem Name_1_eq (p : ByteArray) (hp : p.size ≤ 140737488351232) : refs_Name_1.f p = some (badPart p) := by
  unfold refs_Name_1.f badPart
  rw [HasPrefix_is, HasSuffix_is _ _ hp]
  simp only [Option.bind_some]
  by_cases h : preB p ⟨#[46]⟩ = true
  · rw [if_pos h, h, Bool.true_or]
  · rw [if_neg h]
    have : preB p ⟨#[46]⟩ = false := by simpa using h
    rw [this, Bool.false_or]
theorem Contains_l0 (l : List ByteArray) (f : ByteArray → Option Bool) (p : ByteArray → Bool) (hf : ∀ x ∈ l, f x = some (p x)) (hl : l.length ≤ 140737488351232) : ∀ (d i : Nat), i + d = l.length → ∃ q : Int, Ev (fun k => slices_IndexFunc_string_string.l0 k l f l.length i) q ∧ decide (q ≥ 0) = (l.drop i).any p := by
  intro d
  induction d with
  | zero =>
    intro i hi
    refine ⟨-1, Ev.step (f := fun _ => some (-1)) (fun k => by rw [slices_IndexFunc_string_string.l0, if_neg (by omega)]) (Ev.now _), ?_⟩
    rw [List.drop_of_length_le (by omega)]; rfl
  | succ d ih =>
    intro i hi
    have hlt : i < l.length := by omega
    have hm : f (rdOf ByteArray.empty l (i : Int)) = some (p l[i]) := by rw [rd_ext l i hlt]; exact hf _ (List.getElem_mem hlt)
    have hd : (l.drop i).any p = (p l[i] || (l.drop (i + 1)).any p) := by rw [List.drop_eq_getElem_cons hlt, List.any_cons]
    by_cases hp : p l[i] = true
    · refine ⟨(i : Int), Ev.step (f := fun _ => some (i : Int)) (fun k => by rw [slices_IndexFunc_string_string.l0, if_pos (by omega), if_pos (by omega), if_pos (by omega), hm, Option.bind_some, if_pos hp]) (Ev.now _), ?_⟩
      rw [hd, hp, decide_eq_true (by omega)]; rfl
    · obtain ⟨q, h1, h2⟩ := ih (i + 1) (by omega)
      refine ⟨q, Ev.step (f := fun k => slices_IndexFunc_string_string.l0 k l f l.length ((i : Int) + 1)) (fun k => by rw [slices_IndexFunc_string_string.l0, if_pos (by omega), if_pos (by omega), if_pos (by omega), hm, Option.bind_some, if_neg hp, wrap_id (by omega) (by omega)]) (by exact_mod_cast h1), ?_⟩
      have hp' : p l[i] = false := by simpa using hp
      rw [hd, hp', Bool.false_or, h2]
theorem ContainsFunc_ev (l : List ByteArray) (f : ByteArray → Option Bool) (p : ByteArray → Bool) (hf : ∀ x ∈ l, f x = some (p x)) (hl : l.length ≤ 140737488351232) : Ev (fun k => slices_ContainsFunc_string_string.f k l f) (l.any p) := by
  obtain ⟨q, h1, h2⟩ := Contains_l0 l f p hf hl l.length 0 (by omega)
  rw [List.drop_zero] at h2
  have h3 : Ev (fun k => slices_IndexFunc_string_string.f k l f) q := by exact_mod_cast h1
  refine Ev.bind h3 ?_
  rw [h2]
  exact Ev.now _
/-! ### a name -/
def barC : ByteArray := ⟨#[126, 94, 58, 63, 42, 91, 92, 127]⟩
def nameIn (s : ByteArray) : Bool := isPath s && (preB s ⟨#[114, 101, 102, 115, 47]⟩ && (!Lib.contains s.data.toList [46, 46] && (!Lib.contains s.data.toList [64, 123] && (!Lib.containsAny s.data.toList barC.data.toList && (s.data.toList.all (fun b => decide (32 < b.toNat)) && !(pathParts s).any badPart)))))
def nameB (s : ByteArray) : Bool := decide (s.toList = [72, 69, 65, 68]) || nameIn s
theorem isPath_size {s : ByteArray} (h : isPath s = true) : s.size ≤ 255 := by
  unfold isPath at h
  simp only [Bool.and_eq_true, decide_eq_true_eq] at h
  exact h.1.2
theorem isPath_parts {s : ByteArray} (h : isPath s = true) : ∀ p ∈ pathParts s, 1 ≤ p.size ∧ p.size ≤ 64 := by
  unfold isPath at h
  simp only [Bool.and_eq_true, decide_eq_true_eq] at h
  intro p hp
  unfold pathParts at hp
  split at hp
  · cases hp
  · have := List.all_eq_true.1 h.2.1 p hp
    unfold partOK at this
    simp only [Bool.and_eq_true, decide_eq_true_eq] at this
    exact ⟨this.1.1.1.1.1, this.1.1.1.1.2⟩
theorem pathParts_len {s : ByteArray} : (pathParts s).length ≤ s.size + 1 := by
  unfold pathParts
  split
  · simp
  · exact partsB_length_le s
theorem Name_l0 (s : ByteArray) (hp : isPath s = true) : ∀ (d i : Nat), i + d = s.size → Ev (fun k => refs_Name.l0 k s s.size i) ((s.data.toList.drop i).all (fun b => decide (32 < b.toNat)) && !(pathParts s).any badPart) := by
  have hs := isPath_size hp
  intro d
  induction d with
  | zero =>
    intro i hi
    rw [List.drop_of_length_le (by rw [← Lib.size_eq]; omega), List.all_nil, Bool.true_and]
    refine Ev.step (f := fun k => (slices_ContainsFunc_string_string.f k (pathParts s) (fun z0 => refs_Name_1.f z0)).bind fun t109 => some (!t109)) (fun k => by rw [refs_Name.l0, if_neg (by omega), path_Parts_eq s (by omega), Option.bind_some]) ?_
    have := pathParts_len (s := s)
    exact Ev.bind (ContainsFunc_ev (pathParts s) _ badPart (fun x hx => Name_1_eq x (by have := (isPath_parts hp x hx).2; omega)) (by omega)) (Ev.now _)
  | succ d ih =>
    intro i hi
    have hlt : i < s.size := by omega
    have hll : i < s.data.toList.length := by rw [← Lib.size_eq]; exact hlt
    have hb := bt_get s i hlt
    rw [List.drop_eq_getElem_cons hll, List.all_cons]
    by_cases hc : (bt s i) ≤ 32
    · have : decide (32 < (s.data.toList[i]'hll).toNat) = false := by rw [hb] at hc; exact decide_eq_false (by omega)
      rw [this, Bool.false_and, Bool.false_and]
      exact Ev.step (f := fun _ => some false) (fun k => by rw [refs_Name.l0, if_pos (by omega), if_pos (by omega), if_pos (by omega), if_pos hc]) (Ev.now _)
    · have : decide (32 < (s.data.toList[i]'hll).toNat) = true := by rw [hb] at hc; exact decide_eq_true (by omega)
      rw [this, Bool.true_and]
      refine Ev.step (f := fun k => refs_Name.l0 k s s.size ((i : Int) + 1)) (fun k => by rw [refs_Name.l0, if_pos (by omega), if_pos (by omega), if_pos (by omega), if_neg hc, wrap_id (by omega) (by omega)]) ?_
      exact_mod_cast ih (i + 1) (by omega)
theorem Name_ev (s : ByteArray) : Ev (fun k => refs_Name.f k s) (nameB s) := by
  unfold nameB
  refine ev_iff (fun h => ?_) (fun h => ?_)
  · rw [decide_eq_true h, Bool.true_or]; exact Ev.now _
  rw [decide_eq_false h, Bool.false_or]
  unfold nameIn
  have hF : Ev (fun k => refs_Name.j0 k s true) false := Ev.step (f := fun _ => some false) (fun k => by rw [refs_Name.j0, if_pos rfl]) (Ev.now _)
  refine Ev.bind (path_Is_ev s) ?_
  by_cases hp : isPath s = true
  case neg =>
    have : isPath s = false := by simpa using hp
    rw [this]
    simp only [Bool.false_eq_true, if_false, Bool.false_and]
    exact hF
  have hs := isPath_size hp
  rw [hp, Bool.true_and]
  simp only [if_true, HasPrefix_is, Option.bind_some]
  by_cases h1 : preB s ⟨#[114, 101, 102, 115, 47]⟩ = true
  case neg =>
    have : preB s ⟨#[114, 101, 102, 115, 47]⟩ = false := by simpa using h1
    rw [this]
    simp only [Bool.false_eq_true, if_false, Bool.false_and]
    exact hF
  rw [h1, Bool.true_and]
  simp only [if_true, strings_Contains2.f, show s.size < 4294967281 from by omega, Option.bind_some]
  by_cases h2 : Lib.contains s.data.toList [46, 46] = true
  · simp only [h2, if_true, Bool.not_true, Bool.false_and]; exact hF
  have h2' : Lib.contains s.data.toList [46, 46] = false := by simpa using h2
  simp only [h2', Bool.false_eq_true, if_false, Bool.not_false, Bool.true_and]
  by_cases h3 : Lib.contains s.data.toList [64, 123] = true
  · simp only [h3, if_true, Bool.not_true, Bool.false_and]; exact hF
  have h3' : Lib.contains s.data.toList [64, 123] = false := by simpa using h3
  simp only [h3', Bool.false_eq_true, if_false, Bool.not_false, Bool.true_and]
  have hany : strings_ContainsAny.f s (⟨#[126, 94, 58, 63, 42, 91, 92, 127]⟩ : ByteArray) = some (Lib.containsAny s.data.toList barC.data.toList) := by
    unfold strings_ContainsAny.f
    rw [if_pos (by omega), if_pos (by decide), if_pos (by decide)]
    rfl
  simp only [hany, Option.bind_some]
  by_cases h4 : Lib.containsAny s.data.toList barC.data.toList = true
  · rw [h4, Bool.not_true, Bool.false_and]; exact hF
  have h4' : Lib.containsAny s.data.toList barC.data.toList = false := by simpa using h4
  rw [h4', Bool.not_false, Bool.true_and]
  refine Ev.step (f := fun k => refs_Name.l0 k s s.size 0) (fun k => by rw [refs_Name.j0, if_neg (by decide)]) ?_
  have := Name_l0 s hp s.size 0 (by omega)
  rw [List.drop_zero] at this
  exact_mod_cast this
/-! ### the reference's -/
def barB (b : UInt8) : Bool := decide (b.toNat < 33) || barC.data.toList.contains b
theorem Barred_table : ∀ n : Fin 256, graftageref37_Barred.f (n.val : Int) = some (barB (UInt8.ofNat n.val)) := by decide +kernel
theorem Barred_bt (s : ByteArray) (i : Nat) (h : i < s.size) : graftageref37_Barred.f (bt s i) = some (barB (s.data.toList[i]'(by rw [← Lib.size_eq]; exact h))) := by
  rw [bt_get s i h]
  have := Barred_table ⟨(s.data.toList[i]'(by rw [← Lib.size_eq]; exact h)).toNat, UInt8.toNat_lt _⟩
  simpa using this
def plB (s : ByteArray) : Nat → Nat → Bool
  | 0, _ => true
  | d + 1, i => if barB (s.data.toList.getD i 0) = true then false else if (decide (0 < i) && ((decide (s.data.toList.getD (i - 1) 0 = 46) && decide (s.data.toList.getD i 0 = 46)) || (decide (s.data.toList.getD (i - 1) 0 = 64) && decide (s.data.toList.getD i 0 = 123)))) = true then false else plB s d (i + 1)
theorem ext_two (s : ByteArray) (i : Nat) (h0 : 0 < i) (h : i < s.size) : (s.extract (i - 1) (i + 1)).toList = [s.data.toList.getD (i - 1) 0, s.data.toList.getD i 0] := by
  have hl : s.data.toList.length = s.size := (Lib.size_eq s).symm
  rw [Lib.toList_data, Lib.extract_data, show i + 1 - (i - 1) = 2 by omega, List.drop_eq_getElem_cons (by omega), show i - 1 + 1 = i by omega, List.drop_eq_getElem_cons (by omega)]
  simp only [List.take_succ_cons, List.take_zero, List.getD, List.getElem?_eq_getElem (show i - 1 < s.data.toList.length by omega), List.getElem?_eq_getElem (show i < s.data.toList.length by omega), Option.getD_some]
theorem plain_l0 (s : ByteArray) (hs : s.size ≤ 140737488351232) : ∀ (d i : Nat), i + d = s.size → Ev (fun k => graftageref37_plain.l0 k s s.size i) (plB s d i) := by
  intro d
  induction d with
  | zero =>
    intro i hi
    exact Ev.step (f := fun _ => some true) (fun k => by rw [graftageref37_plain.l0, if_neg (by omega)]) (Ev.now _)
  | succ d ih =>
    intro i hi
    have hlt : i < s.size := by omega
    have hll : i < s.data.toList.length := by rw [← Lib.size_eq]; exact hlt
    have hg : s.data.toList.getD i 0 = s.data.toList[i] := by simp [List.getD, List.getElem?_eq_getElem hll]
    have hB : graftageref37_Barred.f (bt s i) = some (barB (s.data.toList.getD i 0)) := by rw [hg]; exact Barred_bt s i hlt
    rw [plB]
    by_cases h1 : barB (s.data.toList.getD i 0) = true
    · rw [if_pos h1]
      exact Ev.step (f := fun _ => some false) (fun k => by rw [graftageref37_plain.l0, if_pos (by omega), if_pos (by omega), if_pos (by omega), hB, Option.bind_some, if_pos h1]) (Ev.now _)
    rw [if_neg h1]
    by_cases h0 : 0 < i
    · have e2 := ext_two s i h0 hlt
      have ev : ∀ k, graftageref37_plain.l0 (k + 1) s s.size i = (if (s.extract (i - 1) (i + 1)).toList = ([46, 46] : List UInt8) then (some false) else (if (s.extract (i - 1) (i + 1)).toList = ([64, 123] : List UInt8) then (some false) else (graftageref37_plain.l0 k s s.size ((i : Int) + 1)))) := fun k => by
        rw [graftageref37_plain.l0, if_pos (by omega), if_pos (by omega), if_pos (by omega), hB, Option.bind_some, if_neg h1, if_pos (by omega), wrap_id (by omega) (by omega), wrap_id (by omega) (by omega), if_pos (by omega), if_pos (by omega), if_pos (by omega), show ((i : Int) - 1).toNat = i - 1 by omega, show ((i : Int) + 1).toNat = i + 1 by omega]
      rw [e2] at ev
      refine Ev.step ev ?_
      by_cases h2 : s.data.toList.getD (i - 1) 0 = 46 ∧ s.data.toList.getD i 0 = 46
      · rw [if_pos (by rw [decide_eq_true h0, decide_eq_true h2.1, decide_eq_true h2.2]; rfl)]
        exact Ev.congr (f := fun _ => some false) (fun k => by rw [if_pos (by rw [h2.1, h2.2])]) (Ev.now _)
      have h2' : ¬ ([s.data.toList.getD (i - 1) 0, s.data.toList.getD i 0] = ([46, 46] : List UInt8)) := fun h => h2 (by simpa using h)
      simp only [if_neg h2']
      by_cases h3 : s.data.toList.getD (i - 1) 0 = 64 ∧ s.data.toList.getD i 0 = 123
      · rw [if_pos (by rw [decide_eq_true h0, decide_eq_true h3.1, decide_eq_true h3.2]; simp)]
        exact Ev.congr (f := fun _ => some false) (fun k => by rw [if_pos (by rw [h3.1, h3.2])]) (Ev.now _)
      have h3' : ¬ ([s.data.toList.getD (i - 1) 0, s.data.toList.getD i 0] = ([64, 123] : List UInt8)) := fun h => h3 (by simpa using h)
      simp only [if_neg h3']
      rw [if_neg]
      · exact_mod_cast ih (i + 1) (by omega)
      · simp only [Bool.and_eq_true, Bool.or_eq_true, decide_eq_true_eq]
        rintro ⟨_, h | h⟩
        · exact h2 h
        · exact h3 h
    · rw [if_neg (by rw [decide_eq_false h0, Bool.false_and]; decide)]
      refine Ev.step (f := fun k => graftageref37_plain.l0 k s s.size ((i : Int) + 1)) (fun k => by rw [graftageref37_plain.l0, if_pos (by omega), if_pos (by omega), if_pos (by omega), hB, Option.bind_some, if_neg h1, if_neg (by omega), wrap_id (by omega) (by omega)]) ?_
      exact_mod_cast ih (i + 1) (by omega)
theorem plB_iff (s : ByteArray) : ∀ (d i : Nat), i + d = s.size → (plB s d i = true ↔ ∀ j, i ≤ j → j < s.size → barB (s.data.toList.getD j 0) = false ∧ (0 < j → ¬ (s.data.toList.getD (j - 1) 0 = 46 ∧ s.data.toList.getD j 0 = 46) ∧ ¬ (s.data.toList.getD (j - 1) 0 = 64 ∧ s.data.toList.getD j 0 = 123)))
  | 0, i, hi => by
    simp only [plB, true_iff]
    intro j h1 h2
    omega
  | d + 1, i, hi => by
    have ih := plB_iff s d (i + 1) (by omega)
    rw [plB]
    constructor
    · intro h j h1 h2
      split at h
      · cases h
      · rename_i hb
        split at h
        · cases h
        · rename_i hq
          by_cases e : j = i
          · subst e
            refine ⟨by simpa using hb, fun h0 => ?_⟩
            rw [decide_eq_true h0, Bool.true_and, Bool.not_eq_true, Bool.or_eq_false_iff, Bool.and_eq_false_iff, Bool.and_eq_false_iff, decide_eq_false_iff_not, decide_eq_false_iff_not, decide_eq_false_iff_not, decide_eq_false_iff_not] at hq
            exact ⟨fun hx => hq.1.elim (fun hh => hh hx.1) (fun hh => hh hx.2), fun hx => hq.2.elim (fun hh => hh hx.1) (fun hh => hh hx.2)⟩
          · exact ih.1 h j (by omega) h2
    · intro h
      obtain ⟨hb, hq⟩ := h i (Nat.le_refl _) (by omega)
      rw [if_neg (by rw [hb]; decide), if_neg]
      · exact ih.2 (fun j h1 h2 => h j (by omega) h2)
      · simp only [Bool.and_eq_true, Bool.or_eq_true, decide_eq_true_eq]
        rintro ⟨h0, hh | hh⟩
        · exact (hq h0).1 hh
        · exact (hq h0).2 hh
theorem two_at (s : ByteArray) (a b : UInt8) : Lib.contains s.data.toList [a, b] = true ↔ ∃ j, 0 < j ∧ j < s.size ∧ s.data.toList.getD (j - 1) 0 = a ∧ s.data.toList.getD j 0 = b := by
  rw [contains_two]
  have hl : s.data.toList.length = s.size := (Lib.size_eq s).symm
  constructor
  · rintro ⟨i, h1, h2⟩
    have hlt : i + 1 < s.size := by rw [← hl]; exact (List.getElem?_eq_some_iff.1 h2).1
    exact ⟨i + 1, by omega, hlt, by simp [List.getD, h1], by simp [List.getD, h2]⟩
  · rintro ⟨j, h0, hlt, h1, h2⟩
    refine ⟨j - 1, ?_, ?_⟩
    · rw [List.getElem?_eq_getElem (by omega), ← h1]; simp [List.getD, List.getElem?_eq_getElem (show j - 1 < s.data.toList.length by omega)]
    · rw [show j - 1 + 1 = j by omega, List.getElem?_eq_getElem (by omega), ← h2]; simp [List.getD, List.getElem?_eq_getElem (show j < s.data.toList.length by omega)]
theorem plain_is (s : ByteArray) : plB s s.size 0 = (!Lib.contains s.data.toList [46, 46] && (!Lib.contains s.data.toList [64, 123] && (!Lib.containsAny s.data.toList barC.data.toList && s.data.toList.all (fun b => decide (32 < b.toNat))))) := by
  have hl : s.data.toList.length = s.size := (Lib.size_eq s).symm
  rw [Bool.eq_iff_iff, plB_iff s s.size 0 (by omega)]
  simp only [Bool.and_eq_true, Bool.not_eq_true', ← Bool.not_eq_true, two_at, containsAny_any, List.any_eq_true, List.all_eq_true, decide_eq_true_eq, not_exists, not_and]
  constructor
  · intro h
    refine ⟨fun j h0 hj h1 h2 => (((h j (Nat.zero_le _) hj).2 h0).1 h1 h2), fun j h0 hj h1 h2 => (((h j (Nat.zero_le _) hj).2 h0).2 h1 h2), fun x hx hc => ?_, fun x hx => ?_⟩
    · obtain ⟨j, hj, rfl⟩ := List.mem_iff_getElem.1 hx
      have := (h j (Nat.zero_le _) (by omega)).1
      simp only [List.getD, List.getElem?_eq_getElem hj, Option.getD_some, barB, Bool.not_eq_true, Bool.or_eq_false_iff] at this
      rw [this.2] at hc; cases hc
    · obtain ⟨j, hj, rfl⟩ := List.mem_iff_getElem.1 hx
      have := (h j (Nat.zero_le _) (by omega)).1
      simp only [List.getD, List.getElem?_eq_getElem hj, Option.getD_some, barB, Bool.not_eq_true, Bool.or_eq_false_iff, decide_eq_false_iff_not] at this
      omega
  · rintro ⟨h1, h2, h3, h4⟩ j _ hj
    have hjl : j < s.data.toList.length := by omega
    have hmem : s.data.toList[j] ∈ s.data.toList := List.getElem_mem hjl
    refine ⟨?_, fun h0 => ⟨fun hx hy => h1 j h0 hj hx hy, fun hx hy => h2 j h0 hj hx hy⟩⟩
    simp only [List.getD, List.getElem?_eq_getElem hjl, Option.getD_some, barB, Bool.not_eq_true, Bool.or_eq_false_iff, decide_eq_false_iff_not]
    exact ⟨by have := h4 _ hmem; omega, by simpa using h3 _ hmem⟩
theorem refPart_bad (p : ByteArray) (h1 : 1 ≤ p.size) : (decide (bt p 0 = 46) || sufB p ⟨#[46, 108, 111, 99, 107]⟩) = badPart p := by
  unfold badPart
  congr 1
  have hl : p.data.toList.length = p.size := (Lib.size_eq p).symm
  have hb := bt_get p 0 (by omega)
  have hb' : bt p 0 = ((p.data.toList[0]'(by omega)).toNat : Int) := by exact_mod_cast hb
  unfold preB
  rw [show (⟨#[46]⟩ : ByteArray).size = 1 from rfl, decide_eq_true h1, Bool.true_and, hb', Lib.toList_data, Lib.extract_data, List.drop_zero, Nat.sub_zero, Lib.toList_data]
  have e : p.data.toList.take 1 = [p.data.toList[0]'(by omega)] := by
    rw [List.take_succ_eq_append_getElem (by omega), List.take_zero, List.nil_append]
  rw [e]
  by_cases hc : p.data.toList[0]'(by omega) = 46
  · rw [hc]; rfl
  · rw [decide_eq_false (fun h => hc (UInt8.toNat_inj.1 (by exact_mod_cast h)))]
    exact (beq_eq_false_iff_ne.2 (fun h => hc (List.cons.inj h).1)).symm
theorem refName_l0 (l : List ByteArray) (hl : ∀ p ∈ l, 1 ≤ p.size ∧ p.size ≤ 64) (hn : l.length ≤ 140737488351232) : ∀ (d i : Nat), i + d = l.length → Ev (fun k => graftageref37_Name.l0 k l l.length i) (!(l.drop i).any badPart) := by
  intro d
  induction d with
  | zero =>
    intro i hi
    rw [List.drop_of_length_le (by omega)]
    exact Ev.step (f := fun _ => some true) (fun k => by rw [graftageref37_Name.l0, if_neg (by omega)]) (Ev.now _)
  | succ d ih =>
    intro i hi
    have hlt : i < l.length := by omega
    obtain ⟨h1, h64⟩ := hl _ (List.getElem_mem hlt)
    have hbad := refPart_bad l[i] h1
    rw [List.drop_eq_getElem_cons hlt, List.any_cons, ← hbad, Bool.or_assoc, Bool.not_or, Bool.not_or]
    have hst : ∀ k, graftageref37_Name.l0 (k + 1) l l.length i = (if (bt l[i] 0) = 46 then (some false) else (if sufB l[i] ⟨#[46, 108, 111, 99, 107]⟩ = true then (some false) else (graftageref37_Name.l0 k l l.length ((i : Int) + 1)))) := fun k => by
      rw [graftageref37_Name.l0, if_pos (by omega), if_pos (by omega), if_pos (by omega), rd_ext l i hlt, if_pos (by omega), ends_is _ _ (by omega), Option.bind_some, wrap_id (by omega) (by omega)]
    refine Ev.step hst (ev_iff (fun h => ?_) (fun h => ?_))
    · rw [decide_eq_true h]; exact Ev.now _
    · rw [decide_eq_false h, Bool.not_false, Bool.true_and]
      refine ev_iff (fun h2 => ?_) (fun h2 => ?_)
      · rw [h2]; exact Ev.now _
      · have : sufB l[i] ⟨#[46, 108, 111, 99, 107]⟩ = false := by simpa using h2
        rw [this, Bool.not_false, Bool.true_and]
        exact_mod_cast ih (i + 1) (by omega)
theorem refName_ev (s : ByteArray) (hs : s.size ≤ 4294967280) : Ev (fun k => graftageref37_Name.f k s) (nameB s) := by
  unfold nameB
  refine ev_iff (fun h => ?_) (fun h => ?_)
  · rw [decide_eq_true h, Bool.true_or]; exact Ev.now _
  rw [decide_eq_false h, Bool.false_or]
  have hF : Ev (fun k => graftageref37_Name.j0 k s true) false := Ev.step (f := fun _ => some false) (fun k => by rw [graftageref37_Name.j0, if_pos rfl]) (Ev.now _)
  have hN : nameIn s = (preB s ⟨#[114, 101, 102, 115, 47]⟩ && (isPath s && (plB s s.size 0 && !(pathParts s).any badPart))) := by
    rw [plain_is]
    unfold nameIn
    cases isPath s <;> cases preB s ⟨#[114, 101, 102, 115, 47]⟩ <;> simp [Bool.and_assoc]
  rw [hN]
  simp only [begins_is, Option.bind_some]
  by_cases h1 : preB s ⟨#[114, 101, 102, 115, 47]⟩ = true
  case neg =>
    have : preB s ⟨#[114, 101, 102, 115, 47]⟩ = false := by simpa using h1
    rw [this]
    simp only [Bool.false_eq_true, if_false, Bool.false_and]
    exact hF
  rw [h1, Bool.true_and]
  simp only [if_true]
  refine Ev.bind (ref_Is_ev s hs) ?_
  by_cases hp : isPath s = true
  case neg =>
    have : isPath s = false := by simpa using hp
    rw [this]
    simp only [Bool.false_eq_true, if_false, Bool.false_and]
    exact hF
  rw [hp, Bool.true_and]
  simp only [if_true]
  have hsz := isPath_size hp
  have hpl : Ev (fun k => graftageref37_plain.f k s) (plB s s.size 0) := by have := plain_l0 s (by omega) s.size 0 (by omega); exact_mod_cast this
  refine Ev.bind hpl ?_
  by_cases h2 : plB s s.size 0 = true
  case neg =>
    have : plB s s.size 0 = false := by simpa using h2
    rw [this, Bool.not_false, Bool.false_and]
    exact hF
  rw [h2, Bool.not_true, Bool.true_and]
  refine Ev.step (f := fun k => (graftageref06_Parts.f k s).bind fun t214 => graftageref37_Name.l0 k t214 (t214.length : Int) 0) (fun k => by rw [graftageref37_Name.j0, if_neg (by decide)]) ?_
  refine Ev.bind (ref_Parts_ev s hs) ?_
  have hlen := pathParts_len (s := s)
  have := refName_l0 (pathParts s) (isPath_parts hp) (by omega) (pathParts s).length 0 (by omega)
  rw [List.drop_zero] at this
  exact_mod_cast this
end Go.Proofs.YtccbpbdfihnlgaaDoor.Q


/- Within: both functions tell the same. -/
namespace Go.Proofs.YtccbpbdfihnlgaaDoor.Q
open Go.RowKit Go.Proofs.YtccbpbdfihnlgaaDoorW.PrintWords Go.Proofs.YtccbpbdfihnlgaaDoorW.PrintLast Go.Proofs.YtccbpbdfihnlgaaDoorW.PrintMore
def withinB (a b : ByteArray) : Bool := if a.toList = [] then b.toList != [] else decide (a.size + 1 < b.size) && ((b.extract 0 a.size).toList == a.toList && bt b a.size == 47)
theorem path_Within_eq (a b : ByteArray) (ha : a.size ≤ 140737488351232) : path_Within.f a b = some (withinB a b) := by
  unfold path_Within.f withinB
  by_cases h : a.toList = []
  · rw [if_pos h, if_pos h]
  · rw [if_neg h, if_neg h, wrap_id (by omega) (by omega)]
    by_cases h1 : a.size + 1 < b.size
    · rw [if_pos (by omega), if_pos (by omega), if_pos (by omega)]
      by_cases h2 : bt b a.size = 47
      · rw [if_pos h2, if_pos (by omega)]; simp [h1, h2]
      · rw [if_neg h2]; simp [h2]
    · rw [if_neg (by omega)]; simp [h1]
theorem ref_Within_eq (a b : ByteArray) (ha : a.size ≤ 140737488351232) : graftageref06_Within.f a b = some (withinB a b) := by
  unfold graftageref06_Within.f withinB
  by_cases h : a.toList = []
  · rw [if_pos h, if_pos h]
  · rw [if_neg h, if_neg h, wrap_id (by omega) (by omega)]
    by_cases h1 : a.size + 1 < b.size
    · rw [if_pos (by omega), if_pos (by omega), if_pos (by omega)]
      by_cases h2 : (b.extract 0 a.size).toList = a.toList
      · rw [if_pos h2, if_pos (by omega)]; simp [h1, h2]
      · rw [if_neg h2]; simp [h2]
    · rw [if_neg (by omega)]; simp [h1]
end Go.Proofs.YtccbpbdfihnlgaaDoor.Q


/- Meet: the two loops go alike, and end. -/
namespace Go.Proofs.YtccbpbdfihnlgaaDoor.Q
open Go.RowKit Go.Proofs.YtccbpbdfihnlgaaDoorW.PrintWords Go.Proofs.YtccbpbdfihnlgaaDoorW.PrintLast Go.Proofs.YtccbpbdfihnlgaaDoorW.PrintMore

theorem meet_same (l : List ByteArray) (hl : ∀ x ∈ l, x.size ≤ 140737488351232) (hn : l.length ≤ 140737488351232) : ∀ k : Nat,
    (∀ i : Nat, i ≤ l.length → path_Meet.l0 k l l l.length i = graftageref06_Meet.l0 k l i) ∧
    (∀ i j : Nat, i < l.length → j ≤ l.length → path_Meet.l1 k l i (rdOf ByteArray.empty l i) j l l.length i = graftageref06_Meet.l1 k l i j) := by
  intro k
  induction k with
  | zero => exact ⟨fun _ _ => by simp [path_Meet.l0, graftageref06_Meet.l0], fun _ _ _ _ => by simp [path_Meet.l1, graftageref06_Meet.l1]⟩
  | succ k ih =>
    refine ⟨fun i hi => ?_, fun i j hi hj => ?_⟩
    · simp only [path_Meet.l0, graftageref06_Meet.l0]
      by_cases h : i < l.length
      · rw [if_pos (by omega), if_pos (by omega), if_pos (by omega), if_pos (by omega), wrap_id (by omega) (by omega)]
        exact ih.2 i (i + 1) h (by omega)
      · rw [if_neg (by omega), if_neg (by omega)]
    · simp only [path_Meet.l1, graftageref06_Meet.l1]
      by_cases h : j < l.length
      · have e1 : (j : Int) < (l.length : Int) := by omega
        have e2 : (0 : Int) ≤ (j : Int) := by omega
        have e3 : (0 : Int) ≤ (i : Int) := by omega
        have e4 : (i : Int) < (l.length : Int) := by omega
        simp only [if_pos e1, if_pos e2, if_pos e3, if_pos e4]
        by_cases he : (rdOf ByteArray.empty l i).toList = (rdOf ByteArray.empty l j).toList
        · simp only [if_pos he]
        · simp only [if_neg he]
          have hi' : (rdOf ByteArray.empty l i).size ≤ 140737488351232 := by rw [rd_ext l i hi]; exact hl _ (List.getElem_mem hi)
          have hj' : (rdOf ByteArray.empty l j).size ≤ 140737488351232 := by rw [rd_ext l j h]; exact hl _ (List.getElem_mem h)
          rw [path_Within_eq _ _ hi', ref_Within_eq _ _ hi', path_Within_eq _ _ hj', ref_Within_eq _ _ hj']
          simp only [Option.bind_some]
          rw [wrap_id (by omega) (by omega)]
          have := ih.2 i (j + 1) hi (by omega)
          rw [show ((j : Int) + 1) = ((j + 1 : Nat) : Int) by omega, this]
      · rw [if_neg (by omega), if_neg (by omega), wrap_id (by omega) (by omega)]
        exact ih.1 (i + 1) (by omega)
theorem meet_ends (l : List ByteArray) (hl : ∀ x ∈ l, x.size ≤ 140737488351232) (hn : l.length ≤ 140737488351232) : ∀ (d i : Nat), i + d = l.length →
    (∃ k r, graftageref06_Meet.l0 k l i = some r) ∧ (∀ (e j : Nat), j + e = l.length → i < l.length → ∃ k r, graftageref06_Meet.l1 k l i j = some r) := by
  intro d
  induction d with
  | zero =>
    intro i hi
    refine ⟨⟨1, (0, 0, false), ?_⟩, fun e j hj h => by omega⟩
    simp only [graftageref06_Meet.l0]
    rw [if_neg (by omega)]
  | succ d ih =>
    intro i hi
    have key : ∀ (e j : Nat), j + e = l.length → i < l.length → ∃ k r, graftageref06_Meet.l1 k l i j = some r := by
      intro e
      induction e with
      | zero =>
        intro j hj h
        obtain ⟨⟨k, r, hk⟩, _⟩ := ih (i + 1) (by omega)
        refine ⟨k + 1, r, ?_⟩
        simp only [graftageref06_Meet.l1]
        rw [if_neg (by omega), wrap_id (by omega) (by omega)]
        exact hk
      | succ e ihe =>
        intro j hj h
        obtain ⟨k, r, hk⟩ := ihe (j + 1) (by omega) h
        have hi' : (rdOf ByteArray.empty l i).size ≤ 140737488351232 := by rw [rd_ext l i h]; exact hl _ (List.getElem_mem h)
        have hj' : (rdOf ByteArray.empty l j).size ≤ 140737488351232 := by rw [rd_ext l j (by omega)]; exact hl _ (List.getElem_mem (by omega))
        by_cases he : (rdOf ByteArray.empty l i).toList = (rdOf ByteArray.empty l j).toList
        · refine ⟨k + 1, (i, j, true), ?_⟩
          simp only [graftageref06_Meet.l1]
          rw [if_pos (by omega), if_pos (by omega), if_pos (by omega), if_pos (by omega), if_pos he]
        · by_cases h1 : withinB (rdOf ByteArray.empty l i) (rdOf ByteArray.empty l j) = true
          · refine ⟨k + 1, (i, j, true), ?_⟩
            simp only [graftageref06_Meet.l1]
            rw [if_pos (by omega), if_pos (by omega), if_pos (by omega), if_pos (by omega), if_neg he, ref_Within_eq _ _ hi']
            simp only [Option.bind_some]
            rw [if_pos h1]
          · by_cases h2 : withinB (rdOf ByteArray.empty l j) (rdOf ByteArray.empty l i) = true
            · refine ⟨k + 1, (i, j, true), ?_⟩
              simp only [graftageref06_Meet.l1]
              rw [if_pos (by omega), if_pos (by omega), if_pos (by omega), if_pos (by omega), if_neg he, ref_Within_eq _ _ hi', ref_Within_eq _ _ hj']
              simp only [Option.bind_some]
              rw [if_neg h1, if_pos h2]
            · refine ⟨k + 1, r, ?_⟩
              simp only [graftageref06_Meet.l1]
              rw [if_pos (by omega), if_pos (by omega), if_pos (by omega), if_pos (by omega), if_neg he, ref_Within_eq _ _ hi', ref_Within_eq _ _ hj']
              simp only [Option.bind_some]
              rw [if_neg h1, if_neg h2, wrap_id (by omega) (by omega)]
              exact hk
    refine ⟨?_, key⟩
    obtain ⟨k, r, hk⟩ := key (l.length - (i + 1)) (i + 1) (by omega) (by omega)
    refine ⟨k + 1, r, ?_⟩
    simp only [graftageref06_Meet.l0]
    rw [if_pos (by omega), wrap_id (by omega) (by omega)]
    exact hk
theorem meet_ev (l : List ByteArray) (hl : ∀ x ∈ l, x.size ≤ 140737488351232) (hn : l.length ≤ 140737488351232) : ∃ r, Ev (fun k => path_Meet.f k l) r ∧ Ev (fun k => graftageref06_Meet.f k l) r := by
  obtain ⟨⟨k, r, hk⟩, _⟩ := meet_ends l hl hn l.length 0 (by omega)
  refine ⟨r, Ev.of (fun k => path_Meet.mono l k) (k := k) ?_, Ev.of (fun k => graftageref06_Meet.mono l k) (k := k) hk⟩
  exact ((meet_same l hl hn k).1 0 (by omega)).trans hk

end Go.Proofs.YtccbpbdfihnlgaaDoor.Q


/- Refs: what bars a list; both functions tell the same. -/
namespace Go.Proofs.YtccbpbdfihnlgaaDoor.Q
open Go.RowKit Go.Proofs.YtccbpbdfihnlgaaDoorW.PrintWords Go.Proofs.YtccbpbdfihnlgaaDoorW.PrintLast Go.Proofs.YtccbpbdfihnlgaaDoorW.PrintMore
def at55 (l : List S55) (i : Nat) : S55 := rd_T55 l i
theorem at55_get (l : List S55) (i : Nat) (h : i < l.length) : at55 l i = l[i] := by
  unfold at55 rd_T55
  simp [List.getD, List.getElem?_eq_getElem h]
theorem lt_tri : ∀ a b : List UInt8, a < b ∨ a = b ∨ b < a
  | [], [] => .inr (.inl rfl)
  | [], y :: q => .inl (List.nil_lt_cons y q)
  | x :: r, [] => .inr (.inr (List.nil_lt_cons x r))
  | x :: r, y :: q => by
    rcases Nat.lt_trichotomy x.toNat y.toNat with h | h | h
    · exact .inl (List.cons_lt_cons_iff.2 (.inl (UInt8.lt_iff_toNat_lt.2 h)))
    · obtain rfl := UInt8.toNat_inj.1 h
      rcases lt_tri r q with h | h | h
      · exact .inl (List.cons_lt_cons_iff.2 (.inr ⟨rfl, h⟩))
      · exact .inr (.inl (by rw [h]))
      · exact .inr (.inr (List.cons_lt_cons_iff.2 (.inr ⟨rfl, h⟩)))
    · exact .inr (.inr (List.cons_lt_cons_iff.2 (.inl (UInt8.lt_iff_toNat_lt.2 h))))
theorem less_or_eq (a b : List UInt8) : (Op.bytesLess b a || (b == a)) = !Op.bytesLess a b := by
  rw [Go.Proofs.bytesLess_eq, Go.Proofs.bytesLess_eq]
  rcases lt_tri a b with h | h | h
  · have h1 : ¬ b < a := fun h2 => List.lt_irrefl _ (List.lt_trans h h2)
    have h2 : ¬ b = a := fun h2 => List.lt_irrefl _ (h2 ▸ h)
    rw [decide_eq_true h, decide_eq_false h1]
    simpa using h2
  · subst h
    rw [decide_eq_false (List.lt_irrefl a)]
    simp
  · have h1 : ¬ a < b := fun h2 => List.lt_irrefl _ (List.lt_trans h h2)
    rw [decide_eq_true h, decide_eq_false h1]
    rfl
theorem nameB_nil {s : ByteArray} (h : s.toList = []) : nameB s = false := by
  unfold nameB nameIn isPath
  simp [h]
def wholeB (r : S55) : Bool := if r.f2.toList = [] then idOk r.f1 else (decide (r.f1.toList = []) && nameB r.f2)
def chkR (r : S55) : Int := if nameB r.f0 = true then (if wholeB r = true then 0 else 1) else 370
theorem check_ev (r : S55) : Ev (fun k => refs_check.f k r.f0 r.f1 r.f2) (chkR r) := by
  refine Ev.bind (Name_ev r.f0) ?_
  unfold chkR
  refine ev_iff (fun h => ?_) (fun h => ?_)
  rotate_left
  · rw [if_neg h]; exact Ev.now _
  rw [if_pos h]
  unfold wholeB
  refine ev_iff (fun h2 => ?_) (fun h2 => ?_)
  · rw [if_pos h2]
    refine Ev.bind (ident_Is_ev r.f1) ?_
    by_cases h3 : idOk r.f1 = true
    · rw [if_pos h3, h3]
      exact Ev.step (f := fun _ => some 0) (fun k => by rw [refs_check.j0, if_pos rfl]) (Ev.now _)
    · rw [if_neg h3]
      have h3' : idOk r.f1 = false := by simpa using h3
      rw [h3']
      refine Ev.step (f := fun k => if r.f1.toList = ([] : List UInt8) then ((refs_Name.f k r.f2).bind fun t104 => (if t104 = true then (some 0) else (some 1))) else (some 1)) (fun k => by rw [refs_check.j0, if_neg (by decide)]) ?_
      refine ev_iff (fun h4 => ?_) (fun h4 => Ev.now _)
      refine Ev.bind (Name_ev r.f2) ?_
      rw [nameB_nil h2]
      exact Ev.now _
  · rw [if_neg h2]
    refine Ev.step (f := fun k => if r.f1.toList = ([] : List UInt8) then ((refs_Name.f k r.f2).bind fun t104 => (if t104 = true then (some 0) else (some 1))) else (some 1)) (fun k => by rw [refs_check.j0, if_neg (by decide)]) ?_
    refine ev_iff (fun h4 => ?_) (fun h4 => ?_)
    · rw [decide_eq_true h4, Bool.true_and]
      refine Ev.bind (Name_ev r.f2) ?_
      refine ev_iff (fun h5 => ?_) (fun h5 => ?_)
      · rw [if_pos h5]; exact Ev.now _
      · rw [if_neg h5]; exact Ev.now _
    · rw [decide_eq_false h4, Bool.false_and, if_neg (by decide)]; exact Ev.now _
theorem whole_ev (r : S55) (hs : r.f2.size ≤ 4294967280) : Ev (fun k => graftageref37_whole.f k r.f0 r.f1 r.f2) (wholeB r) := by
  unfold wholeB
  refine ev_iff (fun h => ?_) (fun h => ?_)
  · rw [if_pos h]; exact Ev.bind (ref_idIs_ev r.f1) (Ev.now _)
  · rw [if_neg h]
    refine ev_iff (fun h2 => ?_) (fun h2 => ?_)
    · rw [decide_eq_true h2, Bool.true_and]; exact Ev.bind (refName_ev r.f2 hs) (Ev.now _)
    · rw [decide_eq_false h2, Bool.false_and]; exact Ev.now _
theorem names_ev (l : List S55) (hn : l.length ≤ 1000000) : Ev (fun k => refs_names.f k l) (l.map (·.f0)) := by
  have key : ∀ (d i : Nat) (acc : List ByteArray), i + d = l.length → acc = (l.take i).map (·.f0) → Ev (fun k => refs_names.l0 k acc l l.length i) (l.map (·.f0)) := by
    intro d
    induction d with
    | zero =>
      intro i acc hi ha
      have : acc = l.map (·.f0) := by rw [ha, List.take_of_length_le (by omega)]
      exact Ev.step (f := fun _ => some acc) (fun k => by rw [refs_names.l0, if_neg (by omega)]) (this ▸ Ev.now _)
    | succ d ih =>
      intro i acc hi ha
      have hlt : i < l.length := by omega
      have hal : acc.length = i := by rw [ha, List.length_map, List.length_take]; omega
      have e0 : rd_T55 l (i : Int) = at55 l i := rfl
      refine Ev.step (f := fun k => refs_names.l0 k (acc ++ [(at55 l i).f0]) l l.length ((i : Int) + 1)) (fun k => by rw [refs_names.l0, if_pos (by omega), if_pos (by omega), if_pos (by omega), e0, if_pos (show acc.length < 8796093022208 by omega), wrap_id (by omega) (by omega)]) ?_
      exact_mod_cast ih (i + 1) _ (by omega) (by rw [ha, List.take_succ_eq_append_getElem hlt, List.map_append, at55_get l i hlt]; rfl)
  have := key l.length 0 [] (by omega) rfl
  exact_mod_cast this
theorem ref_names_ev (l : List S55) (hn : l.length ≤ 1000000) : Ev (fun k => graftageref37_names.f k l) (l.map (·.f0)) := by
  have key : ∀ (d i : Nat) (acc : List ByteArray), i + d = l.length → acc = (l.take i).map (·.f0) → Ev (fun k => graftageref37_names.l0 k l acc l.length i) (l.map (·.f0)) := by
    intro d
    induction d with
    | zero =>
      intro i acc hi ha
      have : acc = l.map (·.f0) := by rw [ha, List.take_of_length_le (by omega)]
      exact Ev.step (f := fun _ => some acc) (fun k => by rw [graftageref37_names.l0, if_neg (by omega)]) (this ▸ Ev.now _)
    | succ d ih =>
      intro i acc hi ha
      have hlt : i < l.length := by omega
      have hal : acc.length = i := by rw [ha, List.length_map, List.length_take]; omega
      have e0 : rd_T55 l (i : Int) = at55 l i := rfl
      refine Ev.step (f := fun k => graftageref37_names.l0 k l (acc ++ [(at55 l i).f0]) l.length ((i : Int) + 1)) (fun k => by rw [graftageref37_names.l0, if_pos (by omega), if_pos (by omega), if_pos (by omega), e0, if_pos (show acc.length < 8796093022208 by omega), wrap_id (by omega) (by omega)]) ?_
      exact_mod_cast ih (i + 1) _ (by omega) (by rw [ha, List.take_succ_eq_append_getElem hlt, List.map_append, at55_get l i hlt]; rfl)
  have := key l.length 0 [] (by omega) rfl
  exact_mod_cast this
def ltN (l : List S55) (i : Nat) : Bool := Op.bytesLess (at55 l (i - 1)).f0.toList (at55 l i).f0.toList
def cRF (l : List S55) (fin : Int) : Nat → Nat → Int
  | 0, _ => fin
  | d + 1, i => if chkR (at55 l i) = 0 then (if (decide (0 < i) && !ltN l i) = true then 150 else cRF l fin d (i + 1)) else chkR (at55 l i)
theorem cRF_zero (l : List S55) (fin : Int) : ∀ (d i : Nat), cRF l fin d i = 0 → fin = 0 ∧ ∀ j, i ≤ j → j < i + d → chkR (at55 l j) = 0 ∧ (0 < j → ltN l j = true)
  | 0, i, h => ⟨h, fun j h1 h2 => by omega⟩
  | d + 1, i, h => by
    rw [cRF] at h
    split at h
    · rename_i hc
      split at h
      · cases h
      · rename_i hq
        obtain ⟨h1, h2⟩ := cRF_zero l fin d (i + 1) h
        refine ⟨h1, fun j hj hl => ?_⟩
        by_cases e : j = i
        · subst e
          refine ⟨hc, fun h0 => ?_⟩
          rw [decide_eq_true h0, Bool.true_and] at hq
          simpa using hq
        · exact h2 j (by omega) (by omega)
    · rename_i hc; exact absurd h hc
theorem Check_l0 (l : List S55) (hn : l.length ≤ 1000000) (fin : Int) (hfin : Ev (fun k => (refs_names.f k l).bind fun t115 => ((path_Meet.f k t115).bind fun bt118 => (if bt118.2.2 = true then (some (61 : Int)) else (some 0)))) fin) : ∀ (d i : Nat), i + d = l.length → Ev (fun k => refs_Check.l0 k l l l.length i) (cRF l fin d i) := by
  intro d
  induction d with
  | zero =>
    intro i hi
    exact Ev.step (f := fun k => (refs_names.f k l).bind fun t115 => ((path_Meet.f k t115).bind fun bt118 => (if bt118.2.2 = true then (some (61 : Int)) else (some 0)))) (fun k => by rw [refs_Check.l0, if_neg (by omega)]) hfin
  | succ d ih =>
    intro i hi
    have e0 : rd_T55 l (i : Int) = at55 l i := rfl
    rw [cRF]
    have hst : ∀ k, refs_Check.l0 (k + 1) l l l.length i = ((refs_check.f k (at55 l i).f0 (at55 l i).f1 (at55 l i).f2).bind fun t113 => (if t113 = 0 then (if (i : Int) > 0 then (if 0 ≤ (wrap64 ((i : Int) - 1)) then (if (wrap64 ((i : Int) - 1)) < (l.length : Int) then (if ((Op.bytesLess (((rd_T55 l (wrap64 ((i : Int) - 1))).f0).toList) (((at55 l i).f0).toList)) = true) then (refs_Check.l0 k l l l.length (wrap64 ((i : Int) + 1))) else (some 150)) else (none)) else (none)) else (refs_Check.l0 k l l l.length (wrap64 ((i : Int) + 1)))) else (some t113))) := fun k => by
      rw [refs_Check.l0, if_pos (by omega), if_pos (by omega), if_pos (by omega), e0]
    refine Ev.step hst (Ev.bind (check_ev (at55 l i)) ?_)
    rw [wrap_id (x := (i : Int) + 1) (by omega) (by omega), wrap_id (x := (i : Int) - 1) (by omega) (by omega)]
    refine ev_iff (fun h => ?_) (fun h => ?_)
    rotate_left
    · rw [if_neg h]; exact Ev.now _
    rw [if_pos h]
    have hnext : Ev (fun k => refs_Check.l0 k l l l.length ((i : Int) + 1)) (cRF l fin d (i + 1)) := by exact_mod_cast ih (i + 1) (by omega)
    by_cases h0 : 0 < i
    · rw [decide_eq_true h0, Bool.true_and]
      have e1 : rd_T55 l ((i : Int) - 1) = at55 l (i - 1) := by rw [show (i : Int) - 1 = ((i - 1 : Nat) : Int) by omega]; rfl
      refine Ev.congr (f := fun k => if ltN l i = true then refs_Check.l0 k l l l.length ((i : Int) + 1) else some 150) (fun k => by rw [if_pos (by omega), if_pos (by omega), if_pos (by omega), e1]; rfl) ?_
      refine ev_iff (fun h2 => ?_) (fun h2 => ?_)
      · rw [h2]; exact hnext
      · have : ltN l i = false := by simpa using h2
        rw [this]; exact Ev.now _
    · rw [decide_eq_false h0, Bool.false_and, if_neg (by decide)]
      exact Ev.congr (f := fun k => refs_Check.l0 k l l l.length ((i : Int) + 1)) (fun k => by rw [if_neg (by omega)]) hnext
theorem refCheck_l0 (l : List S55) (hs : ∀ x ∈ l, x.f0.size ≤ 4294967280 ∧ x.f2.size ≤ 4294967280) (hn : l.length ≤ 1000000) (fin : Int) (hfin : Ev (fun k => (graftageref37_names.f k l).bind fun t107 => ((graftageref06_Meet.f k t107).bind fun bt110 => (if bt110.2.2 = true then (some (61 : Int)) else (some 0)))) fin) : ∀ (d i : Nat), i + d = l.length → Ev (fun k => graftageref37_Check.l0 k l l.length i) (cRF l fin d i) := by
  intro d
  induction d with
  | zero =>
    intro i hi
    exact Ev.step (f := fun k => (graftageref37_names.f k l).bind fun t107 => ((graftageref06_Meet.f k t107).bind fun bt110 => (if bt110.2.2 = true then (some (61 : Int)) else (some 0)))) (fun k => by rw [graftageref37_Check.l0, if_neg (by omega)]) hfin
  | succ d ih =>
    intro i hi
    have hlt : i < l.length := by omega
    have hmem : at55 l i ∈ l := by rw [at55_get _ _ hlt]; exact List.getElem_mem hlt
    have e0 : rd_T55 l (i : Int) = at55 l i := rfl
    rw [cRF]
    have hst : ∀ k, graftageref37_Check.l0 (k + 1) l l.length i = ((graftageref37_Name.f k ((at55 l i).f0)).bind fun t102 => (if t102 = true then ((graftageref37_whole.f k ((at55 l i).f0) ((at55 l i).f1) ((at55 l i).f2)).bind fun t104 => (if t104 = true then (if (i : Int) > 0 then (if 0 ≤ (wrap64 ((i : Int) - 1)) then (if (wrap64 ((i : Int) - 1)) < (l.length : Int) then (if (Op.bytesLess (((at55 l i).f0).toList) (((rd_T55 l (wrap64 ((i : Int) - 1))).f0).toList) || (((at55 l i).f0).toList == ((rd_T55 l (wrap64 ((i : Int) - 1))).f0).toList)) = true then (some 150) else (graftageref37_Check.l0 k l l.length (wrap64 ((i : Int) + 1)))) else (none)) else (none)) else (graftageref37_Check.l0 k l l.length (wrap64 ((i : Int) + 1)))) else (some 1))) else (some 370))) := fun k => by
      rw [graftageref37_Check.l0, if_pos (by omega), if_pos (by omega), if_pos (by omega), e0]
    refine Ev.step hst (Ev.bind (refName_ev _ (hs _ hmem).1) ?_)
    rw [wrap_id (x := (i : Int) + 1) (by omega) (by omega), wrap_id (x := (i : Int) - 1) (by omega) (by omega)]
    unfold chkR
    refine ev_iff (fun h => ?_) (fun h => ?_)
    rotate_left
    · rw [if_neg h, if_neg (by decide)]; exact Ev.now _
    rw [if_pos h]
    refine Ev.bind (whole_ev _ (hs _ hmem).2) ?_
    refine ev_iff (fun h1 => ?_) (fun h1 => ?_)
    rotate_left
    · rw [if_neg h1, if_neg (by decide)]; exact Ev.now _
    rw [if_pos h1, if_pos rfl]
    have hnext : Ev (fun k => graftageref37_Check.l0 k l l.length ((i : Int) + 1)) (cRF l fin d (i + 1)) := by exact_mod_cast ih (i + 1) (by omega)
    by_cases h0 : 0 < i
    · rw [decide_eq_true h0, Bool.true_and]
      have e1 : rd_T55 l ((i : Int) - 1) = at55 l (i - 1) := by rw [show (i : Int) - 1 = ((i - 1 : Nat) : Int) by omega]; rfl
      refine Ev.congr (f := fun k => if (!ltN l i) = true then some 150 else graftageref37_Check.l0 k l l.length ((i : Int) + 1)) (fun k => by rw [if_pos (by omega), if_pos (by omega), if_pos (by omega), e1, less_or_eq]; rfl) ?_
      exact ev_iff (fun h2 => by rw [if_pos h2]; exact Ev.now _) (fun h2 => by rw [if_neg h2]; exact hnext)
    · rw [decide_eq_false h0, Bool.false_and, if_neg (by decide)]
      exact Ev.congr (f := fun k => graftageref37_Check.l0 k l l.length ((i : Int) + 1)) (fun k => by rw [if_neg (by omega)]) hnext
theorem Check_both (l : List S55) (hs : l.length ≤ 1024 → ∀ x ∈ l, x.f0.size ≤ 4294967280 ∧ x.f2.size ≤ 4294967280) : ∃ c, Ev (fun k => refs_Check.f k l) c ∧ Ev (fun k => graftageref37_Check.f k l) c ∧ (c = 0 → l.length ≤ 1024 ∧ ∀ r ∈ l, chkR r = 0) := by
  by_cases hl : (l.length : Int) > 1024
  · exact ⟨4, Ev.congr (f := fun _ => some 4) (fun k => by unfold refs_Check.f; rw [if_pos hl]) (Ev.now _), Ev.congr (f := fun _ => some 4) (fun k => by unfold graftageref37_Check.f; rw [if_pos hl]) (Ev.now _), fun h => by cases h⟩
  have hsz := hs (by omega)
  obtain ⟨m, h1, h2⟩ := meet_ev (l.map (·.f0)) (fun x hx => by obtain ⟨r, hr, rfl⟩ := List.mem_map.1 hx; have := (hsz r hr).1; omega) (by rw [List.length_map]; omega)
  have hf1 : Ev (fun k => (refs_names.f k l).bind fun t115 => ((path_Meet.f k t115).bind fun bt118 => (if bt118.2.2 = true then (some (61 : Int)) else (some 0)))) (if m.2.2 = true then 61 else 0) := Ev.bind (names_ev l (by omega)) (Ev.bind h1 (ev_iff (fun h => by rw [if_pos h]; exact Ev.now _) (fun h => by rw [if_neg h]; exact Ev.now _)))
  have hf2 : Ev (fun k => (graftageref37_names.f k l).bind fun t115 => ((graftageref06_Meet.f k t115).bind fun bt118 => (if bt118.2.2 = true then (some (61 : Int)) else (some 0)))) (if m.2.2 = true then 61 else 0) := Ev.bind (ref_names_ev l (by omega)) (Ev.bind h2 (ev_iff (fun h => by rw [if_pos h]; exact Ev.now _) (fun h => by rw [if_neg h]; exact Ev.now _)))
  have e1 := Check_l0 l (by omega) _ hf1 l.length 0 (by omega)
  have e2 := refCheck_l0 l hsz (by omega) _ hf2 l.length 0 (by omega)
  refine ⟨_, Ev.congr (fun k => by unfold refs_Check.f; rw [if_neg hl]) (by exact_mod_cast e1), Ev.congr (fun k => by unfold graftageref37_Check.f; rw [if_neg hl]) (by exact_mod_cast e2), fun h => ⟨by omega, fun r hr => ?_⟩⟩
  obtain ⟨j, hj, rfl⟩ := List.mem_iff_getElem.1 hr
  have := ((cRF_zero l _ _ _ h).2 j (by omega) (by omega)).1
  rwa [at55_get l j hj] at this
/-! ### Few and Same -/
def fewR (l : List S55) : Nat → Nat → Bool
  | 0, _ => decide (l.length ≤ 40)
  | d + 1, i => if ((at55 l i).f0.size + (at55 l i).f1.size + (at55 l i).f2.size : Nat) > 1000 then false else fewR l d (i + 1)
theorem Few_ev (l : List S55) (hs : ∀ x ∈ l, x.f0.size ≤ 140737488351232 ∧ x.f1.size ≤ 140737488351232 ∧ x.f2.size ≤ 140737488351232) (hn : l.length ≤ 140737488351232) : Ev (fun k => graftageref37_Few.f k l) (fewR l l.length 0) := by
  have key : ∀ (d i : Nat), i + d = l.length → Ev (fun k => graftageref37_Few.l0 k l l.length i) (fewR l d i) := by
    intro d
    induction d with
    | zero =>
      intro i hi
      refine Ev.step (f := fun _ => some (decide ((l.length : Int) ≤ 40))) (fun k => by rw [graftageref37_Few.l0, if_neg (by omega)]) ?_
      have : decide ((l.length : Int) ≤ 40) = decide (l.length ≤ 40) := by rw [Bool.eq_iff_iff, decide_eq_true_eq, decide_eq_true_eq]; omega
      rw [this]; exact Ev.now _
    | succ d ih =>
      intro i hi
      have hlt : i < l.length := by omega
      have e0 : rd_T55 l (i : Int) = at55 l i := rfl
      obtain ⟨a1, a2, a3⟩ := hs (at55 l i) (by rw [at55_get _ _ hlt]; exact List.getElem_mem hlt)
      rw [fewR]
      refine Ev.step (f := fun k => if ((at55 l i).f0.size : Int) + ((at55 l i).f1.size : Int) + ((at55 l i).f2.size : Int) > 1000 then some false else graftageref37_Few.l0 k l l.length ((i : Int) + 1)) (fun k => by rw [graftageref37_Few.l0, if_pos (by omega), if_pos (by omega), if_pos (by omega), e0, wrap_id (x := ((at55 l i).f0.size : Int) + _) (by omega) (by omega), wrap_id (by omega) (by omega), wrap_id (by omega) (by omega)]) ?_
      refine ev_iff (fun h => ?_) (fun h => ?_)
      · rw [if_pos (by omega)]; exact Ev.now _
      · rw [if_neg (by omega)]; exact_mod_cast ih (i + 1) (by omega)
  have := key l.length 0 (by omega)
  exact_mod_cast this
theorem few_of (l : List S55) : ∀ (d i : Nat), i + d = l.length → fewR l d i = true → l.length ≤ 40 ∧ ∀ j, i ≤ j → j < l.length → (at55 l j).f0.size + (at55 l j).f1.size + (at55 l j).f2.size ≤ 1000
  | 0, i, hi, h => ⟨by simpa [fewR] using h, fun j h1 h2 => by omega⟩
  | d + 1, i, hi, h => by
    rw [fewR] at h
    split at h
    · cases h
    · obtain ⟨h1, h2⟩ := few_of l d (i + 1) (by omega) h
      refine ⟨h1, fun j hj hl => ?_⟩
      by_cases e : j = i
      · rw [e]; omega
      · exact h2 j (by omega) hl
theorem fewR_size {l : List S55} (h : fewR l l.length 0 = true) : ∀ x ∈ l, x.f0.size + x.f1.size + x.f2.size ≤ 1000 := by
  intro x hx
  obtain ⟨j, hj, rfl⟩ := List.mem_iff_getElem.1 hx
  have := (few_of l l.length 0 (by omega) h).2 j (by omega) hj
  rwa [at55_get l j hj] at this
theorem Same55_ev (l : List S55) (hn : l.length ≤ 140737488351232) : Ev (fun k => graftageref37_Same.f k l l) true := by
  have key : ∀ (d i : Nat), i + d = l.length → Ev (fun k => graftageref37_Same.l0 k l l l.length i) true := by
    intro d
    induction d with
    | zero =>
      intro i hi
      exact Ev.step (f := fun _ => some true) (fun k => by rw [graftageref37_Same.l0, if_neg (by omega)]) (Ev.now _)
    | succ d ih =>
      intro i hi
      refine Ev.step (f := fun k => graftageref37_Same.l0 k l l l.length ((i : Int) + 1)) (fun k => by rw [graftageref37_Same.l0, if_pos (by omega), if_pos (by omega), if_pos (by omega), if_pos (by omega), if_neg (by simp), wrap_id (by omega) (by omega)]) ?_
      exact_mod_cast ih (i + 1) (by omega)
  unfold graftageref37_Same.f
  simp only [if_true]
  have := key l.length 0 (by omega)
  exact_mod_cast this
end Go.Proofs.YtccbpbdfihnlgaaDoor.Q


/- A text's lines: the reference's Split tells them. -/
namespace Go.Proofs.YtccbpbdfihnlgaaDoor.Q
open Go.RowKit Go.Proofs.YtccbpbdfihnlgaaDoorW.PrintWords Go.Proofs.YtccbpbdfihnlgaaDoorW.PrintLast Go.Proofs.YtccbpbdfihnlgaaDoorW.PrintMore
def linesL : List UInt8 → List (List UInt8)
  | [] => []
  | b :: r => if b = 10 then [10] :: linesL r else consH b (linesL r)
def linesB (s : ByteArray) : List ByteArray := (linesL s.data.toList).map (fun x => ⟨x.toArray⟩)
theorem linesB_data (s : ByteArray) : (linesB s).map (·.data.toList) = linesL s.data.toList := by
  simp [linesB, Function.comp_def]
theorem linesL_length : ∀ l : List UInt8, (linesL l).length ≤ l.length
  | [] => by simp [linesL]
  | b :: r => by
    have := linesL_length r
    unfold linesL
    split
    · simp; omega
    · cases hq : linesL r with
      | nil => simp [consH]
      | cons h t => rw [hq] at this; simp [consH] at this ⊢; omega
theorem linesL_size : ∀ (l : List UInt8), ∀ p ∈ linesL l, p.length ≤ l.length := by
  intro l
  induction l with
  | nil => intro p hp; simp [linesL] at hp
  | cons b r ih =>
    intro p hp
    unfold linesL at hp
    split at hp
    · rcases List.mem_cons.1 hp with rfl | hp
      · simp
      · have := ih p hp; simp; omega
    · cases hq : linesL r with
      | nil => rw [hq] at hp; simp [consH] at hp; subst hp; simp
      | cons h t =>
        rw [hq] at hp ih
        rcases List.mem_cons.1 hp with rfl | hp
        · have := ih h List.mem_cons_self; simp; omega
        · have := ih p (List.mem_cons_of_mem _ hp); simp; omega
theorem linesL_index : ∀ (l : List UInt8), l ≠ [] → linesL l = if Lib.indexByte l 10 = -1 then [l] else l.take (Lib.indexByte l 10 + 1).toNat :: linesL (l.drop (Lib.indexByte l 10 + 1).toNat)
  | [], h => absurd rfl h
  | b :: r, _ => by
    rw [linesL, Lib.indexByte]
    by_cases hb : b = 10
    · subst hb; simp
    · rw [if_neg hb]
      have hbe : (b == 10) = false := by simpa using hb
      rw [hbe]
      have hge : -1 ≤ Lib.indexByte r 10 := by
        have : ∀ l : List UInt8, -1 ≤ Lib.indexByte l 10 := by
          intro l
          induction l with
          | nil => simp [Lib.indexByte]
          | cons c t ih => rw [Lib.indexByte]; split; · omega
                           · split <;> omega
        exact this r
      cases r with
      | nil => simp [Lib.indexByte, linesL, consH]
      | cons c t =>
        rw [linesL_index (c :: t) (by simp)]
        by_cases hm : Lib.indexByte (c :: t) 10 = -1
        · simp [hm, consH]
        · obtain ⟨j, hj⟩ : ∃ j : Nat, Lib.indexByte (c :: t) 10 = j := ⟨(Lib.indexByte (c :: t) 10).toNat, by omega⟩
          rw [hj]
          have e1 : ¬ ((j : Int) = -1) := by omega
          have e2 : ¬ ((j : Int) + 1 = -1) := by omega
          simp only [if_neg e1, consH, Bool.false_eq_true, if_false, beq_iff_eq, if_neg e2]
          rw [show ((j : Int) + 1).toNat = j + 1 by omega, show ((j : Int) + 1 + 1).toNat = j + 2 by omega]
          rfl
def linesF : Nat → ByteArray → Nat → Nat → List ByteArray
  | 0, s, fr, _ => if fr < s.size then [s.extract fr s.size] else []
  | d + 1, s, fr, i => if bt s i = 10 then s.extract fr (i + 1) :: linesF d s (i + 1) (i + 1) else linesF d s fr (i + 1)
def preN (a : List UInt8) : List (List UInt8) → List (List UInt8)
  | [] => if a = [] then [] else [a]
  | h :: t => (a ++ h) :: t
theorem linesF_data (s : ByteArray) : ∀ (d fr i : Nat), i + d = s.size → fr ≤ i → (linesF d s fr i).map (·.data.toList) = preN ((s.data.toList.drop fr).take (i - fr)) (linesL (s.data.toList.drop i)) := by
  intro d
  induction d with
  | zero =>
    intro fr i hi hf
    have hsz := Lib.size_eq s
    rw [List.drop_of_length_le (l := s.data.toList) (i := i) (by omega), linesL, preN, linesF]
    rw [List.take_of_length_le (by rw [List.length_drop]; omega)]
    by_cases h : fr < s.size
    · rw [if_pos h, if_neg (by intro e; have := congrArg List.length e; rw [List.length_drop] at this; simp at this; omega)]
      rw [List.map_cons, List.map_nil, Lib.extract_to_end]
    · rw [if_neg h, if_pos (List.drop_of_length_le (by omega))]; rfl
  | succ d ih =>
    intro fr i hi hf
    have hsz := Lib.size_eq s
    have hlt : i < s.data.toList.length := by omega
    rw [List.drop_eq_getElem_cons hlt]
    have hb := bt_get s i (by omega)
    have htk : (s.data.toList.drop fr).take (i + 1 - fr) = (s.data.toList.drop fr).take (i - fr) ++ [s.data.toList[i]] := by
      rw [show i + 1 - fr = (i - fr) + 1 by omega, List.take_succ_eq_append_getElem (by rw [List.length_drop]; omega)]
      simp [show fr + (i - fr) = i by omega]
    by_cases h : bt s i = 10
    · have h10 : s.data.toList[i] = 10 := by
        apply UInt8.toNat_inj.1
        rw [hb] at h
        show _ = 10
        omega
      rw [linesF, if_pos h, h10, linesL, if_pos rfl, preN]
      rw [List.map_cons, ih (i + 1) (i + 1) (by omega) (Nat.le_refl _), Lib.extract_data, htk, h10, Nat.sub_self, List.take_zero]
      cases linesL (s.data.toList.drop (i + 1)) <;> simp [preN]
    · have h10 : ¬ s.data.toList[i] = 10 := by
        intro e
        rw [hb, e] at h
        exact h rfl
      rw [linesF, if_neg h, linesL, if_neg h10, ih fr (i + 1) (by omega) (by omega), htk]
      cases linesL (s.data.toList.drop (i + 1)) <;> simp [preN, consH]
theorem linesF_lines (s : ByteArray) : linesF s.size s 0 0 = linesB s := by
  apply map_data_inj
  rw [linesF_data s s.size 0 0 (by omega) (Nat.le_refl _), linesB_data, List.drop_zero, Nat.sub_self, List.take_zero]
  cases hq : linesL s.data.toList with
  | nil => simp [preN]
  | cons h t => simp [preN]
theorem ref_Split_l0 (s : ByteArray) (hs : s.size ≤ 4294967280) : ∀ (d k i fr : Nat) (acc : List ByteArray), i + d = s.size → fr ≤ i → acc.length ≤ i → d < k →
    graftageref05_Split.l0 k s acc fr s.size i = some (acc ++ linesF d s fr i) := by
  intro d
  induction d with
  | zero =>
    intro k i fr acc hi hf ha hk
    obtain ⟨k, rfl⟩ : ∃ m, k = m + 1 := ⟨k - 1, by omega⟩
    simp only [graftageref05_Split.l0]
    rw [if_neg (by omega), linesF]
    by_cases h : fr < s.size
    · rw [if_pos (by omega), if_pos (by omega), if_pos (by omega), if_pos (by omega), if_pos h]; rfl
    · rw [if_neg (by omega), if_neg h, List.append_nil]
  | succ d ih =>
    intro k i fr acc hi hf ha hk
    obtain ⟨k, rfl⟩ : ∃ m, k = m + 1 := ⟨k - 1, by omega⟩
    simp only [graftageref05_Split.l0]
    rw [if_pos (by omega), if_pos (by omega), if_pos (by omega), wrap_id (by omega) (by omega)]
    by_cases h : bt s i = 10
    · rw [if_pos h, if_pos (by omega), if_pos (by omega), if_pos (by omega), if_pos (by omega)]
      have := ih k (i + 1) (i + 1) (acc ++ [s.extract fr (i + 1)]) (by omega) (Nat.le_refl _) (by simp; omega) (by omega)
      rw [linesF, if_pos h, show ((i : Int) + 1).toNat = i + 1 by omega]
      simpa using this
    · rw [if_neg h]
      have := ih k (i + 1) fr acc (by omega) (by omega) (by omega) (by omega)
      rw [linesF, if_neg h]
      simpa using this
theorem ref_Split_ev (s : ByteArray) (hs : s.size ≤ 4294967280) : Ev (fun k => graftageref05_Split.f k s) (linesB s) := by
  refine Ev.of (fun k => graftageref05_Split.mono s k) (k := s.size + 1) ?_
  have := ref_Split_l0 s hs s.size (s.size + 1) 0 0 [] (by omega) (Nat.le_refl _) (by simp) (by omega)
  rw [linesF_lines] at this
  unfold graftageref05_Split.f
  simpa using this
theorem linesB_size (s : ByteArray) : ∀ x ∈ linesB s, x.size ≤ s.size := by
  intro x hx
  obtain ⟨p, hp, rfl⟩ := List.mem_map.1 hx
  have := linesL_size _ p hp
  rw [Lib.size_eq s]
  show p.toArray.size ≤ _
  rw [List.size_toArray]
  exact this
theorem linesB_length (s : ByteArray) : (linesB s).length ≤ s.size := by
  have := linesL_length s.data.toList
  rw [Lib.size_eq s]
  simpa [linesB] using this

/-! ### a line of a text of cones -/
end Go.Proofs.YtccbpbdfihnlgaaDoor.Q


/- The reference's Find: a byte's first place from a place on. -/
namespace Go.Proofs.YtccbpbdfihnlgaaDoor.Q
open Go.RowKit Go.Proofs.YtccbpbdfihnlgaaDoorW.PrintWords Go.Proofs.YtccbpbdfihnlgaaDoorW.PrintLast Go.Proofs.YtccbpbdfihnlgaaDoorW.PrintMore
def ixF (l : List UInt8) (c : UInt8) (i : Nat) : Int := if Lib.indexByte (l.drop i) c = -1 then -1 else Lib.indexByte (l.drop i) c + i
theorem ix_step (x c : UInt8) (q : Int) (i : Nat) (hge : -1 ≤ q) (T : Option Int) (hT : T = some (if q = -1 then -1 else q + ((i + 1 : Nat) : Int))) :
    (if (x.toNat : Int) = (c.toNat : Int) then some (i : Int) else T) = some (if (if (x == c) = true then 0 else if (q == -1) = true then -1 else q + 1) = -1 then -1 else (if (x == c) = true then 0 else if (q == -1) = true then -1 else q + 1) + (i : Int)) := by
  by_cases h : x = c
  · rw [if_pos (by rw [h])]
    simp [h]
  · rw [if_neg (fun e => h (UInt8.toNat_inj.1 (by exact_mod_cast e))), hT]
    have hb : (x == c) = false := by simpa using h
    simp only [hb, Bool.false_eq_true, if_false, beq_iff_eq]
    by_cases h2 : q = -1
    · simp [h2]
    · simp only [h2, if_false]
      rw [if_neg (by omega)]
      congr 1; omega
theorem Find_l0 (s : ByteArray) (hs : s.size ≤ 140737488351232) (c : UInt8) : ∀ (d k i : Nat), i + d = s.size → d < k → graftageref14_Find.l0 k s (c.toNat : Int) i = some (ixF s.data.toList c i) := by
  intro d
  induction d with
  | zero =>
    intro k i hi hk
    obtain ⟨k, rfl⟩ : ∃ m, k = m + 1 := ⟨k - 1, by omega⟩
    simp only [graftageref14_Find.l0]
    rw [if_neg (by omega)]
    have : s.data.toList.drop i = [] := List.drop_of_length_le (by rw [← Lib.size_eq]; omega)
    unfold ixF; rw [this]; rfl
  | succ d ih =>
    intro k i hi hk
    obtain ⟨k, rfl⟩ : ∃ m, k = m + 1 := ⟨k - 1, by omega⟩
    have := ih k (i + 1) (by omega) (by omega)
    have hl : i < s.data.toList.length := by rw [← Lib.size_eq]; omega
    have hd : s.data.toList.drop i = s.data.toList[i] :: s.data.toList.drop (i + 1) := List.drop_eq_getElem_cons hl
    have hge := Lib.indexByte_ge (s.data.toList.drop (i + 1)) c
    simp only [graftageref14_Find.l0]
    rw [if_pos (by omega), if_pos (by omega), bt_get s i (by omega), wrap_id (by omega) (by omega)]
    unfold ixF at this ⊢
    rw [hd]
    simp only [Lib.indexByte]
    exact ix_step _ _ _ i hge _ (by exact_mod_cast this)
theorem Find_ev (s : ByteArray) (hs : s.size ≤ 140737488351232) (c : UInt8) (i : Nat) (hi : i ≤ s.size) : Ev (fun k => graftageref14_Find.f k s (c.toNat : Int) i) (ixF s.data.toList c i) := by
  refine Ev.of (fun k => graftageref14_Find.mono s _ _ k) (k := s.size + 1) ?_
  exact Find_l0 s hs c (s.size - i) _ i (by omega) (by omega)
/-! ### what may be -/
end Go.Proofs.YtccbpbdfihnlgaaDoor.Q


/- Contracts of Go functions as calls of plain Lean functions, written by a program of this session over the kit's print. -/
namespace Go.Proofs.YtccbpbdfihnlgaaDoor.Q
open Go.RowKit Go.Proofs.YtccbpbdfihnlgaaDoorW.PrintWords Go.Proofs.YtccbpbdfihnlgaaDoorW.PrintLast Go.Proofs.YtccbpbdfihnlgaaDoorW.PrintMore
attribute [local go_sem] max2_int min2_int max_two min_two max_three min_three max_four min_four   -- for this text's walks alone

end Go.Proofs.YtccbpbdfihnlgaaDoor.Q


/- RefsNames. -/
namespace Go.Proofs.YtccbpbdfihnlgaaDoor.Q
open Go.RowKit Go.Proofs.YtccbpbdfihnlgaaDoorW.PrintWords Go.Proofs.YtccbpbdfihnlgaaDoorW.PrintLast Go.Proofs.YtccbpbdfihnlgaaDoorW.PrintMore
theorem lives37 : Ev (fun k => graftagelaw37_lives.f k) true := Ev.of (fun k => graftagelaw37_lives.mono k) (k := 400) (by decide +kernel)
theorem liveOr37 : Ev (fun k => (graftagelaw37_lives.f k).bind fun t => some t) true := Ev.bind lives37 (Ev.now _)
end Go.Proofs.YtccbpbdfihnlgaaDoor.Q


/- Refs: texts. -/
namespace Go.Proofs.YtccbpbdfihnlgaaDoor.Q
open Go.RowKit Go.Proofs.YtccbpbdfihnlgaaDoorW.PrintWords Go.Proofs.YtccbpbdfihnlgaaDoorW.PrintLast Go.Proofs.YtccbpbdfihnlgaaDoorW.PrintMore
/-! ### texts -/
def encR (r : S55) : ByteArray := (((if r.f2.toList = [] then r.f1 else ⟨#[64]⟩ ++ r.f2) ++ ⟨#[32]⟩) ++ r.f0) ++ ⟨#[10]⟩
def textF (l : List S55) : Nat → Nat → ByteArray → ByteArray
  | 0, _, acc => acc
  | d + 1, i, acc => textF l d (i + 1) (acc ++ encR (at55 l i))
theorem b1 (c : UInt8) : (⟨#[c]⟩ : ByteArray).size = 1 := rfl
theorem nameB_size {s : ByteArray} (h : nameB s = true) : s.size ≤ 255 := by
  unfold nameB at h
  rw [Bool.or_eq_true, decide_eq_true_eq] at h
  rcases h with h | h
  · have := Lib.size_eq s
    rw [← Lib.toList_data, h] at this
    simp at this; omega
  · unfold nameIn at h
    rw [Bool.and_eq_true] at h
    exact isPath_size h.1
theorem chkR_zero {r : S55} (h : chkR r = 0) : nameB r.f0 = true ∧ wholeB r = true := by
  unfold chkR at h
  split at h
  · rename_i h1
    split at h
    · rename_i h2; exact ⟨h1, h2⟩
    · cases h
  · cases h
theorem whole_cases {r : S55} (h : wholeB r = true) : (r.f2.toList = [] ∧ idOk r.f1 = true) ∨ (r.f2.toList ≠ [] ∧ r.f1.toList = [] ∧ nameB r.f2 = true) := by
  unfold wholeB at h
  split at h
  · rename_i h1; exact .inl ⟨h1, h⟩
  · rename_i h1
    rw [Bool.and_eq_true, decide_eq_true_eq] at h
    exact .inr ⟨h1, h.1, h.2⟩
theorem nil_size {s : ByteArray} (h : s.toList = []) : s.size = 0 := by
  have := Lib.size_eq s
  rw [← Lib.toList_data, h] at this
  simpa using this
theorem nil_is {s : ByteArray} (h : s.toList = []) : s = ⟨#[]⟩ := ba_ext (by rw [← Lib.toList_data, h])
theorem ref_sizes {r : S55} (h : chkR r = 0) : r.f0.size ≤ 255 ∧ r.f1.size ≤ 40 ∧ r.f2.size ≤ 255 := by
  obtain ⟨h1, h2⟩ := chkR_zero h
  refine ⟨nameB_size h1, ?_⟩
  rcases whole_cases h2 with ⟨h3, h4⟩ | ⟨_, h3, h4⟩
  · have := nil_size h3
    have := idOk_size h4
    omega
  · have := nil_size h3
    have := nameB_size h4
    omega
theorem encR_size {r : S55} (h : chkR r = 0) : (encR r).size ≤ 600 := by
  obtain ⟨h0, h1, h2⟩ := ref_sizes h
  unfold encR
  rw [ByteArray.size_append, ByteArray.size_append, ByteArray.size_append, b1, b1]
  split
  · omega
  · rw [ByteArray.size_append, b1]; omega
theorem strOfNums_bytes (s : ByteArray) : strOfNums (bytesOf s) = s := by
  apply ba_ext
  simp [strOfNums, bytesOf, Function.comp_def]
theorem bytesOf_app (a b : ByteArray) : bytesOf (a ++ b) = bytesOf a ++ bytesOf b := by simp [bytesOf]
section
variable (l : List S55) (hn : l.length ≤ 1024) (hc : ∀ r ∈ l, chkR r = 0)
include hn hc
theorem Text_l0 : ∀ (d i : Nat) (acc : ByteArray), i + d = l.length → acc.size ≤ i * 600 → Ev (fun k => refs_Text.l0 k l l.length i acc) (textF l d i acc, 0) := by
  intro d
  induction d with
  | zero =>
    intro i acc hi ha
    exact Ev.step (f := fun _ => some (acc, 0)) (fun k => by rw [refs_Text.l0, if_neg (by omega)]; rfl) (Ev.now _)
  | succ d ih =>
    intro i acc hi ha
    have hlt : i < l.length := by omega
    have hz := hc (at55 l i) (by rw [at55_get _ _ hlt]; exact List.getElem_mem hlt)
    obtain ⟨s0, s1, s2⟩ := ref_sizes hz
    have hsz := encR_size hz
    have e0 : rd_T55 l (i : Int) = at55 l i := rfl
    have hw : Builder_WriteString.f acc (encR (at55 l i)) = some (((encR (at55 l i)).size : Int), none, acc ++ encR (at55 l i)) := by
      unfold Builder_WriteString.f
      rw [if_pos (by omega)]
    rw [textF]
    refine Ev.step (f := fun k => refs_Text.l0 k l l.length ((i : Int) + 1) (acc ++ encR (at55 l i))) (fun k => ?_) ?_
    · rw [refs_Text.l0, if_pos (by omega), if_pos (by omega), if_pos (by omega), e0]
      by_cases h2 : (at55 l i).f2.toList = []
      · have he : encR (at55 l i) = (((at55 l i).f1 ++ ⟨#[32]⟩) ++ (at55 l i).f0) ++ ⟨#[10]⟩ := by unfold encR; rw [if_pos h2]
        rw [if_pos h2, if_pos (by omega), if_pos (by rw [ByteArray.size_append, b1]; omega), if_pos (by rw [ByteArray.size_append, ByteArray.size_append, b1]; omega), ← he, hw, Option.bind_some, wrap_id (by omega) (by omega)]
      · have he : encR (at55 l i) = (((⟨#[64]⟩ ++ (at55 l i).f2) ++ ⟨#[32]⟩) ++ (at55 l i).f0) ++ ⟨#[10]⟩ := by unfold encR; rw [if_neg h2]
        rw [if_neg h2, if_pos (by omega), if_pos (by rw [ByteArray.size_append, b1]; omega), if_pos (by rw [ByteArray.size_append, ByteArray.size_append, b1, b1]; omega), if_pos (by rw [ByteArray.size_append, ByteArray.size_append, ByteArray.size_append, b1, b1]; omega), ← he, hw, Option.bind_some, wrap_id (by omega) (by omega)]
    · exact_mod_cast ih (i + 1) _ (by omega) (by rw [ByteArray.size_append]; omega)
theorem refText_l0 : ∀ (d i : Nat) (acc : ByteArray), i + d = l.length → acc.size ≤ i * 600 → Ev (fun k => graftageref37_Text.l0 k l (bytesOf acc) l.length i) (textF l d i acc, 0) := by
  intro d
  induction d with
  | zero =>
    intro i acc hi ha
    exact Ev.step (f := fun _ => some (acc, 0)) (fun k => by rw [graftageref37_Text.l0, if_neg (by omega), strOfNums_bytes]) (Ev.now _)
  | succ d ih =>
    intro i acc hi ha
    have hlt : i < l.length := by omega
    have hz := hc (at55 l i) (by rw [at55_get _ _ hlt]; exact List.getElem_mem hlt)
    obtain ⟨s0, s1, s2⟩ := ref_sizes hz
    have hsz := encR_size hz
    have e0 : rd_T55 l (i : Int) = at55 l i := rfl
    rw [textF]
    refine Ev.step (f := fun k => graftageref37_Text.l0 k l (bytesOf (acc ++ encR (at55 l i))) l.length ((i : Int) + 1)) (fun k => ?_) ?_
    · rw [graftageref37_Text.l0, if_pos (by omega), if_pos (by omega), if_pos (by omega), e0]
      by_cases h2 : (at55 l i).f2.toList = []
      · have he : encR (at55 l i) = (((at55 l i).f1 ++ ⟨#[32]⟩) ++ (at55 l i).f0) ++ ⟨#[10]⟩ := by unfold encR; rw [if_pos h2]
        rw [if_pos h2, if_pos (by omega), if_pos (by rw [ByteArray.size_append, b1]; omega), if_pos (by rw [ByteArray.size_append, ByteArray.size_append, b1]; omega), ← he, if_pos (by rw [bytesOf_length]; omega), wrap_id (by omega) (by omega), bytesOf_app]
      · have he : encR (at55 l i) = (((⟨#[64]⟩ ++ (at55 l i).f2) ++ ⟨#[32]⟩) ++ (at55 l i).f0) ++ ⟨#[10]⟩ := by unfold encR; rw [if_neg h2]
        have hw := whole_cases (chkR_zero hz).2
        have h1 : (at55 l i).f1 = ⟨#[]⟩ := by
          rcases hw with ⟨h3, _⟩ | ⟨_, h3, _⟩
          · exact absurd h3 h2
          · exact nil_is h3
        rw [if_neg h2, if_pos (by omega), if_pos (by rw [bytesOf_length, ByteArray.size_append, b1]; omega)]
        simp only [Option.bind_some]
        rw [h1, if_pos (by decide), if_pos (by rw [ByteArray.size_append, b1, show (⟨#[]⟩ : ByteArray).size = 0 from rfl]; omega), if_pos (by rw [ByteArray.size_append, ByteArray.size_append, b1, show (⟨#[]⟩ : ByteArray).size = 0 from rfl]; omega),
          if_pos (by rw [List.length_append, bytesOf_length, bytesOf_length, ByteArray.size_append, ByteArray.size_append, ByteArray.size_append, ByteArray.size_append, b1, b1, b1, show (⟨#[]⟩ : ByteArray).size = 0 from rfl]; omega), wrap_id (by omega) (by omega)]
        congr 1
        rw [he]
        simp only [bytesOf_app, List.append_assoc]
        rfl
    · exact_mod_cast ih (i + 1) _ (by omega) (by rw [ByteArray.size_append]; omega)
end
theorem Text_both (l : List S55) (hs : l.length ≤ 1024 → ∀ x ∈ l, x.f0.size ≤ 4294967280 ∧ x.f2.size ≤ 4294967280) : ∃ q : ByteArray × Int, Ev (fun k => refs_Text.f k l) q ∧ Ev (fun k => graftageref37_Text.f k l) q ∧ Ev (fun k => refs_Check.f k l) q.2 ∧ (q.2 = 0 → q.1 = textF l l.length 0 ⟨#[]⟩ ∧ l.length ≤ 1024 ∧ ∀ r ∈ l, chkR r = 0) := by
  obtain ⟨c, h1, h2, h3⟩ := Check_both l hs
  by_cases hc : c = 0
  · obtain ⟨h4, h5⟩ := h3 hc
    refine ⟨(textF l l.length 0 ⟨#[]⟩, 0), Ev.bind h1 ?_, Ev.bind h2 ?_, hc ▸ h1, fun _ => ⟨rfl, h4, h5⟩⟩
    · simp only [hc, if_true]; exact_mod_cast Text_l0 l h4 h5 l.length 0 ⟨#[]⟩ (by omega) (by decide)
    · simp only [hc, if_true]; exact_mod_cast refText_l0 l h4 h5 l.length 0 ⟨#[]⟩ (by omega) (by decide)
  · refine ⟨(⟨#[]⟩, c), Ev.bind h1 ?_, Ev.bind h2 ?_, h1, fun h => absurd h hc⟩
    · simp only [if_neg hc]; exact Ev.now _
    · simp only [if_neg hc]; exact Ev.now _
/-! ### one line -/
def lnO (x : ByteArray) : Option S55 :=
  if Lib.indexByte x.data.toList 32 < 0 ∨ Lib.indexByte x.data.toList 32 = (x.size : Int) - 1 ∨ (x.data.toList.drop ((Lib.indexByte x.data.toList 32).toNat + 1)).contains 32 = true then none
  else if bt x 0 = 64 ∧ 2 ≤ (Lib.indexByte x.data.toList 32).toNat then some ⟨x.extract ((Lib.indexByte x.data.toList 32).toNat + 1) x.size, ⟨#[]⟩, x.extract 1 (Lib.indexByte x.data.toList 32).toNat⟩
  else if idOk (x.extract 0 (Lib.indexByte x.data.toList 32).toNat) = true then some ⟨x.extract ((Lib.indexByte x.data.toList 32).toNat + 1) x.size, x.extract 0 (Lib.indexByte x.data.toList 32).toNat, ⟨#[]⟩⟩
  else none
def lnR (o : Option S55) : ByteArray × ByteArray × ByteArray × Bool := match o with | some r => (r.f0, r.f1, r.f2, true) | none => (⟨#[]⟩, ⟨#[]⟩, ⟨#[]⟩, false)
def lastF (s : ByteArray) (c : Int) : Nat → Int
  | 0 => -1
  | n + 1 => if bt s n = c then n else lastF s c n
theorem last_l0 (s : ByteArray) (hs : s.size ≤ 140737488351232) (c : Int) : ∀ n : Nat, n ≤ s.size → Ev (fun k => bytealg_LastIndexByteString.l0 k s c ((n : Int) - 1)) (lastF s c n) := by
  intro n
  induction n with
  | zero =>
    intro _
    exact Ev.step (f := fun _ => some (-1)) (fun k => by rw [bytealg_LastIndexByteString.l0, if_neg (by omega)]) (Ev.now _)
  | succ n ih =>
    intro hn
    rw [lastF]
    have e : ((n + 1 : Nat) : Int) - 1 = (n : Int) := by omega
    rw [e]
    refine Ev.step (f := fun k => if bt s n = c then some (n : Int) else bytealg_LastIndexByteString.l0 k s c ((n : Int) - 1)) (fun k => by rw [bytealg_LastIndexByteString.l0, if_pos (by omega), if_pos (by omega), if_pos (by omega), wrap_id (by omega) (by omega)]) ?_
    exact ev_iff (fun h => by rw [if_pos h]; exact Ev.now _) (fun h => by rw [if_neg h]; exact ih (by omega))
theorem last_ev (s : ByteArray) (hs : s.size ≤ 140737488351232) (c : Int) : Ev (fun k => strings_LastIndexByte.f k s c) (lastF s c s.size) := by
  refine Ev.bind (r := lastF s c s.size) ?_ (Ev.now _)
  have := last_l0 s hs c s.size (Nat.le_refl _)
  refine Ev.congr (fun k => ?_) this
  unfold bytealg_LastIndexByteString.f
  rw [wrap_id (by omega) (by omega)]
theorem lastF_spec (s : ByteArray) (c : Int) : ∀ n i : Nat, i < n → bt s i = c → (lastF s c n = (i : Int) ↔ ∀ j : Nat, i < j → j < n → bt s j ≠ c)
  | 0, i, h, _ => by omega
  | n + 1, i, h, hi => by
    rw [lastF]
    by_cases hn : bt s n = c
    · rw [if_pos hn]
      constructor
      · intro e j h1 h2
        omega
      · intro hh
        by_cases e : i = n
        · rw [e]
        · exact absurd hn (hh n (by omega) (by omega))
    · rw [if_neg hn]
      have hne : i ≠ n := fun e => hn (e ▸ hi)
      rw [lastF_spec s c n i (by omega) hi]
      constructor
      · intro hh j h1 h2
        by_cases e : j = n
        · rw [e]; exact hn
        · exact hh j h1 (by omega)
      · intro hh j h1 h2
        exact hh j h1 (by omega)
theorem bt_is (s : ByteArray) (i : Nat) (h : i < s.size) (c : UInt8) : bt s i = (c.toNat : Int) ↔ s.data.toList[i]? = some c := by
  have hl : i < s.data.toList.length := by rw [← Lib.size_eq]; exact h
  rw [bt_get s i h, List.getElem?_eq_getElem hl]
  constructor
  · intro e
    have h1 : s.data.toList[i] = c := UInt8.toNat_inj.1 (by exact_mod_cast e)
    rw [h1]
  · intro e; rw [Option.some.inj e]
theorem last_ne (s : ByteArray) (i : Nat) (hi : s.data.toList[i]? = some 32) : decide (lastF s 32 s.size ≠ (i : Int)) = (s.data.toList.drop (i + 1)).contains 32 := by
  have hil : i < s.data.toList.length := (List.getElem?_eq_some_iff.1 hi).1
  have hl : s.data.toList.length = s.size := (Lib.size_eq s).symm
  have hb : bt s i = 32 := (bt_is s i (by omega) 32).2 hi
  rw [Bool.eq_iff_iff, decide_eq_true_eq, ne_eq, lastF_spec s 32 s.size i (by omega) hb, List.contains_iff_mem]
  constructor
  · intro h
    apply Classical.byContradiction
    intro hn
    apply h
    intro j h1 h2 h3
    have := (bt_is s j h2 32).1 h3
    apply hn
    refine List.mem_of_getElem? (i := j - (i + 1)) ?_
    rw [List.getElem?_drop, show i + 1 + (j - (i + 1)) = j by omega]
    exact this
  · intro h hh
    obtain ⟨j, hj⟩ := List.mem_iff_getElem?.1 h
    rw [List.getElem?_drop] at hj
    have hjl : i + 1 + j < s.data.toList.length := (List.getElem?_eq_some_iff.1 hj).1
    exact hh (i + 1 + j) (by omega) (by omega) ((bt_is s _ (by omega) 32).2 hj)
theorem ib_at {l : List UInt8} {c : UInt8} {i : Nat} (h : Lib.indexByte l c = (i : Int)) : l[i]? = some c := (Lib.indexByte_some h).1
theorem ext_size (s : ByteArray) (i j : Nat) (hj : j ≤ s.size) : (s.extract i j).size = j - i := by
  rw [Lib.size_eq, Lib.extract_data, List.length_take, List.length_drop, ← Lib.size_eq]
  omega
theorem bt_ext0 (s : ByteArray) (a : Nat) (h0 : 0 < a) (ha : a ≤ s.size) : bt (s.extract 0 a) 0 = bt s 0 := by
  have h1 := bt_get (s.extract 0 a) 0 (by rw [ext_size _ _ _ ha]; omega)
  have h2 := bt_get s 0 (by omega)
  have e : (s.extract 0 a).data.toList = s.data.toList.take a := by rw [Lib.extract_data, List.drop_zero, Nat.sub_zero]
  have h3 : (s.extract 0 a).data.toList[0]? = s.data.toList[0]? := by rw [e, List.getElem?_take, if_pos h0]
  have hl1 : 0 < (s.extract 0 a).data.toList.length := by rw [← Lib.size_eq, ext_size _ _ _ ha]; omega
  have hl2 : 0 < s.data.toList.length := by rw [← Lib.size_eq]; omega
  rw [List.getElem?_eq_getElem hl1, List.getElem?_eq_getElem hl2] at h3
  have h4 := Option.some.inj h3
  have h1' : bt (s.extract 0 a) 0 = (((s.extract 0 a).data.toList[0]'hl1).toNat : Int) := h1
  have h2' : bt s 0 = ((s.data.toList[0]'hl2).toNat : Int) := h2
  rw [h1', h2', h4]
theorem pre_at (t : ByteArray) : preB t ⟨#[64]⟩ = true ↔ 1 ≤ t.size ∧ bt t 0 = 64 := by
  unfold preB
  rw [Bool.and_eq_true, decide_eq_true_eq, b1, beq_iff_eq]
  constructor
  · rintro ⟨h1, h2⟩
    refine ⟨h1, ?_⟩
    rw [Lib.toList_data, Lib.extract_data, List.drop_zero, Nat.sub_zero, Lib.toList_data] at h2
    have : t.data.toList[0]? = some 64 := by
      have h3 : (t.data.toList.take 1)[0]? = some 64 := by rw [h2]; rfl
      rwa [List.getElem?_take, if_pos (by omega)] at h3
    exact (bt_is t 0 h1 64).2 this
  · rintro ⟨h1, h2⟩
    refine ⟨h1, ?_⟩
    have := (bt_is t 0 h1 64).1 h2
    rw [Lib.toList_data, Lib.extract_data, List.drop_zero, Nat.sub_zero, Lib.toList_data]
    have hl : 0 < t.data.toList.length := by rw [← Lib.size_eq]; exact h1
    rw [List.take_succ_eq_append_getElem hl, List.take_zero, List.nil_append]
    rw [List.getElem?_eq_getElem hl] at this
    rw [Option.some.inj this]
theorem CutPrefix_at (t : ByteArray) : strings_CutPrefix.f t ⟨#[64]⟩ = some (if preB t ⟨#[64]⟩ = true then (t.extract 1 t.size, true) else (t, false)) := by
  unfold strings_CutPrefix.f stringslite_CutPrefix.f
  have h0 := HasPrefix_is t ⟨#[64]⟩
  unfold strings_HasPrefix.f at h0
  have h2 : stringslite_HasPrefix.f t ⟨#[64]⟩ = some (preB t ⟨#[64]⟩) := by simpa using h0
  rw [h2]
  simp only [Option.bind_some]
  by_cases h : preB t ⟨#[64]⟩ = true
  · have := ((pre_at t).1 h).1
    rw [if_pos h, if_pos h, if_pos (by rw [b1]; omega), if_pos (by rw [b1]; omega)]; rfl
  · rw [if_neg h, if_neg h]; rfl
theorem line_ev (x : ByteArray) (hx : x.size ≤ 140737488351232) : Ev (fun k => refs_line.f k x) (lnR (lnO x)) := by
  have hI : strings_IndexByte.f x 32 = some (Lib.indexByte x.data.toList 32) := rfl
  have hge := Lib.indexByte_ge x.data.toList 32
  have hl : x.data.toList.length = x.size := (Lib.size_eq x).symm
  have hT : ∀ i : Int, Ev (fun k => refs_line.j0 k x i true) (lnR none) := fun i => Ev.step (f := fun _ => some (lnR none)) (fun k => by rw [refs_line.j0, if_pos rfl]; rfl) (Ev.now _)
  refine Ev.congr (f := fun k => (some (Lib.indexByte x.data.toList 32)).bind fun t102 => (if t102 < 0 then (refs_line.j0 k x t102 true) else (if t102 = (wrap64 ((x.size : Int) - 1)) then (refs_line.j0 k x t102 true) else ((strings_LastIndexByte.f k x 32).bind fun t103 => (refs_line.j0 k x t102 (t103 != t102)))))) (fun k => by unfold refs_line.f; rw [hI]) ?_
  simp only [Option.bind_some]
  rw [wrap_id (by omega) (by omega)]
  unfold lnO
  by_cases h1 : Lib.indexByte x.data.toList 32 < 0
  · simp only [if_pos h1, h1, true_or, if_true]; exact hT _
  simp only [if_neg h1, h1, false_or]
  obtain ⟨a, ha⟩ := Int.eq_ofNat_of_zero_le (show 0 ≤ Lib.indexByte x.data.toList 32 by omega)
  have hat := ib_at ha
  have hal : a < x.data.toList.length := (List.getElem?_eq_some_iff.1 hat).1
  rw [ha]
  simp only [Int.toNat_natCast]
  by_cases h2 : (a : Int) = (x.size : Int) - 1
  · simp only [if_pos h2, h2, true_or, if_true]; exact hT _
  simp only [if_neg h2, h2, false_or]
  refine Ev.bind (last_ev x hx 32) ?_
  have hb : (lastF x 32 x.size != (a : Int)) = (x.data.toList.drop (a + 1)).contains 32 := by
    rw [← last_ne x a hat]
    by_cases e : lastF x 32 x.size = (a : Int)
    · simp [e]
    · simp [e]
  rw [hb]
  by_cases h3 : (x.data.toList.drop (a + 1)).contains 32 = true
  · rw [h3, if_pos rfl]; exact hT _
  have h3' : (x.data.toList.drop (a + 1)).contains 32 = false := by simpa using h3
  rw [h3', if_neg (by decide)]
  have hts : (x.extract 0 a).size = a := by rw [ext_size _ _ _ (by omega)]; omega
  refine Ev.step (f := fun k => (strings_CutPrefix.f (x.extract 0 a) (⟨#[64]⟩ : ByteArray)).bind fun bt105 => (if bt105.2 = true then (refs_line.j1 k (x.extract 0 a) bt105.1 (bt105.1.toList != ([] : List UInt8)) (x.extract (a + 1) x.size) (⟨#[]⟩ : ByteArray) (⟨#[]⟩ : ByteArray)) else (refs_line.j1 k (x.extract 0 a) bt105.1 false (x.extract (a + 1) x.size) (⟨#[]⟩ : ByteArray) (⟨#[]⟩ : ByteArray)))) (fun k => by rw [refs_line.j0, if_neg (by decide), wrap_id (by omega) (by omega), if_pos (by omega), if_pos (by omega), if_pos (by omega), if_pos (by omega), Int.toNat_natCast, show ((a : Int) + 1).toNat = a + 1 by omega]) ?_
  rw [CutPrefix_at]
  simp only [Option.bind_some]
  have hid : ∀ t : ByteArray, Ev (fun k => refs_line.j1 k (x.extract 0 a) t false (x.extract (a + 1) x.size) (⟨#[]⟩ : ByteArray) (⟨#[]⟩ : ByteArray)) (lnR (if idOk (x.extract 0 a) = true then some ⟨x.extract (a + 1) x.size, x.extract 0 a, ⟨#[]⟩⟩ else none)) := fun t => by
    refine Ev.step (f := fun k => (ident_Is.f k (x.extract 0 a)).bind fun t107 => (if t107 = true then (some (x.extract (a + 1) x.size, x.extract 0 a, (⟨#[]⟩ : ByteArray), true)) else (some ((⟨#[]⟩ : ByteArray), (⟨#[]⟩ : ByteArray), (⟨#[]⟩ : ByteArray), false)))) (fun k => by rw [refs_line.j1, if_neg (by decide)]) ?_
    refine Ev.bind (ident_Is_ev _) (ev_iff (fun h => ?_) (fun h => ?_))
    · rw [if_pos h]; exact Ev.now _
    · rw [if_neg h]; exact Ev.now _
  by_cases hp : preB (x.extract 0 a) ⟨#[64]⟩ = true
  · obtain ⟨q1, q2⟩ := (pre_at _).1 hp
    rw [hts] at q1
    rw [bt_ext0 x a (by omega) (by omega)] at q2
    simp only [if_pos hp, if_true, hts]
    have hsym : (x.extract 0 a).extract 1 a = x.extract 1 a := by
      apply ba_ext
      rw [Lib.extract_data, Lib.extract_data, Lib.extract_data, List.drop_zero, Nat.sub_zero, List.drop_take, List.take_take, Nat.min_self]
    rw [hsym]
    by_cases h4 : 2 ≤ a
    · rw [if_pos ⟨q2, h4⟩]
      have hne : ((x.extract 1 a).toList != ([] : List UInt8)) = true := by
        rw [bne_iff_ne]
        intro e
        have := nil_size e
        rw [ext_size _ _ _ (by omega)] at this
        omega
      rw [hne]
      exact Ev.step (f := fun _ => some (lnR (some ⟨x.extract (a + 1) x.size, ⟨#[]⟩, x.extract 1 a⟩))) (fun k => by rw [refs_line.j1, if_pos rfl]; rfl) (Ev.now _)
    · rw [if_neg (fun h => h4 h.2)]
      have hne : ((x.extract 1 a).toList != ([] : List UInt8)) = false := by
        rw [bne_eq_false_iff_eq, Lib.toList_data]
        have : (x.extract 1 a).size = 0 := by rw [ext_size _ _ _ (by omega)]; omega
        rw [Lib.size_eq] at this
        exact List.length_eq_zero_iff.1 this
      rw [hne]
      exact hid _
  · simp only [if_neg hp, Bool.false_eq_true, if_false]
    have hn64 : ¬ (bt x 0 = 64 ∧ 2 ≤ a) := fun h => hp ((pre_at _).2 ⟨by rw [hts]; omega, by rw [bt_ext0 x a (by omega) (by omega)]; exact h.1⟩)
    rw [if_neg hn64]
    exact hid _
end Go.Proofs.YtccbpbdfihnlgaaDoor.Q


/- Contracts of Go functions as calls of plain Lean functions, written by a program of this session over the kit's print. -/
namespace Go.Proofs.YtccbpbdfihnlgaaDoor.Q
open Go.RowKit Go.Proofs.YtccbpbdfihnlgaaDoorW.PrintWords Go.Proofs.YtccbpbdfihnlgaaDoorW.PrintLast Go.Proofs.YtccbpbdfihnlgaaDoorW.PrintMore
attribute [local go_sem] max2_int min2_int max_two min_two max_three min_three max_four min_four   -- for this text's walks alone

/-! ### graftagelaw37_RefsBack: function 11 -/
mutual
def graftagelaw37_RefsBack.j0 : Nat → List (S55) → ByteArray → Bool → Option (Bool)
  | 0, _, _, _ => none
  | k + 1, x0, x1, x20 => if x20 = true then ((graftagelaw37_lives.f k).bind fun t125 => (some t125)) else ((refs_Text.f k x0).bind fun bt126 => (if bt126.2 = 0 then ((refs_Parse.f k bt126.1).bind fun bt128 => (if bt128.2 = 0 then ((graftageref37_Same.f k x0 bt128.1).bind fun t132 => (if t132 = true then (graftagelaw37_RefsBack.j1 k x1) else (some false))) else (some false))) else (graftagelaw37_RefsBack.j1 k x1)))
def graftagelaw37_RefsBack.j1 : Nat → ByteArray → Option (Bool)
  | 0, _ => none
  | k + 1, x1 => (refs_Parse.f k x1).bind fun bt133 => (if bt133.2 = 0 then ((refs_Text.f k bt133.1).bind fun bt137 => (if bt137.2 = 0 then (if bt137.1.toList = x1.toList then ((graftagelaw37_lives.f k).bind fun t139 => (some t139)) else (some false)) else (some false))) else (if (bt133.1.length : Int) = 0 then ((graftagelaw37_lives.f k).bind fun t140 => (some t140)) else (some false)))
end
end Go.Proofs.YtccbpbdfihnlgaaDoor.Q


/- Refs: RefsTexts and RefsBack. -/
namespace Go.Proofs.YtccbpbdfihnlgaaDoor.Q
open Go.RowKit Go.Proofs.YtccbpbdfihnlgaaDoorW.PrintWords Go.Proofs.YtccbpbdfihnlgaaDoorW.PrintLast Go.Proofs.YtccbpbdfihnlgaaDoorW.PrintMore
theorem ib_app : ∀ (l : List UInt8) (c d : UInt8), d ≠ c → Lib.indexByte (l ++ [d]) c = Lib.indexByte l c
  | [], c, d, h => by simp [Lib.indexByte, h]
  | b :: r, c, d, h => by
    rw [List.cons_append, Lib.indexByte, Lib.indexByte, ib_app r c d h]
theorem ib_mem : ∀ (l : List UInt8) (c : UInt8), Lib.indexByte l c = -1 ↔ c ∉ l
  | [], _ => by simp [Lib.indexByte]
  | b :: r, c => by
    have hge := Lib.indexByte_ge r c
    have ih := ib_mem r c
    rw [Lib.indexByte]
    by_cases e : b = c
    · rw [if_pos (by simp [e])]; simp [e]
    · rw [if_neg (by simpa using e)]
      by_cases e2 : Lib.indexByte r c = -1
      · rw [if_pos (by simp [e2])]
        simp only [List.mem_cons, not_or, true_iff]
        exact ⟨fun x => e x.symm, ih.1 e2⟩
      · rw [if_neg (by simpa using e2)]
        constructor
        · intro h; omega
        · intro h; simp only [List.mem_cons, not_or] at h; exact absurd (ih.2 h.2) e2
theorem ixF_zero (l : List UInt8) (c : UInt8) : ixF l c 0 = Lib.indexByte l c := by
  unfold ixF
  rw [List.drop_zero]
  by_cases h : Lib.indexByte l c = -1
  · rw [if_pos h, h]
  · rw [if_neg h]; simp
theorem ixF_pos (l : List UInt8) (c : UInt8) (i : Nat) : decide (ixF l c i ≥ 0) = (l.drop i).contains c := by
  have hge := Lib.indexByte_ge (l.drop i) c
  rw [Bool.eq_iff_iff, decide_eq_true_eq, List.contains_iff_mem]
  unfold ixF
  by_cases h : Lib.indexByte (l.drop i) c = -1
  · rw [if_pos h]
    exact ⟨fun hh => by omega, fun hh => absurd hh ((ib_mem _ _).1 h)⟩
  · rw [if_neg h]
    exact ⟨fun _ => Classical.byContradiction fun hn => h ((ib_mem _ _).2 hn), fun _ => by omega⟩
section
variable (s x : ByteArray) (hx : x.size ≤ 140737488351000) (hs : s.data.toList = x.data.toList ++ [10])
include hx hs
theorem one_ev : ∃ q, Ev (fun k => graftageref37_one.f k s) q ∧ q.2.2.2 = (lnO x).isSome ∧ ∀ r, lnO x = some r → q = (r.f0, r.f1, r.f2, true) := by
  have hl : x.data.toList.length = x.size := (Lib.size_eq x).symm
  have hsz : s.size = x.size + 1 := by rw [Lib.size_eq, hs, List.length_append, hl]; rfl
  have hge := Lib.indexByte_ge x.data.toList 32
  have hF0 := Find_ev s (by omega) 32 0 (by omega)
  have hix : ixF s.data.toList 32 0 = Lib.indexByte x.data.toList 32 := by rw [ixF_zero, hs, ib_app _ _ _ (by decide)]
  rw [hix] at hF0
  have hF0' : Ev (fun k => graftageref14_Find.f k s 32 0) (Lib.indexByte x.data.toList 32) := by exact_mod_cast hF0
  have hT : ∀ i j : Int, Ev (fun k => graftageref37_one.j0 k s i j true) (lnR none) := fun i j => Ev.step (f := fun _ => some (lnR none)) (fun k => by rw [graftageref37_one.j0, if_pos rfl]; rfl) (Ev.now _)
  have hW : wrap64 ((s.size : Int) - 1) = (x.size : Int) := by rw [wrap_id (by omega) (by omega)]; omega
  have hlast : bt s (x.size : Int) = 10 := (bt_is s x.size (by omega) 10).2 (by rw [hs, List.getElem?_append_right (by omega), hl, Nat.sub_self]; rfl)
  have hst : ∀ k, graftageref37_one.f k s = (graftageref14_Find.f k s 32 0).bind fun t111 => (if t111 < 0 then (graftageref37_one.j0 k s t111 (x.size : Int) true) else (if (x.size : Int) = (wrap64 (t111 + 1)) then (graftageref37_one.j0 k s t111 (x.size : Int) true) else ((graftageref14_Find.f k s 32 (wrap64 (t111 + 1))).bind fun t112 => (graftageref37_one.j0 k s t111 (x.size : Int) (decide (t112 ≥ 0)))))) := fun k => by
    unfold graftageref37_one.f
    rw [hW]
    congr 1
    funext t
    rw [if_pos (show (0 : Int) ≤ (x.size : Int) by omega), if_pos (show (x.size : Int) < (s.size : Int) by omega), if_pos hlast]
  unfold lnO
  by_cases h1 : Lib.indexByte x.data.toList 32 < 0
  · refine ⟨lnR none, Ev.congr hst (Ev.bind hF0' ?_), by simp [h1, lnR], fun r hr => by simp [h1] at hr⟩
    simp only [if_pos h1]; exact hT _ _
  obtain ⟨a, ha⟩ := Int.eq_ofNat_of_zero_le (show 0 ≤ Lib.indexByte x.data.toList 32 by omega)
  have hat := ib_at ha
  have hal : a < x.data.toList.length := (List.getElem?_eq_some_iff.1 hat).1
  rw [ha] at hF0' h1 ⊢
  simp only [Int.toNat_natCast]
  have hwa : wrap64 ((a : Int) + 1) = (a : Int) + 1 := wrap_id (by omega) (by omega)
  by_cases h2 : (a : Int) = (x.size : Int) - 1
  · refine ⟨lnR none, Ev.congr hst (Ev.bind hF0' ?_), by simp [h2, lnR], fun r hr => by simp [h2] at hr⟩
    simp only [if_neg h1, hwa, show (x.size : Int) = (a : Int) + 1 from by omega, if_true]; exact hT _ _
  have hF1 := Find_ev s (by omega) 32 (a + 1) (by omega)
  have hpos : decide (ixF s.data.toList 32 (a + 1) ≥ 0) = (x.data.toList.drop (a + 1)).contains 32 := by
    rw [ixF_pos, hs, List.drop_append_of_le_length (by omega), Bool.eq_iff_iff, List.contains_iff_mem, List.contains_iff_mem, List.mem_append]
    simp
  have hF1' : Ev (fun k => graftageref14_Find.f k s 32 ((a : Int) + 1)) (ixF s.data.toList 32 (a + 1)) := by exact_mod_cast hF1
  by_cases h3 : (x.data.toList.drop (a + 1)).contains 32 = true
  · refine ⟨lnR none, Ev.congr hst (Ev.bind hF0' ?_), by simp only [h3, or_true, if_true]; rfl, fun r hr => by simp only [h3, or_true, if_true] at hr; cases hr⟩
    simp only [if_neg h1, hwa, if_neg (show ¬ (x.size : Int) = (a : Int) + 1 by omega)]
    refine Ev.bind hF1' ?_
    rw [hpos, h3]; exact hT _ _
  have h3' : (x.data.toList.drop (a + 1)).contains 32 = false := by simpa using h3
  have hc : ¬ ((a : Int) < 0 ∨ (a : Int) = (x.size : Int) - 1 ∨ (x.data.toList.drop (a + 1)).contains 32 = true) := by
    rintro (h | h | h)
    · exact h1 h
    · exact h2 h
    · exact h3 h
  rw [if_neg hc]
  have e1 : s.extract (a + 1) x.size = x.extract (a + 1) x.size := by
    apply ba_ext
    rw [Lib.extract_data, Lib.extract_data, hs, List.drop_append_of_le_length (by omega), List.take_append_of_le_length (by rw [List.length_drop]; omega)]
  have e2 : s.extract 1 a = x.extract 1 a := by
    apply ba_ext
    rw [Lib.extract_data, Lib.extract_data, hs]
    by_cases h0 : 1 ≤ a
    · rw [List.drop_append_of_le_length (by omega), List.take_append_of_le_length (by rw [List.length_drop]; omega)]
    · rw [show a - 1 = 0 by omega]; simp
  have e3 : s.extract 0 a = x.extract 0 a := by
    apply ba_ext
    rw [Lib.extract_data, Lib.extract_data, hs, List.drop_zero, List.drop_zero, List.take_append_of_le_length (by omega)]
  have eb : bt s 0 = bt x 0 := by
    have q1 : bt s 0 = ((s.data.toList[0]'(by rw [← Lib.size_eq]; omega)).toNat : Int) := bt_get s 0 (by omega)
    have q2 : bt x 0 = ((x.data.toList[0]'(by omega)).toNat : Int) := bt_get x 0 (by omega)
    rw [q1, q2]
    simp only [hs]
    rw [List.getElem_append_left (by omega)]
  have hgo : ∀ q, Ev (fun k => graftageref37_one.j0 k s (a : Int) (x.size : Int) false) q → Ev (fun k => graftageref37_one.f k s) q := fun q hq => by
    refine Ev.congr hst (Ev.bind hF0' ?_)
    simp only [if_neg h1, hwa, if_neg (show ¬ (x.size : Int) = (a : Int) + 1 by omega)]
    refine Ev.bind hF1' ?_
    rw [hpos, h3']; exact hq
  have hj : ∀ k, graftageref37_one.j0 (k + 1) s (a : Int) (x.size : Int) false = (if (bt x 0) = 64 then (if 1 ≤ (a : Int) then (some (x.extract (a + 1) x.size, (⟨#[]⟩ : ByteArray), x.extract 1 a, decide ((a : Int) > 1))) else none) else ((graftageref02_Is.f k (x.extract 0 a)).bind fun t113 => (some (x.extract (a + 1) x.size, x.extract 0 a, (⟨#[]⟩ : ByteArray), t113)))) := fun k => by
    rw [graftageref37_one.j0, if_neg (by decide), if_pos (by omega), eb, hwa]
    by_cases h64 : bt x 0 = 64
    · rw [if_pos h64, if_pos h64, if_pos (show (0 : Int) ≤ (a : Int) + 1 by omega), if_pos (show (a : Int) + 1 ≤ (x.size : Int) by omega), if_pos (show (x.size : Int) ≤ (s.size : Int) by omega)]
      by_cases h1a : 1 ≤ (a : Int)
      · rw [if_pos h1a, if_pos h1a, if_pos (show (a : Int) ≤ (s.size : Int) by omega), show ((a : Int) + 1).toNat = a + 1 by omega, Int.toNat_natCast, Int.toNat_natCast, e1, e2]
      · rw [if_neg h1a, if_neg h1a]
    · rw [if_neg h64, if_neg h64, if_pos (show (0 : Int) ≤ (a : Int) + 1 by omega), if_pos (show (a : Int) + 1 ≤ (x.size : Int) by omega), if_pos (show (x.size : Int) ≤ (s.size : Int) by omega), if_pos (show (0 : Int) ≤ (a : Int) by omega), if_pos (show (a : Int) ≤ (s.size : Int) by omega), show ((a : Int) + 1).toNat = a + 1 by omega, Int.toNat_natCast, Int.toNat_natCast, e1, e3]
  by_cases h64 : bt x 0 = 64
  · have ha1 : 1 ≤ a := by
      rcases Nat.eq_zero_or_pos a with h0 | h0
      · subst h0
        have := (bt_is x 0 (by omega) 64).1 h64
        rw [hat] at this
        cases this
      · exact h0
    have hev : Ev (fun k => graftageref37_one.f k s) (x.extract (a + 1) x.size, (⟨#[]⟩ : ByteArray), x.extract 1 a, decide ((a : Int) > 1)) := hgo _ (Ev.step hj (Ev.congr (f := fun _ => some (x.extract (a + 1) x.size, (⟨#[]⟩ : ByteArray), x.extract 1 a, decide ((a : Int) > 1))) (fun k => by simp only [if_pos h64]; exact if_pos (by omega)) (Ev.now _)))
    by_cases h4 : 2 ≤ a
    · refine ⟨_, hev, ?_, fun r hr => ?_⟩
      · rw [if_pos ⟨h64, h4⟩, decide_eq_true (by omega)]; rfl
      · rw [if_pos ⟨h64, h4⟩] at hr
        rw [← Option.some.inj hr, decide_eq_true (by omega)]
    · have hnid : idOk (x.extract 0 a) = false := by
        unfold idOk
        rw [decide_eq_false (by rw [ext_size _ _ _ (by omega)]; omega), Bool.false_and]
      refine ⟨_, hev, ?_, fun r hr => ?_⟩
      · rw [if_neg (fun h => h4 h.2), hnid, if_neg (by decide), decide_eq_false (by omega)]; rfl
      · rw [if_neg (fun h => h4 h.2), hnid, if_neg (by decide)] at hr; cases hr
  · refine ⟨(x.extract (a + 1) x.size, x.extract 0 a, (⟨#[]⟩ : ByteArray), idOk (x.extract 0 a)), hgo _ (Ev.step hj ?_), ?_, fun r hr => ?_⟩
    · simp only [if_neg h64]; exact Ev.bind (ref_idIs_ev _) (Ev.now _)
    · rw [if_neg (fun h => h64 h.1)]
      by_cases hid : idOk (x.extract 0 a) = true
      · rw [if_pos hid, hid]; rfl
      · have : idOk (x.extract 0 a) = false := by simpa using hid
        rw [if_neg hid, this]; rfl
    · rw [if_neg (fun h => h64 h.1)] at hr
      by_cases hid : idOk (x.extract 0 a) = true
      · rw [if_pos hid] at hr
        rw [← Option.some.inj hr, hid]
      · rw [if_neg hid] at hr; cases hr
end
theorem one_bad (s : ByteArray) (hz : s.size ≤ 140737488351000) (h0 : 0 < s.size) (hb : bt s ((s.size - 1 : Nat) : Int) ≠ 10) : ∃ q, Ev (fun k => graftageref37_one.f k s) q ∧ q.2.2.2 = false := by
  have hF0 := Find_ev s (by omega) 32 0 (by omega)
  have hF0' : Ev (fun k => graftageref14_Find.f k s 32 0) (ixF s.data.toList 32 0) := by exact_mod_cast hF0
  have hT : ∀ i j : Int, Ev (fun k => graftageref37_one.j0 k s i j true) (lnR none) := fun i j => Ev.step (f := fun _ => some (lnR none)) (fun k => by rw [graftageref37_one.j0, if_pos rfl]; rfl) (Ev.now _)
  have hW : wrap64 ((s.size : Int) - 1) = ((s.size - 1 : Nat) : Int) := by rw [wrap_id (by omega) (by omega)]; omega
  refine ⟨lnR none, Ev.bind hF0' ?_, rfl⟩
  rw [hW]
  refine ev_iff (fun h => hT _ _) (fun h => ?_)
  refine Ev.congr (f := fun k => graftageref37_one.j0 k s (ixF s.data.toList 32 0) ((s.size - 1 : Nat) : Int) true) (fun k => by rw [if_pos (by omega), if_pos (by omega), if_neg hb]) (hT _ _)
/-! ### parsing -/
def lineO (p : List UInt8) : Option S55 := if p.getLast? = some 10 then lnO ⟨p.dropLast.toArray⟩ else none
def parR : List (List UInt8) → List S55 → Option (List S55)
  | [], acc => some acc
  | p :: ps, acc => match lineO p with
    | some r => parR ps (acc ++ [r])
    | none => none
theorem lnO_size {x : ByteArray} {r : S55} (h : lnO x = some r) : r.f0.size ≤ x.size ∧ r.f1.size ≤ x.size ∧ r.f2.size ≤ x.size := by
  have hge := Lib.indexByte_ge x.data.toList 32
  unfold lnO at h
  split at h
  · cases h
  · rename_i hc
    simp only [not_or] at hc
    obtain ⟨c1, c2, c3⟩ := hc
    obtain ⟨a, ha⟩ := Int.eq_ofNat_of_zero_le (show 0 ≤ Lib.indexByte x.data.toList 32 by omega)
    have hal : a < x.data.toList.length := (List.getElem?_eq_some_iff.1 (ib_at ha)).1
    rw [← Lib.size_eq] at hal
    rw [ha, Int.toNat_natCast] at h
    split at h
    · rw [← Option.some.inj h]
      exact ⟨by rw [ext_size _ _ _ (Nat.le_refl _)]; omega, Nat.zero_le _, by rw [ext_size _ _ _ (by omega)]; omega⟩
    · split at h
      · rw [← Option.some.inj h]
        exact ⟨by rw [ext_size _ _ _ (Nat.le_refl _)]; omega, by rw [ext_size _ _ _ (by omega)]; omega, Nat.zero_le _⟩
      · cases h
theorem lineO_size {p : List UInt8} {r : S55} (h : lineO p = some r) : r.f0.size ≤ p.length ∧ r.f1.size ≤ p.length ∧ r.f2.size ≤ p.length := by
  unfold lineO at h
  split at h
  · have := lnO_size h
    have e : (⟨p.dropLast.toArray⟩ : ByteArray).size = p.length - 1 := by rw [Lib.size_eq]; simp
    omega
  · cases h
theorem parR_mem (B : Nat) : ∀ (ps : List (List UInt8)) (acc l : List S55), (∀ p ∈ ps, p.length ≤ B) → parR ps acc = some l → l.length = acc.length + ps.length ∧ ∀ r ∈ l, r ∈ acc ∨ (r.f0.size ≤ B ∧ r.f1.size ≤ B ∧ r.f2.size ≤ B)
  | [], acc, l, _, h => by
    rw [parR] at h
    rw [← Option.some.inj h]
    exact ⟨rfl, fun r hr => .inl hr⟩
  | p :: ps, acc, l, hp, h => by
    rw [parR] at h
    split at h
    · rename_i r hr
      obtain ⟨h1, h2⟩ := parR_mem B ps (acc ++ [r]) l (fun q hq => hp q (List.mem_cons_of_mem _ hq)) h
      refine ⟨by rw [h1]; simp; omega, fun y hy => ?_⟩
      rcases h2 y hy with h3 | h3
      · rcases List.mem_append.1 h3 with h4 | h4
        · exact .inl h4
        · rw [List.mem_singleton.1 h4]
          have := lineO_size hr
          have := hp p List.mem_cons_self
          exact .inr (by omega)
      · exact .inr h3
    · cases h
/-- What parsing ends with: the entries, or an error. -/
def Fin (o : Option (List S55)) (q : List S55 × Int) : Prop := match o with
  | none => q = ([], 2)
  | some l => ∃ c, Ev (fun k => refs_Check.f k l) c ∧ Ev (fun k => graftageref37_Check.f k l) c ∧ q = if c = 0 then (l, 0) else ([], c)
theorem Cut_at (s : ByteArray) (hs : s.size ≤ 140737488351232) : strings_Cut.f s ⟨#[10]⟩ = some (if Lib.indexByte s.data.toList 10 = -1 then (s, ⟨#[]⟩, false) else (s.extract 0 (Lib.indexByte s.data.toList 10).toNat, s.extract ((Lib.indexByte s.data.toList 10).toNat + 1) s.size, true)) := by
  unfold strings_Cut.f stringslite_Cut.f
  have hI : stringslite_Index.f s ⟨#[10]⟩ = some (Lib.indexByte s.data.toList 10) := rfl
  rw [hI]
  simp only [Option.bind_some]
  have hge := Lib.indexByte_ge s.data.toList 10
  by_cases h : Lib.indexByte s.data.toList 10 = -1
  · rw [if_neg (by omega), if_pos h]; rfl
  · obtain ⟨a, ha⟩ := Int.eq_ofNat_of_zero_le (show 0 ≤ Lib.indexByte s.data.toList 10 by omega)
    have hal : a < s.data.toList.length := (List.getElem?_eq_some_iff.1 (ib_at ha)).1
    rw [← Lib.size_eq] at hal
    rw [if_neg h, ha, b1, wrap_id (by omega) (by omega), if_pos (by omega), if_pos (by omega), if_pos (by omega), if_pos (by omega), if_pos (by omega), Int.toNat_natCast, show ((a : Int) + ((1 : Nat) : Int)).toNat = a + 1 by omega]
    rfl
theorem Parse_l0 (q : List S55 × Int) : ∀ (d : Nat) (s : ByteArray) (acc : List S55), s.size ≤ d → d + acc.length ≤ 1000000 → Fin (parR (linesL s.data.toList) acc) q → Ev (fun k => refs_Parse.l0 k s acc) q := by
  intro d
  induction d with
  | zero =>
    intro s acc hd hl hq
    have hn : s.data.toList = [] := List.length_eq_zero_iff.1 (by rw [← Lib.size_eq]; omega)
    rw [hn, linesL, parR] at hq
    obtain ⟨c, h1, _, h3⟩ := hq
    refine Ev.step (f := fun k => (refs_Check.f k acc).bind fun t133 => (if t133 = 0 then (some (acc, 0)) else (some (([] : List (S55)), t133)))) (fun k => by rw [refs_Parse.l0, if_pos (by rw [Lib.toList_data]; exact hn)]) (Ev.bind h1 ?_)
    rw [h3]
    exact ev_iff (fun h => by rw [if_pos h]; exact Ev.now _) (fun h => by rw [if_neg h]; exact Ev.now _)
  | succ d ih =>
    intro s acc hd hl hq
    by_cases hn : s.data.toList = []
    · rw [hn, linesL, parR] at hq
      obtain ⟨c, h1, _, h3⟩ := hq
      refine Ev.step (f := fun k => (refs_Check.f k acc).bind fun t133 => (if t133 = 0 then (some (acc, 0)) else (some (([] : List (S55)), t133)))) (fun k => by rw [refs_Parse.l0, if_pos (by rw [Lib.toList_data]; exact hn)]) (Ev.bind h1 ?_)
      rw [h3]
      exact ev_iff (fun h => by rw [if_pos h]; exact Ev.now _) (fun h => by rw [if_neg h]; exact Ev.now _)
    · refine Ev.step (f := fun k => (strings_Cut.f s (⟨#[10]⟩ : ByteArray)).bind fun bt134 => ((refs_line.f k bt134.1).bind fun bt137 => (if bt134.2.2 = true then (if bt137.2.2.2 = true then (if acc.length < 2932031007402 then (refs_Parse.l0 k bt134.2.1 (acc ++ [(⟨bt137.1, bt137.2.1, bt137.2.2.1⟩ : S55)])) else (none)) else (some (([] : List (S55)), 2))) else (some (([] : List (S55)), 2))))) (fun k => by rw [refs_Parse.l0, if_neg (by rw [Lib.toList_data]; exact hn)]) ?_
      rw [Cut_at s (by omega)]
      simp only [Option.bind_some]
      rw [linesL_index _ hn] at hq
      have hge := Lib.indexByte_ge s.data.toList 10
      by_cases hi : Lib.indexByte s.data.toList 10 = -1
      · rw [if_pos hi] at hq
        have hlo : lineO s.data.toList = none := by
          unfold lineO
          rw [if_neg]
          intro h
          exact (ib_mem _ _).1 hi (List.mem_of_getLast? h)
        rw [parR, hlo] at hq
        simp only [if_pos hi]
        refine Ev.bind (line_ev s (by omega)) ?_
        rw [show q = ([], 2) from hq]
        exact Ev.now _
      · rw [if_neg hi] at hq
        simp only [if_neg hi]
        obtain ⟨a, ha⟩ := Int.eq_ofNat_of_zero_le (show 0 ≤ Lib.indexByte s.data.toList 10 by omega)
        have hat := ib_at ha
        have hal : a < s.data.toList.length := (List.getElem?_eq_some_iff.1 hat).1
        have hal' := hal
        rw [← Lib.size_eq] at hal'
        rw [ha] at hq ⊢
        simp only [Int.toNat_natCast, show ((a : Int) + 1).toNat = a + 1 from by omega] at hq ⊢
        have htk : s.data.toList.take (a + 1) = s.data.toList.take a ++ [10] := by
          rw [List.take_succ_eq_append_getElem hal]
          rw [List.getElem?_eq_getElem hal] at hat
          rw [Option.some.inj hat]
        have hlo : lineO (s.data.toList.take (a + 1)) = lnO (s.extract 0 a) := by
          unfold lineO
          rw [htk, List.getLast?_concat, if_pos rfl, List.dropLast_concat]
          congr 1
          apply ba_ext
          rw [Lib.extract_data, List.drop_zero, Nat.sub_zero]
        rw [parR, hlo] at hq
        have hes : (s.extract 0 a).size = a := by rw [ext_size _ _ _ (by omega)]; omega
        refine Ev.bind (line_ev (s.extract 0 a) (by omega)) ?_
        simp only [if_true]
        cases hr : lnO (s.extract 0 a) with
        | none =>
          rw [hr] at hq
          rw [show q = ([], 2) from hq]
          exact Ev.now _
        | some r =>
          rw [hr] at hq
          simp only [lnR, if_true]
          have hdr : (s.extract (a + 1) s.size).data.toList = s.data.toList.drop (a + 1) := by
            rw [Lib.extract_data]; exact List.take_of_length_le (by rw [List.length_drop, ← Lib.size_eq]; omega)
          refine Ev.congr (f := fun k => refs_Parse.l0 k (s.extract (a + 1) s.size) (acc ++ [r])) (fun k => by rw [if_pos (by omega)]) ?_
          exact ih _ _ (by rw [ext_size _ _ _ (Nat.le_refl _)]; omega) (by rw [List.length_append, List.length_singleton]; omega) (by rw [hdr]; exact hq)
theorem refParse_l0 (q : List S55 × Int) (L : List ByteArray) (hL : L.length ≤ 1000000) (hz : ∀ x ∈ L, 0 < x.size ∧ x.size ≤ 1000000) : ∀ (d i : Nat) (acc : List S55), i + d = L.length → acc.length ≤ i → Fin (parR ((L.drop i).map (·.data.toList)) acc) q → Ev (fun k => graftageref37_Parse.l0 k L acc L.length i) q := by
  intro d
  induction d with
  | zero =>
    intro i acc hi ha hq
    rw [List.drop_of_length_le (by omega), List.map_nil, parR] at hq
    obtain ⟨c, _, h2, h3⟩ := hq
    refine Ev.step (f := fun k => (graftageref37_Check.f k acc).bind fun t303 => (if t303 = 0 then (some (acc, 0)) else (some (([] : List (S55)), t303)))) (fun k => by rw [graftageref37_Parse.l0, if_neg (by omega)]) (Ev.bind h2 ?_)
    rw [h3]
    exact ev_iff (fun h => by rw [if_pos h]; exact Ev.now _) (fun h => by rw [if_neg h]; exact Ev.now _)
  | succ d ih =>
    intro i acc hi ha hq
    have hlt : i < L.length := by omega
    obtain ⟨z0, z1⟩ := hz _ (List.getElem_mem hlt)
    rw [List.drop_eq_getElem_cons hlt, List.map_cons, parR] at hq
    have hst : ∀ k, graftageref37_Parse.l0 (k + 1) L acc L.length i = ((graftageref37_one.f k L[i]).bind fun bt295 => (if bt295.2.2.2 = true then (graftageref37_Parse.l0 k L (acc ++ [(⟨bt295.1, bt295.2.1, bt295.2.2.1⟩ : S55)]) L.length ((i : Int) + 1)) else (some (([] : List (S55)), 2)))) := fun k => by
      rw [graftageref37_Parse.l0, if_pos (by omega), if_pos (by omega), if_pos (by omega), rd_ext L i hlt, wrap_id (by omega) (by omega)]
      congr 1
      funext t
      rw [if_pos (show acc.length < 2932031007402 by omega)]
    refine Ev.step hst ?_
    have hl : L[i].data.toList.length = L[i].size := (Lib.size_eq _).symm
    by_cases hlast : L[i].data.toList.getLast? = some 10
    · obtain ⟨y, hy⟩ : ∃ y, L[i].data.toList = y ++ [10] := by
        obtain ⟨ys, hys⟩ := List.getLast?_eq_some_iff.1 hlast
        exact ⟨ys, hys⟩
      have hlo : lineO L[i].data.toList = lnO ⟨y.toArray⟩ := by unfold lineO; rw [if_pos hlast, hy, List.dropLast_concat]
      rw [hlo] at hq
      have hyl : (⟨y.toArray⟩ : ByteArray).size ≤ 140737488351000 := by
        have : L[i].data.toList.length = y.length + 1 := by rw [hy]; simp
        have e : (⟨y.toArray⟩ : ByteArray).size = y.length := by rw [Lib.size_eq]
        omega
      obtain ⟨p, h1, h2, h3⟩ := one_ev L[i] ⟨y.toArray⟩ hyl (by rw [hy])
      refine Ev.bind h1 ?_
      cases hr : lnO ⟨y.toArray⟩ with
      | none =>
        rw [hr] at hq h2
        rw [h2, show q = ([], 2) from hq]
        exact Ev.now _
      | some r =>
        rw [hr] at hq
        rw [h3 r hr]
        simp only [if_true]
        exact_mod_cast ih (i + 1) (acc ++ [r]) (by omega) (by rw [List.length_append, List.length_singleton]; omega) hq
    · have hlo : lineO L[i].data.toList = none := by unfold lineO; rw [if_neg hlast]
      rw [hlo] at hq
      obtain ⟨p, h1, h2⟩ := one_bad L[i] (by omega) z0 (fun hb => hlast (by
        have := (bt_is L[i] (L[i].size - 1) (by omega) 10).1 hb
        rw [List.getLast?_eq_getElem?, hl]; exact this))
      refine Ev.bind h1 ?_
      rw [h2, show q = ([], 2) from hq]
      exact Ev.now _
theorem linesL_ne : ∀ (l : List UInt8), ∀ p ∈ linesL l, p ≠ []
  | [], p, h => by simp [linesL] at h
  | b :: r, p, h => by
    rw [linesL] at h
    split at h
    · rcases List.mem_cons.1 h with h | h
      · rw [h]; simp
      · exact linesL_ne r p h
    · cases hq : linesL r with
      | nil => rw [hq] at h; simp [consH] at h; rw [h]; simp
      | cons a t =>
        rw [hq] at h
        simp only [consH, List.mem_cons] at h
        rcases h with h | h
        · rw [h]; simp
        · exact linesL_ne r p (by rw [hq]; exact List.mem_cons_of_mem _ h)
theorem Parse_both (s : ByteArray) (hs : s.size ≤ 900000) : ∃ q, Ev (fun k => refs_Parse.f k s) q ∧ Ev (fun k => graftageref37_Parse.f k s) q ∧ Fin (parR (linesL s.data.toList) []) q := by
  have hll := linesL_length s.data.toList
  rw [← Lib.size_eq] at hll
  have hls := linesL_size s.data.toList
  have hex : ∃ q, Fin (parR (linesL s.data.toList) []) q := by
    cases hp : parR (linesL s.data.toList) [] with
    | none => exact ⟨([], 2), rfl⟩
    | some l =>
      obtain ⟨h1, h2⟩ := parR_mem s.data.toList.length _ _ _ hls hp
      rw [← Lib.size_eq] at h2
      obtain ⟨c, c1, c2, _⟩ := Check_both l (fun _ x hx => by
        rcases h2 x hx with h | h
        · cases h
        · omega)
      exact ⟨_, c, c1, c2, rfl⟩
  obtain ⟨q, hq⟩ := hex
  refine ⟨q, Parse_l0 q s.size s [] (Nat.le_refl _) (by simp; omega) hq, Ev.bind (ref_Split_ev s (by omega)) ?_, hq⟩
  have hlen := linesB_length s
  have hne : ∀ x ∈ linesB s, 0 < x.size := fun x hx => by
    have : x.data.toList ∈ linesL s.data.toList := by rw [← linesB_data]; exact List.mem_map_of_mem hx
    have := linesL_ne _ _ this
    rw [Lib.size_eq]
    exact List.length_pos_iff.2 this
  have := refParse_l0 q (linesB s) (by omega) (fun x hx => ⟨hne x hx, by have := linesB_size s x hx; omega⟩) (linesB s).length 0 [] (by omega) (by simp) (by rw [List.drop_zero, linesB_data]; exact hq)
  exact_mod_cast this
theorem fin_zero {o : Option (List S55)} {q : List S55 × Int} (h : Fin o q) (h0 : q.2 = 0) : ∃ l, o = some l ∧ q.1 = l ∧ Ev (fun k => refs_Check.f k l) 0 := by
  cases o with
  | none => rw [show q = ([], 2) from h] at h0; cases h0
  | some l =>
    obtain ⟨c, h1, _, h3⟩ := h
    by_cases hc : c = 0
    · rw [if_pos hc] at h3
      exact ⟨l, rfl, by rw [h3], hc ▸ h1⟩
    · rw [if_neg hc] at h3
      rw [h3] at h0
      exact absurd h0 hc
theorem fin_err {o : Option (List S55)} {q : List S55 × Int} (h : Fin o q) (h0 : q.2 ≠ 0) : q.1 = [] := by
  cases o with
  | none => rw [show q = ([], 2) from h]
  | some l =>
    obtain ⟨c, h1, _, h3⟩ := h
    by_cases hc : c = 0
    · rw [if_pos hc] at h3; rw [h3] at h0; exact absurd rfl h0
    · rw [if_neg hc] at h3; rw [h3]
theorem fin_len {s : ByteArray} {q : List S55 × Int} (h : Fin (parR (linesL s.data.toList) []) q) : q.1.length ≤ s.size := by
  by_cases h0 : q.2 = 0
  · obtain ⟨l, h1, h2, _⟩ := fin_zero h h0
    have hll := linesL_length s.data.toList
    rw [← Lib.size_eq] at hll
    have := (parR_mem s.data.toList.length _ _ _ (linesL_size s.data.toList) h1).1
    rw [h2, this]
    simpa using hll
  · rw [fin_err h h0]; simp
theorem RefsTexts_ev (l : List S55) (s : ByteArray) (hs : ∀ x ∈ l, x.f0.size ≤ 140737488351232 ∧ x.f1.size ≤ 140737488351232 ∧ x.f2.size ≤ 140737488351232) (hn : l.length ≤ 140737488351232) (hz : s.size ≤ 140737488351232) : Ev (fun k => graftagelaw37_RefsTexts.f k l s) true := by
  have hT : Ev (fun k => graftagelaw37_RefsTexts.j0 k l s true) true :=
    Ev.step (f := fun k => (graftagelaw37_lives.f k).bind fun t => some t) (fun k => by rw [graftagelaw37_RefsTexts.j0, if_pos rfl]) liveOr37
  refine Ev.bind (Few_ev l hs hn) (ev_iff (fun h => ?_) (fun h => hT))
  by_cases hb : (s.size : Int) > 3000
  · rw [decide_eq_true hb]; exact hT
  rw [decide_eq_false hb]
  have hsz := fewR_size h
  obtain ⟨q, t1, t2, _⟩ := Text_both l (fun _ x hx => by have := hsz x hx; omega)
  obtain ⟨p, p1, p2, p3⟩ := Parse_both s (by omega)
  have hpl := fin_len p3
  refine Ev.step (f := ?_) (fun k => by rw [graftagelaw37_RefsTexts.j0, if_neg (by decide)]) ?_
  refine Ev.bind t1 (Ev.bind t2 (Ev.bind p1 (Ev.bind p2 ?_)))
  simp only [if_true]
  refine Ev.bind (Same55_ev p.1 (by omega)) ?_
  simp only [if_true]
  exact liveOr37
end Go.Proofs.YtccbpbdfihnlgaaDoor.Q


/- RefsTexts, over plain lists and numbers. -/
namespace Go.Proofs.YtccbpbdfihnlgaaDoor.Pure
open Go.Proofs.YtccbpbdfihnlgaaDoor.Q Go.Proofs.YtccbpbdfihnlgaaDoorW.PrintWords

theorem RefsTexts : ∀ (y0 : List (S55)), ∀ (y1 : ByteArray), (y0.length * 48 ≤ 140737488351232 ∧ ∀ y_y0 ∈ y0, (y_y0.f0.size ≤ 140737488351232 ∧ y_y0.f1.size ≤ 140737488351232 ∧ y_y0.f2.size ≤ 140737488351232)) → y1.size ≤ 140737488351232 → ∃ k, graftagelaw37_RefsTexts.f k y0 y1 = some true :=
  fun y0 y1 h h1 => (RefsTexts_ev y0 y1 h.2 (by omega) h1).rounds

end Go.Proofs.YtccbpbdfihnlgaaDoor.Pure


/- What a law's argument reads as (numbers, bools, strings, structs, slices, nested) opens into the printed kinds, with the reach's bounds; for the rows of this seat. -/
namespace Go.Proofs.YtccbpbdfihnlgaaDoor.Ro
open Go.RowKit Go.Deep Go.Proofs.YtccbpbdfihnlgaaDoorW.PrintWords

/-- What a reading of type t by the form tells in the words of kind d; S: the bounds. -/
def Opens (P : Program) (t : TypeId) {α : Type} (d : Kd α) (S : α → Prop) : Prop :=
  ∀ {H : Type} (enc : TypeId × Value → H) (w : World) (fuel : Nat) (cs : List Value) (x : DataW H × List MemPlace),
    DataW.trod enc P w 0 (fun _ => true) true fuel t cs = some x → (∀ n ∈ DataW.weights P t x.1, n ≤ reachBytes) → ∃ y : α, d.K w y cs ∧ S y

section
variable {P : Program} {t e : TypeId}

theorem Opens.int {k : IntKind} (ht : P.underlying t = some (.int k)) : Opens P t (Kd.int k) (fun y => (Lit.int k y).wf = true) := by
  intro H enc w fuel cs x h _
  obtain ⟨n, rfl, rfl, hw⟩ := DataW.trod_int ht h
  exact ⟨n, rfl, hw⟩

theorem Opens.bool (ht : P.underlying t = some .bool) : Opens P t Kd.bool (fun _ => True) := by
  intro H enc w fuel cs x h _
  obtain ⟨b, rfl, rfl⟩ := DataW.trod_bool ht h
  exact ⟨b, rfl, trivial⟩

theorem Opens.string (ht : P.underlying t = some .string) : Opens P t Kd.string (fun y => y.size ≤ 140737488351232) := by
  intro H enc w fuel cs x h hn
  obtain ⟨s, rfl, rfl, _⟩ := DataW.trod_string ht h
  refine ⟨s, rfl, ?_⟩
  have := hn s.data.toList.length (by simp [DataW.weights])
  simpa [reachBytes] using this

theorem choose_list {α : Type} {n : Nat} {p : Nat → α → Prop} (h : ∀ i, i < n → ∃ y, p i y) : ∃ l : List α, l.length = n ∧ ∀ i y, l[i]? = some y → p i y := by
  induction n with
  | zero => exact ⟨[], rfl, fun i y hy => by simp at hy⟩
  | succ n ih =>
    obtain ⟨l, hl, hp⟩ := ih (fun i hi => h i (by omega))
    obtain ⟨y, hy⟩ := h n (by omega)
    refine ⟨l ++ [y], by simp [hl], fun i z hz => ?_⟩
    rcases Nat.lt_or_ge i l.length with hi | hi
    · rw [List.getElem?_append_left hi] at hz
      exact hp i z hz
    · rw [List.getElem?_append_right hi] at hz
      have : i - l.length = 0 := by
        have := (List.getElem?_eq_some_iff.1 hz).1
        simpa using this
      rw [this] at hz
      have h1 : i = n := by omega
      subst h1
      have : y = z := by simpa using hz
      subst this
      exact hy

theorem weightsAll_mem {H : Type} {e : TypeId} : ∀ {l : List (DataW H)} {d : DataW H}, d ∈ l → ∀ n ∈ d.weights P e, n ∈ DataW.weightsAll P e l
  | a :: l, d, hd, n, hn => by
    simp only [DataW.weightsAll, List.mem_append]
    rcases List.mem_cons.1 hd with rfl | hd
    · exact .inl hn
    · exact .inr (weightsAll_mem hd n hn)

theorem Opens.slice {α : Type} {d : Kd α} {S : α → Prop} {b : Nat} (ht : P.underlying t = some (.slice e)) (hc : P.cellsOf e = d.sz) (hb : P.bytesOf e = b) (h : Opens P e d S) :
    Opens P t (Kd.slice e d) (fun l => l.length * b ≤ 140737488351232 ∧ ∀ y ∈ l, S y) := by
  intro H enc w fuel cs x hx hn
  rcases open_slice ht hx with ⟨rfl, rfl⟩ | ⟨a, len, cap, m, n, D, Pl, rfl, _, hl, hm, hmm, rfl, hall⟩
  · exact ⟨[], ⟨none, 0, rfl, Nat.le_refl _, rfl, by simp, fun h => absurd h (by simp)⟩, by simp, by simp⟩
  · simp only [if_true] at hmm
    obtain rfl : m = cap := hmm
    have hel : ∀ i, i < len → ∃ y : α, (∃ cs', w.cells? 0 (a.add (i * P.cellsOf e)) (P.cellsOf e) = some cs' ∧ d.K w y cs') ∧ S y := by
      intro i hi
      obtain ⟨cs', h1, h2⟩ := hall i (by omega)
      obtain ⟨y, hy, hs⟩ := h enc w n cs' _ h2 (fun k hk => hn k (by
        simp only [DataW.weights, ht, List.mem_cons, List.mem_append]
        exact .inr (.inl (weightsAll_mem (List.mem_map.2 ⟨i, List.mem_range.2 hi, rfl⟩) k hk))))
      exact ⟨y, ⟨cs', h1, hy⟩, hs⟩
    obtain ⟨l, hll, hp⟩ := choose_list hel
    subst hll
    have hw : (l.length + (m - l.length)) * b ≤ reachBytes := by
      have := hn _ (by simp only [DataW.weights, ht, List.mem_cons]; exact .inl rfl)
      simpa [hb] using this
    refine ⟨l, ⟨some a, m, rfl, hl, rfl, by unfold maxLen at hm; omega, fun _ => ⟨a, rfl, fun j p hj => ?_⟩⟩, ?_, fun y hy => ?_⟩
    · obtain ⟨⟨cs', h1, hk⟩, _⟩ := hp j p hj
      obtain ⟨_, hlen, hcell⟩ := World.cells?_some h1
      refine ⟨cs', by rw [hlen, hc], hk, fun i u hu => ?_⟩
      have hi : i < P.cellsOf e := by
        have := (List.getElem?_eq_some_iff.1 hu).1
        omega
      have := hcell i hi
      rw [Go.Deep.add_add, hu, hc] at this
      exact this
    · have : l.length * b ≤ (l.length + (m - l.length)) * b := Nat.mul_le_mul_right _ (by omega)
      simp only [reachBytes] at hw
      omega
    · obtain ⟨j, hj⟩ := List.mem_iff_getElem?.1 hy
      exact (hp j y hj).2

/-- The fields from one on, in line. -/
def OpensF (P : Program) (fs : List Field) (o : Nat) {α : Type} (d : Kd α) (S : α → Prop) : Prop :=
  ∀ {H : Type} (enc : TypeId × Value → H) (w : World) (n : Nat) (cs : List Value) (ys : List (DataW H × List MemPlace)),
    (∀ (i : Nat) (f : Field), fs[i]? = some f → DataW.trod enc P w 0 (fun _ => true) true n f.type ((cs.drop f.offset).take (P.cellsOf f.type)) = ys[i]?) → ys.length = fs.length →
    (∀ k ∈ DataW.weightsEach P (fs.map (·.type)) (ys.map (·.1)), k ≤ reachBytes) → cs.length = o + d.sz → ∃ y : α, d.K w y (cs.drop o) ∧ S y

theorem OpensF.one {α : Type} {f : Field} {o : Nat} {d : Kd α} {S : α → Prop} (ho : f.offset = o) (hc : P.cellsOf f.type = d.sz) (h : Opens P f.type d S) : OpensF P [f] o d S := by
  intro H enc w n cs ys hf hl hw hlen
  match ys, hl with
  | [y], _ =>
    have h1 := hf 0 f rfl
    rw [ho, hc, List.take_of_length_le (by rw [List.length_drop]; omega)] at h1
    exact h enc w n _ y h1 (fun k hk => hw k (by simp [DataW.weightsEach, hk]))

theorem OpensF.cons {α β : Type} {f : Field} {fs : List Field} {o o' : Nat} {d : Kd α} {d' : Kd β} {S : α → Prop} {S' : β → Prop} (ho : f.offset = o) (hc : P.cellsOf f.type = d.sz) (ho' : o + d.sz = o')
    (h : Opens P f.type d S) (h' : OpensF P fs o' d' S') : OpensF P (f :: fs) o (Kd.pair d d') (fun z => S z.1 ∧ S' z.2) := by
  intro H enc w n cs ys hf hl hw hlen
  match ys, hl with
  | y :: ys, hl =>
    have h1 := hf 0 f rfl
    rw [ho, hc] at h1
    have hlen' : cs.length = o + (d.sz + d'.sz) := hlen
    obtain ⟨a, ha, hs⟩ := h enc w n _ y h1 (fun k hk => hw k (by simp only [List.map_cons, DataW.weightsEach, List.mem_append]; exact .inl hk))
    obtain ⟨b, hb, hs'⟩ := h' enc w n cs ys (fun i g hg => hf (i + 1) g (by simpa using hg)) (by simpa using hl) (fun k hk => hw k (by simp only [List.map_cons, DataW.weightsEach, List.mem_append]; exact .inr hk)) (by omega)
    refine ⟨(a, b), ⟨_, _, ?_, ha, hb⟩, hs, hs'⟩
    rw [← ho', ← List.drop_drop, List.take_append_drop]

theorem Opens.struct {α β : Type} {fs : Array Field} {d : Kd α} {S : α → Prop} {f : β → α} {g : α → β} (ht : P.underlying t = some (.struct fs)) (hc : P.cellsOf t = d.sz) (hfg : ∀ a, f (g a) = a) (h : OpensF P fs.toList 0 d S) :
    Opens P t (Kd.iso d f) (fun y => S (f y)) := by
  intro H enc w fuel cs x hx hn
  obtain ⟨xs, n, _, rfl, hl, hlen, hf⟩ := DataW.trod_struct ht hx
  obtain ⟨a, ha, hs⟩ := h enc w n cs xs (fun i q hq => hf i q (by simpa using hq)) (by simpa using hlen) (fun k hk => hn k (by simpa [DataW.weights, ht] using hk)) (by rw [hl, hc]; omega)
  refine ⟨g a, ?_, by show S (f (g a)); rw [hfg]; exact hs⟩
  show d.K w (f (g a)) cs
  rw [hfg]
  simpa using ha

theorem Opens.imp {α : Type} {d : Kd α} {S S' : α → Prop} (h : Opens P t d S) (hS : ∀ y, S y → S' y) : Opens P t d S' := by
  intro H enc w fuel cs x hx hn
  obtain ⟨y, hy, hs⟩ := h enc w fuel cs x hx hn
  exact ⟨y, hy, hS y hs⟩

/-- An argument: its cells, told. -/
theorem Opens.arg {H : Type} {enc : TypeId × Value → H} {α : Type} {d : Kd α} {S : α → Prop} {w : World} {ts : List TypeId} {ds : List (DataW H)} {j : Nat} {v : Value} {dd : DataW H} {ps : List MemPlace} (h : Opens P t d S)
    (hz : (DataW.weightsEach P ts ds).all (· ≤ reachBytes) = true) (ht : ts[j]? = some t) (hd : ds[j]? = some dd) (hv : DataW.Trod enc P w 0 (fun _ => true) true t v dd ps) : ∃ y : α, d.K w y v.cells.toList ∧ S y := by
  obtain ⟨fuel, hf⟩ := hv
  exact h enc w fuel _ (dd, ps) hf (fun n hn => by simpa using List.all_eq_true.1 hz n (DataW.weights_mem_each ht hd n hn))

theorem arg_lt {H : Type} {enc : TypeId × Value → H} {w : World} {v : Value} {dd : DataW H} {ps : List MemPlace} (hv : DataW.Trod enc P w 0 (fun _ => true) true t v dd ps) : ∀ x ∈ ps, x.block < w.heap.size := by
  obtain ⟨m, hm⟩ := hv
  exact DataW.trod_lt m _ _ _ hm
end
end Go.Proofs.YtccbpbdfihnlgaaDoor.Ro


