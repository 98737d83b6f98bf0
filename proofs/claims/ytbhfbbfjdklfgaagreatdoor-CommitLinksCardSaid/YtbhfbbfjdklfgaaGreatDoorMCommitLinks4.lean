/- The law CommitLinks holds: for every input it returns true, and each argument reads afterwards as it read before. -/
import Derived.Test.YtbhfbbfjdklfgaaGreatDoorMCommitLinks3
import Derived.Lib.AtoiErrMem
import Derived.Maps.OwnOps
import Derived.Maps.OwnSet
import Derived.Maps.Views
set_option linter.unusedVariables false
set_option linter.unusedSimpArgs false
set_option maxHeartbeats 8000000
set_option maxRecDepth 100000
namespace Go.Proofs.YtbhfbbfjdklfgaaGreatDoor.Q
open Go.Proofs.Tryz Go.RowKit YtbhfbbfjdklfgaaGreatDoorW.PrintWords YtbhfbbfjdklfgaaGreatDoorW.PrintLast
section
open YtbhfbbfjdklfgaaGreatDoorW.PrintMore
attribute [local go_sem] qen_ qem_ qey_ qex_ qee_ qeg_ qel_ qek_
mutual
def qt_.j1 : Nat → List ByteArray → Option (List ByteArray × Int)
 | 0, _ => none
 | k + 1, x5 => qt_.l1 k x5 ([] : List ByteArray) 0
def qt_.l1 : Nat → List ByteArray → List ByteArray → Int → Option (List ByteArray × Int)
 | 0, _, _, _ => none
 | k + 1, x5, x13, x14 => if x14 < (x5.length : Int) then (if 0 ≤ x14 then ((qcl_.f k x13 (rdOf ByteArray.empty x5 x14)).bind fun t222 => (if t222 = true then (qt_.l1 k x5 x13 (wrap64 (x14 + 1))) else (if x13.length < 8796093022208 then (qt_.l1 k x5 (x13 ++ [rdOf ByteArray.empty x5 x14]) (wrap64 (x14 + 1))) else (none)))) else (none)) else (some (x13, 0))
def qt_.l0 : Nat → List ByteArray → List (S108) → Int → Option (List ByteArray × Int)
 | 0, _, _, _ => none
 | k + 1, x5, x6, x8 => if x8 < (x6.length : Int) then (if 0 ≤ x8 then (if x5.length < 8796093022208 then (qt_.l0 k (x5 ++ [(qd_ x6 x8).f2]) x6 (wrap64 (x8 + 1))) else (none)) else (none)) else (qt_.j1 k x5)
end
def qt_.f (k : Nat) (a0_0 : Int) (a0_1 : ByteArray) : Option (List ByteArray × Int) := (qdb_.f k a0_0 a0_1).bind fun t178 => (if t178 = 0 then (if a0_0 = 2 then ((qbl_.f k a0_1).bind fun bt179 => (qt_.l0 k ([] : List ByteArray) bt179.1 0)) else (if a0_0 = 3 then ((qk_.f k a0_1).bind fun bt187 => (if ([] : List ByteArray).length < 8796093022208 then ((some (([] : List ByteArray) ++ [bt187.1] : List ByteArray)).bind fun y202 => (if y202.length + bt187.2.1.length < 8796093022208 then (qt_.j1 k (y202 ++ bt187.2.1)) else (none))) else (none))) else (if a0_0 = 4 then ((qab_.f k a0_1).bind fun bt208 => (if ([] : List ByteArray).length < 8796093022208 then (qt_.j1 k (([] : List ByteArray) ++ [bt208.1])) else (none))) else (qt_.j1 k ([] : List ByteArray))))) else (some (([] : List ByteArray), t178)))
theorem qt_.calls (k : Nat) (a0_0 : Int) (a0_1 : ByteArray) (r1 : List ByteArray) (r2 : Int) (w : World) (h : qt_.f k a0_0 a0_1 = some (r1, r2)) :
  Calls Tryz.prog 35 #[.agg #[.int .i64 a0_0, .string a0_1]] w fun e w' => ∃ v0_ : Value, e = .returned (.tuple #[v0_, .int .i64 r2]) ∧ Kd.R Kd.string 9 w' w.heap.size (fun _ => True) v0_ r1 ∧ Below w.heap.size w w' := by
 have hu50 := underlying50; have hu26 := underlying26; have hu37 := underlying37; have HB := qa_.mk (Below.refl w.heap.size w); unfold qt_.f at h; have H := h; clear h; obtain ⟨t178, A2, H⟩ := bx_ H; by_cases c3 : t178 = 0; rotate_left
 ·rw [if_neg c3] at H; have c3b0 := ef_ c3; have c3b1 := nt_ c3; obtain ⟨rfl, rfl⟩ := pj2_ H; go_enter func35, ntmps35; go_wp2_with (first | ((with_reducible refine qh_ (N := 1) rfl ?_); refine be_ (cs := #[.int .i64 a0_0, .string a0_1]) (t := 50) ?_; intro g177 hg w52 hbox hb; have K177 := qa_.mk (hbox); have W177 := ag_ hg HB; have E177 := ag_ hg HB; replace HB := ah_ HB hb; clear hb hbox hg; obtain ⟨Z53_0, Z53_1, F53⟩ := bc2 K177.out) | ((with_reducible refine qb_ (f := 37) rfl ?_); refine gl_ (some 16) func37 #[.agg #[.int .i64 a0_0, .string a0_1]] ?_; refine cm_ (qdb_.calls k a0_0 a0_1 t178 _ A2.out) fun w54 hb => ?_; replace K177 := ab_ K177 hb; replace HB := hr_ hb; (try clear hb); (try clear hb2); (try clear hk); (try clear hi)))
  go_ret2
  exact ⟨_, z3_, z6_, hs_⟩
 rw [if_pos c3] at H; have c3b0 := et_ c3; have c3b1 := nf_ c3; clear c3; have HC4 := qa_.mk H; clear H; go_enter func35, ntmps35; go_upto_block 0 with (first | ((with_reducible refine qh_ (N := 1) rfl ?_); refine be_ (cs := #[.int .i64 a0_0, .string a0_1]) (t := 50) ?_; intro g177 hg w5 hbox hb; have K177 := qa_.mk (hbox); have W177 := ag_ hg HB; have E177 := ag_ hg HB; replace HB := ah_ HB hb; clear hb hbox hg; obtain ⟨Z6_0, Z6_1, F6⟩ := bc2 K177.out) | ((with_reducible refine qb_ (f := 37) rfl ?_); refine gl_ (some 16) func37 #[.agg #[.int .i64 a0_0, .string a0_1]] ?_; refine cm_ (qdb_.calls k a0_0 a0_1 t178 _ A2.out) fun w7 hb => ?_; replace K177 := ab_ K177 hb; replace HB := hr_ hb; (try clear hb); (try clear hb2); (try clear hk); (try clear hi); obtain ⟨Z8_0, Z8_1, F8⟩ := bc2 K177.out)); (try simp only [Act.put, List.setIfInBounds_toArray, List.set_cons_zero, List.set_cons_succ])
 go_cut [5] (fun v5 wc => ∃ (kq : Nat) (x5_3 : List ByteArray), qa_ (qt_.j1 kq x5_3 = some (r1, r2)) ∧ qa_ (kq ≤ k) ∧ qa_ (Kd.R Kd.string 9 wc w.heap.size (fun _ => True) v5 x5_3) ∧ qa_ (wc.heap[g177]? = some (.cells #[.int .i64 a0_0, .string a0_1] 50 (0, 0))) ∧ qa_ (Below w.heap.size w wc))
 case first =>
  have H := HC4.out; clear HC4; by_cases c9 : a0_0 = 2
  ·rw [if_pos c9] at H; have c9b0 := et_ c9; have c9b1 := nf_ c9; clear c9; (first | rw [c9b0] | (simp only [i64_w, i32_w]; rw [c9b0]) | skip); obtain ⟨⟨t179, t180⟩, A10, H⟩ := bx_ H; dsimp only at H; have H' := qa_.mk H; clear H; obtain ⟨Z11_0, Z11_1, F11⟩ := bc2 K177.out; go_wp2_with (first | ((with_reducible refine qb_ (f := 96) rfl ?_); refine gl_ (some 27) func96 #[.string a0_1] ?_; (with_reducible refine (qbl_.calls k a0_1 t179 t180 _ A10.out).mono ?_); rintro e w12 ⟨v181, rfl, ho0, hb⟩; refine ⟨_, rfl, ?_⟩; have HO182 := qa_.mk (Kd.R_lower ho0 (qj_ (hs_))); replace K177 := ab_ K177 hb; replace HB := hr_ hb; (try clear hb); (try clear hb2); (try clear hk); (try clear hi); (try clear ho0)))
   go_loopg [5, 8] k (fun kq v5 v8 w' => ∃ (x5_1 : List ByteArray) (x8_1 : Int), v8 = .int .i64 x8_1 ∧ qa_ (qt_.l0 kq x5_1 t179 x8_1 = some (r1, r2)) ∧ qa_ (kq ≤ k) ∧ qa_ (Kd.R Kd.string 9 w' w.heap.size (fun _ => True) v5 x5_1) ∧ qa_ (Kd.R k108 108 w' w.heap.size (fun _ => True) v181 t179) ∧ qa_ (w'.heap[g177]? = some (.cells #[.int .i64 a0_0, .string a0_1] 50 (0, 0))) ∧ qa_ (Below w.heap.size w w'))
   case atStart => exact ⟨(([] : List ByteArray)), (0), z1_, H', ⟨Nat.le_refl _⟩, ⟨z6_⟩, ⟨by (with_reducible repeat (first | apply Kd.R_alloc | apply Kd.R_drewN | apply Kd.R_drew)); exact HO182.out⟩, ⟨bk_ K177.out⟩, ⟨hs_⟩⟩
   case round =>
    clear H'; try clear p2
    try clear c3
    try clear c3b0
    try clear c3b1
    try clear c9
    try clear c9b0
    try clear c9b1
    try clear Z11_0 Z11_1
    try clear Z6_0 Z6_1
    try clear Z8_0 Z8_1
    try clear F11
    try clear F6
    try clear F8
    obtain ⟨x5_1, x8_1, rfl, HA, HK1, HO_5, HO_6, K177, HB⟩ := hrel
    cases gk with
    | zero => exact absurd HA.out (by simp [qt_.l0])
    | succ k1 =>
     have H := HA.out; clear HA; simp only [qt_.l0] at H; by_cases c13 : x8_1 < (t179.length : Int); rotate_left
     ·rw [if_neg c13] at H; have c13b0 := df_ c13; clear c13; have H' := qa_.mk H; clear H; obtain ⟨Ao18, co18, eo18⟩ := Kd.R_slice HO_6.out; subst eo18; go_wp2
      go_meet
      case rel => exact ⟨_, (x5_1), H', ⟨by have := HK1.out; first | omega | exact Nat.le_refl _⟩, ⟨z20_⟩, ⟨bk_ K177.out⟩, ⟨hs_⟩⟩
     rw [if_pos c13] at H; have c13b0 := dt_ c13; clear c13; by_cases c14 : 0 ≤ x8_1; rotate_left
     ·rw [if_neg c14] at H; exact no_ H
     rw [if_pos c14] at H; have c14b0 := dt_ c14; clear c14; by_cases c15 : x5_1.length < 8796093022208; rotate_left
     ·rw [if_neg c15] at H; exact no_ H
     rw [if_pos c15] at H; have LMc15 := qa_.mk c15; clear c15; obtain ⟨y184, hy184⟩ : ∃ y_ : List ByteArray, y_ = (x5_1 ++ [(qd_ t179 x8_1).f2]) := ⟨_, rfl⟩; replace H : (qt_.l0 k1 y184 t179 (wrap64 (x8_1 + 1))) = some (r1, r2) := by first | (rw [hy184]; with_reducible exact H) | (have H2_ := (Option.bind_some _ _).symm.trans H; rw [hy184]; with_reducible exact H2_) | (have H2_ := (Option.bind_some _ _).symm.trans H; with_reducible exact H2_) | with_reducible exact H | (rw [hy184]; exact H) | exact H
     have Ny184 := qa_.mk hy184; clear hy184; have H' := qa_.mk H; clear H; obtain ⟨Ao16, co16, eo16⟩ := Kd.R_slice HO_6.out; subst eo16; have p183 : 0 ≤ (x8_1 : Int) := y0_; have q183 : x8_1 < (t179.length : Int) := y0_; obtain ⟨ad183, e183, hx183_0, hx183_1, hx183_2⟩ := qew_ (Kd.R_reads' HO_6.out).2.2 x8_1 p183 q183
     cases e183
     replace p183 := eq_true p183; replace q183 := eq_true q183; go_wp2_with (first | ((with_reducible refine qdp_ (b := .append) (xs := #[.tmp 36, .tmp 42]) rfl ?_); at_builtin; refine Kd.R_append Kd.string (w0 := w) w.heap.size rfl (.tmp 36) (.tmp 42) 22 9 (.string ⟨#[]⟩) 16 rfl underlying22 info9 rfl (by decide) (by omega) u5 x5_1 ((qd_ t179 x8_1).f2) [.string ((qd_ t179 x8_1).f2)] (fun _ => True) (fun _ => False) rfl rfl ?aP (fun _ hk => hk.elim) ?aF ?aO ?aB ?aS ?aL ?_; (case aP => exact rfl); (case aB => exact (hs_)); (case aF => exact (fun _ _ => trivial)); (case aO => exact (rk_ HO_5.out)); (case aS => exact (qj_ (hs_))); (case aL => have := LMc15.out; omega); intro v185 w17 ho hb hg hat; rw [← Ny184.out] at ho; have n0_ := qa_.mk (Kd.R_over' (rk_ HO_6.out) (Kd.R_typed (rk_ HO_5.out)) (by decide) hg); have n1_ := qa_.mk (qdd_ (g := g177) (o := .cells #[.int .i64 a0_0, .string a0_1] 50 (0, 0)) (bk_ K177.out) hg (Kd.R_ne HO_5.out K177.out (by decide))); have n2_ := qa_.mk (hb); have n3_ := qa_.mk (ho); clear HO_6; clear K177; clear HB; clear HO_5; have HO_6 := n0_; have K177 := n1_; have HB := n2_; have HO186 := n3_; clear n0_ n1_ n2_ n3_; clear ho hb hg hat)); go_roundg k1
     case measure => have := HK1.out; omega
     case rel => exact ⟨(y184), (wrap64 (x8_1 + 1)), z1_, H', ⟨by have := HK1.out; omega⟩, ⟨by (with_reducible repeat (first | apply Kd.R_alloc | apply Kd.R_drewN | apply Kd.R_drew)); exact HO186.out⟩, ⟨by (with_reducible repeat (first | apply Kd.R_alloc | apply Kd.R_drewN | apply Kd.R_drew)); exact HO_6.out⟩, ⟨bk_ K177.out⟩, ⟨hs_⟩⟩
  rw [if_neg c9] at H; have c9b0 := ef_ c9; have c9b1 := nt_ c9; (first | rw [c9b0] | (simp only [i64_w, i32_w]; rw [c9b0]) | skip); by_cases c19 : a0_0 = 3; rotate_left
  ·rw [if_neg c19] at H; have c19b0 := ef_ c19; have c19b1 := nt_ c19; by_cases c32 : a0_0 = 4; rotate_left
   ·rw [if_neg c32] at H; have c32b0 := ef_ c32; have c32b1 := nt_ c32; have H' := qa_.mk H; clear H; go_wp2
    go_meet
    case rel => exact ⟨_, (([] : List ByteArray)), H', ⟨z4_⟩, ⟨z6_⟩, ⟨bk_ K177.out⟩, ⟨hs_⟩⟩
   rw [if_pos c32] at H; have c32b0 := et_ c32; have c32b1 := nf_ c32; clear c32; obtain ⟨⟨t208, t209, t210, t211, t212, t213, t214, t215, t216⟩, A33, H⟩ := bx_ H; dsimp only at H; by_cases c34 : ([] : List ByteArray).length < 8796093022208; rotate_left
   ·rw [if_neg c34] at H; exact no_ H
   rw [if_pos c34] at H; have LMc34 := qa_.mk c34; clear c34; obtain ⟨y218, hy218⟩ : ∃ y_ : List ByteArray, y_ = (([] : List ByteArray) ++ [t208]) := ⟨_, rfl⟩; replace H : (qt_.j1 k y218) = some (r1, r2) := by first | (rw [hy218]; with_reducible exact H) | (have H2_ := (Option.bind_some _ _).symm.trans H; rw [hy218]; with_reducible exact H2_) | (have H2_ := (Option.bind_some _ _).symm.trans H; with_reducible exact H2_) | with_reducible exact H | (rw [hy218]; exact H) | exact H
   have Ny218 := qa_.mk hy218; clear hy218; have H' := qa_.mk H; clear H; obtain ⟨Z35_0, Z35_1, F35⟩ := bc2 K177.out; go_wp2_with (first | ((with_reducible refine qb_ (f := 24) rfl ?_); refine gl_ (some 66) func24 #[.string a0_1] ?_; refine cm_ (qab_.calls k a0_1 t208 t209 t210 t211 t212 t213 t214 t215 t216 _ A33.out) fun w36 hb => ?_; replace K177 := ab_ K177 hb; replace HB := hr_ hb; (try clear hb); (try clear hb2); (try clear hk); (try clear hi)) | ((with_reducible refine qh_ (N := 11) rfl ?_); refine be_ (cs := #[.string ⟨#[]⟩, .int .i64 0, .string ⟨#[]⟩, .string ⟨#[]⟩, .string ⟨#[]⟩, .int .i64 0, .int .i64 0, .string ⟨#[]⟩]) (t := 37) ?_; intro g217 hg w37 hbox hb; have K217 := qa_.mk (hbox); have W217 := qa_.mk ((by rw [hg]; exact (qj_ (hs_)) : w.heap.size ≤ g217)); have E217 := qa_.mk ((by rw [hg]; exact (qj_ (hs_)) : w.heap.size ≤ g217)); replace HB := hr_ hb; have N177_217 := qa_.mk (nl2_ hg K177.out); have N217_177 := qa_.mk (ng2_ hg K177.out); replace K177 := ab_ K177 hb; clear hb hbox hg; have hnb38 := N217_177.out; have hnc38 := N177_217.out; obtain ⟨Z39_0, Z39_1, Z39_2, Z39_3, Z39_4, Z39_5, Z39_6, Z39_7, F39⟩ := bc8 K217.out) | ((with_reducible refine qdp_ (b := .append) (xs := #[.tmp 69, .tmp 72]) rfl ?_); at_builtin; refine Kd.R_append Kd.string (w0 := w) w.heap.size rfl (.tmp 69) (.tmp 72) 22 9 (.string ⟨#[]⟩) 16 rfl underlying22 info9 rfl (by decide) (by omega) (.slice none 0 0) ([] : List ByteArray) t208 [.string t208] (fun _ => True) (fun _ => False) rfl z27_ ?aP (fun _ hk => hk.elim) ?aF ?aO ?aB ?aS ?aL ?_; (case aP => exact rfl); (case aB => exact (hs_)); (case aF => exact (fun _ _ => trivial)); (case aO => exact ((Kd.R_nil _ _ _ _ (fun _ => True)))); (case aS => exact (qj_ (hs_))); (case aL => have := LMc34.out; omega); intro v219 w40 ho hb hg hat; rw [← Ny218.out] at ho; replace K177 := qa_.mk (qdd_ (g := g177) (o := .cells #[.int .i64 a0_0, .string a0_1] 50 (0, 0)) (by have b_ := K177; have f_ := N177_217; exact zb_) hg (by simp [Value.ownBlock])); replace K217 := qa_.mk (qdd_ (g := g217) (o := .cells #[.string t208, .int .i64 t209, .string t210, .string t211, .string t212, .int .i64 t213, .int .i64 t214, .string t215] 37 (0, 0)) (by have b_ := K217; exact zb_) hg (by simp [Value.ownBlock])); replace HB := qa_.mk (hb); have HO220 := qa_.mk (ho); clear ho hb hg hat)); go_meet
   case rel => exact ⟨_, (y218), H', ⟨z4_⟩, ⟨by (with_reducible repeat (first | apply Kd.R_alloc | apply Kd.R_drewN | apply Kd.R_drew)); exact HO220.out⟩, ⟨bk_ K177.out⟩, ⟨hs_⟩⟩
  rw [if_pos c19] at H; have c19b0 := et_ c19; have c19b1 := nf_ c19; clear c19; obtain ⟨⟨t187, t188, t191, t192, t193, t194, t195, t196, t197, t198, t199, t200⟩, A20, H⟩ := bx_ H; dsimp only at H; by_cases c21 : ([] : List ByteArray).length < 8796093022208; rotate_left
  ·rw [if_neg c21] at H; exact no_ H
  rw [if_pos c21] at H; have LMc21 := qa_.mk c21; clear c21; obtain ⟨y202, hy202⟩ : ∃ y_ : List ByteArray, y_ = (([] : List ByteArray) ++ [t187]) := ⟨_, rfl⟩; replace H : (if y202.length + t188.length < 8796093022208 then (qt_.j1 k (y202 ++ t188)) else (none)) = some (r1, r2) := by first | (rw [hy202]; with_reducible exact H) | (have H2_ := (Option.bind_some _ _).symm.trans H; rw [hy202]; with_reducible exact H2_) | (have H2_ := (Option.bind_some _ _).symm.trans H; with_reducible exact H2_) | with_reducible exact H | (rw [hy202]; exact H) | exact H
  have Ny202 := qa_.mk hy202; clear hy202; by_cases c22 : y202.length + t188.length < 8796093022208; rotate_left
  ·rw [if_neg c22] at H; exact no_ H
  rw [if_pos c22] at H; have LMc22 := qa_.mk c22; clear c22; obtain ⟨y205, hy205⟩ : ∃ y_ : List ByteArray, y_ = (y202 ++ t188) := ⟨_, rfl⟩; replace H : (qt_.j1 k y205) = some (r1, r2) := by first | (rw [hy205]; with_reducible exact H) | (have H2_ := (Option.bind_some _ _).symm.trans H; rw [hy205]; with_reducible exact H2_) | (have H2_ := (Option.bind_some _ _).symm.trans H; with_reducible exact H2_) | with_reducible exact H | (rw [hy205]; exact H) | exact H
  have Ny205 := qa_.mk hy205; clear hy205; have H' := qa_.mk H; clear H; obtain ⟨Z23_0, Z23_1, F23⟩ := bc2 K177.out; go_wp2_with (first | ((with_reducible refine qb_ (f := 22) rfl ?_); refine gl_ (some 49) func22 #[.string a0_1] ?_; (with_reducible refine (qk_.calls k a0_1 t187 t188 t191 t192 t193 t194 t195 t196 t197 t198 t199 t200 _ A20.out).mono ?_); rintro e w24 ⟨v189, rfl, ho0, hb⟩; refine ⟨_, rfl, ?_⟩; have HO190 := qa_.mk (Kd.R_lower ho0 (qj_ (hs_))); replace K177 := ab_ K177 hb; replace HB := hr_ hb; (try clear hb); (try clear hb2); (try clear hk); (try clear hi); (try clear ho0)) | ((with_reducible refine qh_ (N := 9) rfl ?_); refine be_ (cs := #[.string ⟨#[]⟩, .slice none 0 0, .string ⟨#[]⟩, .string ⟨#[]⟩, .int .i64 0, .int .i64 0, .string ⟨#[]⟩, .string ⟨#[]⟩, .int .i64 0, .int .i64 0, .string ⟨#[]⟩]) (t := 26) ?_; intro g201 hg w25 hbox hb; replace HO190 := qa_.mk (Kd.R_below (rk_ HO190.out) hb); have K201 := qa_.mk (hbox); have W201 := qa_.mk ((by rw [hg]; exact (qj_ (hs_)) : w.heap.size ≤ g201)); have E201 := qa_.mk ((by rw [hg]; exact (qj_ (hs_)) : w.heap.size ≤ g201)); replace HB := hr_ hb; have N177_201 := qa_.mk (nl2_ hg K177.out); have N201_177 := qa_.mk (ng2_ hg K177.out); replace K177 := ab_ K177 hb; clear hb hbox hg; have hnb26 := N201_177.out; have hnc26 := N177_201.out; obtain ⟨Z27_0, Z27_1, Z27_2, Z27_3, Z27_4, Z27_5, Z27_6, Z27_7, Z27_8, Z27_9, Z27_10, F27⟩ := bc11 K201.out; obtain ⟨Ao28, co28, eo28⟩ := Kd.R_slice HO190.out; subst eo28) | ((with_reducible refine qdp_ (b := .append) (xs := #[.tmp 52, .tmp 55]) rfl ?_); at_builtin; refine Kd.R_append Kd.string (w0 := w) w.heap.size rfl (.tmp 52) (.tmp 55) 22 9 (.string ⟨#[]⟩) 16 rfl underlying22 info9 rfl (by decide) (by omega) (.slice none 0 0) ([] : List ByteArray) t187 [.string t187] (fun k_ => some k_ ≠ (.slice Ao28 t188.length co28 : Value).ownBlock) (fun _ => False) rfl z27_ ?aP (fun _ hk => hk.elim) ?aF ?aO ?aB ?aS ?aL ?_; (case aP => exact rfl); (case aB => exact (hs_)); (case aF => exact (fun k_ hk => Kd.fresh' (Kd.R_lt (by (with_reducible repeat (first | apply Kd.R_alloc | apply Kd.R_drewN | apply Kd.R_drew)); exact (Kd.R_mono (Kd.R_far (p := ⟨g201, 10, none⟩) (Kd.R_far (p := ⟨g201, 9, none⟩) (Kd.R_far (p := ⟨g201, 8, none⟩) (Kd.R_far (p := ⟨g201, 7, none⟩) (Kd.R_far (p := ⟨g201, 6, none⟩) (Kd.R_far (p := ⟨g201, 5, none⟩) (Kd.R_far (p := ⟨g201, 4, none⟩) (Kd.R_far (p := ⟨g201, 3, none⟩) (Kd.R_far (p := ⟨g201, 2, none⟩) (Kd.R_far (p := ⟨g201, 1, none⟩) (Kd.R_far (p := ⟨g201, 0, none⟩) (Kd.R_types HO190.out K201.out (by decide)) (fun _ hk => hk.2) (.string t187)) (fun _ hk => hk.2) (.slice Ao28 t188.length co28)) (fun _ hk => hk.2) (.string t191)) (fun _ hk => hk.2) (.string t192)) (fun _ hk => hk.2) (.int .i64 t193)) (fun _ hk => hk.2) (.int .i64 t194)) (fun _ hk => hk.2) (.string t195)) (fun _ hk => hk.2) (.string t196)) (fun _ hk => hk.2) (.int .i64 t197)) (fun _ hk => hk.2) (.int .i64 t198)) (fun _ hk => hk.2) (.string t199)) (fun _ h_ => h_.1)))) k_ hk)); (case aO => exact ((Kd.R_nil _ _ _ _ (fun k_ => some k_ ≠ (.slice Ao28 t188.length co28 : Value).ownBlock)))); (case aS => exact (qj_ (hs_))); (case aL => have := LMc21.out; omega); intro v203 w29 ho hb hg hat; rw [← Ny202.out] at ho; replace K177 := qa_.mk (qdd_ (g := g177) (o := .cells #[.int .i64 a0_0, .string a0_1] 50 (0, 0)) (by have b_ := K177; have f_ := N177_201; exact zb_) hg (by simp [Value.ownBlock])); replace HO190 := qa_.mk (Kd.R_after (Kd.R_apart_nil (by (with_reducible repeat (first | apply Kd.R_alloc | apply Kd.R_drewN | apply Kd.R_drew)); exact (Kd.R_mono (Kd.R_far (p := ⟨g201, 10, none⟩) (Kd.R_far (p := ⟨g201, 9, none⟩) (Kd.R_far (p := ⟨g201, 8, none⟩) (Kd.R_far (p := ⟨g201, 7, none⟩) (Kd.R_far (p := ⟨g201, 6, none⟩) (Kd.R_far (p := ⟨g201, 5, none⟩) (Kd.R_far (p := ⟨g201, 4, none⟩) (Kd.R_far (p := ⟨g201, 3, none⟩) (Kd.R_far (p := ⟨g201, 2, none⟩) (Kd.R_far (p := ⟨g201, 1, none⟩) (Kd.R_far (p := ⟨g201, 0, none⟩) (Kd.R_types HO190.out K201.out (by decide)) (fun _ hk => hk.2) (.string t187)) (fun _ hk => hk.2) (.slice Ao28 t188.length co28)) (fun _ hk => hk.2) (.string t191)) (fun _ hk => hk.2) (.string t192)) (fun _ hk => hk.2) (.int .i64 t193)) (fun _ hk => hk.2) (.int .i64 t194)) (fun _ hk => hk.2) (.string t195)) (fun _ hk => hk.2) (.string t196)) (fun _ hk => hk.2) (.int .i64 t197)) (fun _ hk => hk.2) (.int .i64 t198)) (fun _ hk => hk.2) (.string t199)) (fun _ h_ => h_.1)))) hg hat); replace K201 := qa_.mk (qdd_ (g := g201) (o := .cells #[.string t187, .slice Ao28 t188.length co28, .string t191, .string t192, .int .i64 t193, .int .i64 t194, .string t195, .string t196, .int .i64 t197, .int .i64 t198, .string t199] 26 (0, 0)) (by have b_ := K201; exact zb_) hg (by simp [Value.ownBlock])); replace HB := qa_.mk (hb); have HO204 := qa_.mk (ho); clear ho hb hg hat; obtain ⟨Z30_0, Z30_1, Z30_2, Z30_3, Z30_4, Z30_5, Z30_6, Z30_7, Z30_8, Z30_9, Z30_10, F30⟩ := bc11 K201.out) | ((with_reducible refine qdp_ (b := .append) (xs := #[.tmp 57, .tmp 59]) rfl ?_); at_builtin; refine Kd.R_append_rows Kd.string (w0 := w) w.heap.size rfl (.tmp 57) (.tmp 59) 22 9 (.string ⟨#[]⟩) 16 rfl underlying22 info9 rfl (by decide) (by omega) v203 y202 t188 _ _ _ (fun k_ => some k_ ≠ (.slice Ao28 t188.length co28 : Value).ownBlock) (fun _ => False) rfl rfl ?aO ?aR (fun _ _ h => h) (fun _ h => h.elim) ?aF ?aB ?aS ?aL ?_; (case aR => repeat (first | exact (Kd.R_reads' HO190.out).2.2 | (with_reducible refine Kd.C_alloc ?_ _) | (with_reducible refine Kd.C_drewN ?_ _) | (with_reducible refine Kd.C_drew ?_))); (case aB => exact (hs_)); (case aF => exact (fun k_ hk => Kd.fresh' (Kd.R_lt (rk_ HO190.out)) k_ hk)); (case aO => exact (rk_ HO204.out)); (case aS => exact (qj_ (hs_))); (case aL => have := LMc22.out; omega); intro v206 w31 ho hb hg hat; rw [← Ny205.out] at ho; have n0_ := qa_.mk (qdd_ (g := g177) (o := .cells #[.int .i64 a0_0, .string a0_1] 50 (0, 0)) (bk_ K177.out) hg (Kd.R_ne HO204.out K177.out (by decide))); have n1_ := qa_.mk (Kd.R_after (ok := (fun _ => True)) (rk_ HO190.out) hg hat); have n2_ := qa_.mk (qdd_ (g := g201) (o := .cells #[.string t187, .slice Ao28 t188.length co28, .string t191, .string t192, .int .i64 t193, .int .i64 t194, .string t195, .string t196, .int .i64 t197, .int .i64 t198, .string t199] 26 (0, 0)) (bk_ K201.out) hg (Kd.R_ne HO204.out K201.out (by decide))); have n3_ := qa_.mk (hb); have n4_ := qa_.mk (ho); clear K177; clear HO190; clear K201; clear HB; clear HO204; have K177 := n0_; have HO190 := n1_; have K201 := n2_; have HB := n3_; have HO207 := n4_; clear n0_ n1_ n2_ n3_ n4_; clear ho hb hg hat))
  go_meet
  case rel => exact ⟨_, (y205), H', ⟨z4_⟩, ⟨by (with_reducible repeat (first | apply Kd.R_alloc | apply Kd.R_drewN | apply Kd.R_drew)); exact Kd.R_mono HO207.out (fun _ hk => trivial)⟩, ⟨bk_ K177.out⟩, ⟨hs_⟩⟩
 case rest =>
  clear HC4; try clear c1
  try clear p1
  try clear q1
  try clear hx1
  try clear c2
  try clear p2
  try clear c3
  try clear c3b0
  try clear c3b1
  try clear p6
  try clear c9
  try clear c9b0
  try clear c9b1
  try clear c13
  try clear c13b0
  try clear c14
  try clear c14b0
  try clear c15
  try clear p18
  try clear q18
  try clear hx18
  try clear c19
  try clear c19b0
  try clear c19b1
  try clear c21
  try clear c22
  try clear c24
  try clear c26
  try clear c32
  try clear c32b0
  try clear c32b1
  try clear c34
  try clear c35
  try clear c37
  try clear c38
  try clear Z11_0 Z11_1
  try clear Z23_0 Z23_1
  try clear Z27_0 Z27_1 Z27_10 Z27_2 Z27_3 Z27_4 Z27_5 Z27_6 Z27_7 Z27_8 Z27_9
  try clear Z30_0 Z30_1 Z30_10 Z30_2 Z30_3 Z30_4 Z30_5 Z30_6 Z30_7 Z30_8 Z30_9
  try clear Z35_0 Z35_1
  try clear Z39_0 Z39_1 Z39_2 Z39_3 Z39_4 Z39_5 Z39_6 Z39_7
  try clear Z6_0 Z6_1
  try clear Z8_0 Z8_1
  try clear F11
  try clear F23
  try clear F27
  try clear F30
  try clear F35
  try clear F39
  try clear F6
  try clear F8
  try clear hx183_0
  try clear hx183_1
  try clear hx183_2
  try clear p183
  try clear p2
  try clear q183
  obtain ⟨kq, x5_3, HA, HJ3, HO_5, K177, HB⟩ := hcut
  cases kq with
  | zero => exact absurd HA.out (by simp [qt_.j1])
  | succ kj3 =>
   have H := HA.out; clear HA; simp only [qt_.j1] at H; have H' := qa_.mk H; clear H; go_wp2
   go_loopg [13, 14] kj3 (fun kq v13 v14 w' => ∃ (x13_2 : List ByteArray) (x14_2 : Int), v14 = .int .i64 x14_2 ∧ qa_ (qt_.l1 kq x5_3 x13_2 x14_2 = some (r1, r2)) ∧ qa_ (kq ≤ kj3) ∧ qa_ (Kd.R Kd.string 9 w' w.heap.size (fun k_ => some k_ ≠ (v13 : Value).ownBlock) u5 x5_3) ∧ qa_ (Kd.R Kd.string 9 w' w.heap.size (fun k_ => some k_ ≠ (u5 : Value).ownBlock) v13 x13_2) ∧ qa_ (w'.heap[g177]? = some (.cells #[.int .i64 a0_0, .string a0_1] 50 (0, 0))) ∧ qa_ (Below w.heap.size w w'))
   case atStart => exact ⟨(([] : List ByteArray)), (0), z1_, H', ⟨Nat.le_refl _⟩, ⟨by (with_reducible repeat (first | apply Kd.R_alloc | apply Kd.R_drewN | apply Kd.R_drew)); exact Kd.R_mono HO_5.out (fun _ hk => (by simp [Value.ownBlock]))⟩, ⟨z6_⟩, ⟨bk_ K177.out⟩, ⟨hs_⟩⟩
   case round =>
    clear H'; try clear c1
    try clear p1
    try clear q1
    try clear hx1
    try clear c2
    try clear p2
    try clear c3
    try clear c3b0
    try clear c3b1
    try clear p6
    try clear c9
    try clear c9b0
    try clear c9b1
    try clear c13
    try clear c13b0
    try clear c14
    try clear c14b0
    try clear c15
    try clear p18
    try clear q18
    try clear hx18
    try clear c19
    try clear c19b0
    try clear c19b1
    try clear c21
    try clear c22
    try clear c24
    try clear c26
    try clear c32
    try clear c32b0
    try clear c32b1
    try clear c34
    try clear c35
    try clear c37
    try clear c38
    try clear Z11_0 Z11_1
    try clear Z23_0 Z23_1
    try clear Z27_0 Z27_1 Z27_10 Z27_2 Z27_3 Z27_4 Z27_5 Z27_6 Z27_7 Z27_8 Z27_9
    try clear Z30_0 Z30_1 Z30_10 Z30_2 Z30_3 Z30_4 Z30_5 Z30_6 Z30_7 Z30_8 Z30_9
    try clear Z35_0 Z35_1
    try clear Z39_0 Z39_1 Z39_2 Z39_3 Z39_4 Z39_5 Z39_6 Z39_7
    try clear Z6_0 Z6_1
    try clear Z8_0 Z8_1
    try clear F11
    try clear F23
    try clear F27
    try clear F30
    try clear F35
    try clear F39
    try clear F6
    try clear F8
    try clear hx183_0
    try clear hx183_1
    try clear hx183_2
    try clear p1
    try clear p18
    try clear p183
    try clear p2
    try clear p6
    try clear q1
    try clear q18
    try clear q183
    obtain ⟨x13_2, x14_2, rfl, HA, HK2, HO_5, HO_13, K177, HB⟩ := hrel
    cases gk with
    | zero => exact absurd HA.out (by simp [qt_.l1])
    | succ k2 =>
     have H := HA.out; clear HA; simp only [qt_.l1] at H; by_cases c41 : x14_2 < (x5_3.length : Int); rotate_left
     ·rw [if_neg c41] at H; have c41b0 := df_ c41; clear c41; obtain ⟨rfl, rfl⟩ := pj2_ H; obtain ⟨Ao51, co51, eo51⟩ := Kd.R_slice HO_5.out; subst eo51; go_wp2
      go_ret2
      exact ⟨_, z3_, by (with_reducible repeat (first | apply Kd.R_alloc | apply Kd.R_drewN | apply Kd.R_drew)); exact Kd.R_mono HO_13.out (fun _ hk => trivial), hs_⟩
     rw [if_pos c41] at H; have c41b0 := dt_ c41; clear c41; by_cases c42 : 0 ≤ x14_2; rotate_left
     ·rw [if_neg c42] at H; exact no_ H
     rw [if_pos c42] at H; have c42b0 := dt_ c42; clear c42; obtain ⟨t222, A43, H⟩ := bx_ H; by_cases c44 : t222 = true
     ·subst c44; rw [if_pos rfl] at H; have H' := qa_.mk H; clear H; obtain ⟨Ao45, co45, eo45⟩ := Kd.R_slice HO_5.out; subst eo45; have p221 : 0 ≤ (x14_2 : Int) := y0_; have q221 : x14_2 < (x5_3.length : Int) := y0_; obtain ⟨ad221, e221, hx221_0⟩ := Kd.at_string (Kd.R_reads' HO_5.out).2.2 x14_2 p221 q221
      cases e221
      replace p221 := eq_true p221; replace q221 := eq_true q221; obtain ⟨Ao46, co46, eo46⟩ := Kd.R_slice HO_13.out; subst eo46; go_wp2_with (first | ((with_reducible refine qb_ (f := 62) rfl ?_); refine gl_ (some 85) func62 #[.slice Ao46 x13_2.length co46, .string (rdOf ByteArray.empty x5_3 x14_2)] ?_; (with_reducible refine (qcl_.calls k2 _ _ x13_2 (rdOf ByteArray.empty x5_3 x14_2) true _ ?side1 ?side2 A43.out).mono ?_); (case side1 => repeat (first | exact (Kd.R_reads' HO_13.out).2.2 | (with_reducible refine Kd.C_alloc ?_ _) | (with_reducible refine Kd.C_drewN ?_ _) | (with_reducible refine Kd.C_drew ?_))); (case side2 => exact (Kd.R_reads' HO_13.out).2.1); rintro e w' ⟨rfl, ⟨nd, rfl⟩⟩; refine ⟨_, rfl, ?_⟩)); go_roundg k2
      case measure => have := HJ3.out; have := HK2.out; omega
      case rel => exact ⟨(x13_2), (wrap64 (x14_2 + 1)), z1_, H', ⟨by have := HJ3.out; have := HK2.out; omega⟩, ⟨z20_⟩, ⟨by (with_reducible repeat (first | apply Kd.R_alloc | apply Kd.R_drewN | apply Kd.R_drew)); exact HO_13.out⟩, ⟨bk_ K177.out⟩, ⟨hs_⟩⟩
     replace c44 := Bool.eq_false_iff.mpr c44; subst c44; rw [if_neg nft_] at H; by_cases c47 : x13_2.length < 8796093022208; rotate_left
     ·rw [if_neg c47] at H; exact no_ H
     rw [if_pos c47] at H; have LMc47 := qa_.mk c47; clear c47; obtain ⟨y224, hy224⟩ : ∃ y_ : List ByteArray, y_ = (x13_2 ++ [rdOf ByteArray.empty x5_3 x14_2]) := ⟨_, rfl⟩; replace H : (qt_.l1 k2 x5_3 y224 (wrap64 (x14_2 + 1))) = some (r1, r2) := by first | (rw [hy224]; with_reducible exact H) | (have H2_ := (Option.bind_some _ _).symm.trans H; rw [hy224]; with_reducible exact H2_) | (have H2_ := (Option.bind_some _ _).symm.trans H; with_reducible exact H2_) | with_reducible exact H | (rw [hy224]; exact H) | exact H
     have Ny224 := qa_.mk hy224; clear hy224; have H' := qa_.mk H; clear H; obtain ⟨Ao48, co48, eo48⟩ := Kd.R_slice HO_5.out; subst eo48; have p221 : 0 ≤ (x14_2 : Int) := y0_; have q221 : x14_2 < (x5_3.length : Int) := y0_; obtain ⟨ad221, e221, hx221_0⟩ := Kd.at_string (Kd.R_reads' HO_5.out).2.2 x14_2 p221 q221
     cases e221
     replace p221 := eq_true p221; replace q221 := eq_true q221; obtain ⟨Ao49, co49, eo49⟩ := Kd.R_slice HO_13.out; subst eo49; go_wp2_with (first | ((with_reducible refine qb_ (f := 62) rfl ?_); refine gl_ (some 85) func62 #[.slice Ao49 x13_2.length co49, .string (rdOf ByteArray.empty x5_3 x14_2)] ?_; (with_reducible refine (qcl_.calls k2 _ _ x13_2 (rdOf ByteArray.empty x5_3 x14_2) false _ ?side1 ?side2 A43.out).mono ?_); (case side1 => repeat (first | exact (Kd.R_reads' HO_13.out).2.2 | (with_reducible refine Kd.C_alloc ?_ _) | (with_reducible refine Kd.C_drewN ?_ _) | (with_reducible refine Kd.C_drew ?_))); (case side2 => exact (Kd.R_reads' HO_13.out).2.1); rintro e w' ⟨rfl, ⟨nd, rfl⟩⟩; refine ⟨_, rfl, ?_⟩; have p223 : 0 ≤ (x14_2 : Int) := y0_; have q223 : x14_2 < (x5_3.length : Int) := y0_; obtain ⟨ad223, e223, hx223_0⟩ := Kd.at_string (Kd.R_reads' HO_5.out).2.2 x14_2 p223 q223; obtain rfl : ad221 = ad223 := (by injection e223); replace p223 := eq_true p223; replace q223 := eq_true q223) | ((with_reducible refine qdp_ (b := .append) (xs := #[.tmp 87, .tmp 92]) rfl ?_); at_builtin; refine Kd.R_append Kd.string (w0 := w) w.heap.size rfl (.tmp 87) (.tmp 92) 22 9 (.string ⟨#[]⟩) 16 rfl underlying22 info9 rfl (by decide) (by omega) (.slice Ao49 x13_2.length co49) x13_2 (rdOf ByteArray.empty x5_3 x14_2) [.string (rdOf ByteArray.empty x5_3 x14_2)] (fun k_ => some k_ ≠ (.slice (some ad221) x5_3.length co48 : Value).ownBlock) (fun _ => False) rfl rfl ?aP (fun _ hk => hk.elim) ?aF ?aO ?aB ?aS ?aL ?_; (case aP => exact rfl); (case aB => exact (hs_)); (case aF => exact (fun k_ hk => Kd.fresh' (Kd.R_lt (rk_ HO_5.out)) k_ hk)); (case aO => exact (rk_ HO_13.out)); (case aS => exact (qj_ (hs_))); (case aL => have := LMc47.out; omega); intro v225 w50 ho hb hg hat; rw [← Ny224.out] at ho; have n0_ := qa_.mk (Kd.R_after (ok := (fun _ => True)) (by (with_reducible repeat (first | apply Kd.R_alloc | apply Kd.R_drewN | apply Kd.R_drew)); exact Kd.R_mono HO_5.out (fun _ hk => ⟨trivial, hk⟩)) hg hat); have n1_ := qa_.mk (qdd_ (g := g177) (o := .cells #[.int .i64 a0_0, .string a0_1] 50 (0, 0)) (bk_ K177.out) hg (Kd.R_ne HO_13.out K177.out (by decide))); have n2_ := qa_.mk (hb); have n3_ := qa_.mk (ho); clear HO_5; clear K177; clear HB; clear HO_13; have HO_5 := n0_; have K177 := n1_; have HB := n2_; have HO226 := n3_; clear n0_ n1_ n2_ n3_; clear ho hb hg hat)); go_roundg k2
     case measure => have := HJ3.out; have := HK2.out; omega
     case rel => exact ⟨(y224), (wrap64 (x14_2 + 1)), z1_, H', ⟨by have := HJ3.out; have := HK2.out; omega⟩, ⟨by (with_reducible repeat (first | apply Kd.R_alloc | apply Kd.R_drewN | apply Kd.R_drew)); exact Kd.R_mono HO_5.out (fun _ hk => hk.2)⟩, ⟨by (with_reducible repeat (first | apply Kd.R_alloc | apply Kd.R_drewN | apply Kd.R_drew)); exact HO226.out⟩, ⟨bk_ K177.out⟩, ⟨hs_⟩⟩
theorem kinds_size : (Tryz.prog.info? 148).map (·.size) = some 8 := by kernel_rfl
theorem kinds_calls (w : World) : Calls Tryz.prog 143 #[] w fun e w' => e = .returned (.agg #[.int .i64 1, .string ⟨#[98, 108, 111, 98]⟩, .int .i64 2, .string ⟨#[116, 114, 101, 101]⟩, .int .i64 3, .string ⟨#[99, 111, 109, 109, 105, 116]⟩, .int .i64 4, .string ⟨#[116, 97, 103]⟩]) ∧ Below w.heap.size w w' := by
  have HB := qa_.mk (Below.refl w.heap.size w)
  have huk := underlying148
  have huk2 := underlying147
  go_enter func143, ntmps143
  go_wp2_with ((with_reducible refine qh_ (N := 0) rfl ?_); refine qfw_ ?hg (N := 0) ?hd (cs := #[.int .i64 0, .string ⟨#[]⟩, .int .i64 0, .string ⟨#[]⟩, .int .i64 0, .string ⟨#[]⟩, .int .i64 0, .string ⟨#[]⟩]) (t := 148) ?hr ?_; (case hd => rfl); (case hg => rfl); (case hr => first | (go_simp; done) | (go_simp; rfl)); intro gb hg w3 hbox hb; have HB3 := qa_.mk (qdi_ HB.out hb); have BK := qa_.mk hbox; have GE := qa_.mk (show w.heap.size ≤ gb by rw [hg]; exact Nat.le_refl _); clear hb hbox hg; have hcz0 : w3.cell? ⟨gb, 0, none⟩ = some (.int .i64 0) := (qc_ BK.out 0).trans rfl; have hfz0 := qp_ BK.out 0; have hcz1 : w3.cell? ⟨gb, 1, none⟩ = some (.string ⟨#[]⟩) := (qc_ BK.out 1).trans rfl; have hfz1 := qp_ BK.out 1; have hcz2 : w3.cell? ⟨gb, 2, none⟩ = some (.int .i64 0) := (qc_ BK.out 2).trans rfl; have hfz2 := qp_ BK.out 2; have hcz3 : w3.cell? ⟨gb, 3, none⟩ = some (.string ⟨#[]⟩) := (qc_ BK.out 3).trans rfl; have hfz3 := qp_ BK.out 3; have hcz4 : w3.cell? ⟨gb, 4, none⟩ = some (.int .i64 0) := (qc_ BK.out 4).trans rfl; have hfz4 := qp_ BK.out 4; have hcz5 : w3.cell? ⟨gb, 5, none⟩ = some (.string ⟨#[]⟩) := (qc_ BK.out 5).trans rfl; have hfz5 := qp_ BK.out 5; have hcz6 : w3.cell? ⟨gb, 6, none⟩ = some (.int .i64 0) := (qc_ BK.out 6).trans rfl; have hfz6 := qp_ BK.out 6; have hcz7 : w3.cell? ⟨gb, 7, none⟩ = some (.string ⟨#[]⟩) := (qc_ BK.out 7).trans rfl; have hfz7 := qp_ BK.out 7)
  clear hcz0 hcz1 hcz2 hcz3 hcz4 hcz5 hcz6 hcz7 hfz0 hfz1 hfz2 hfz3 hfz4 hfz5 hfz6 hfz7
  have hh := (qft_ (cs := #[.int .i64 1, .string ⟨#[98, 108, 111, 98]⟩, .int .i64 2, .string ⟨#[116, 114, 101, 101]⟩, .int .i64 3, .string ⟨#[99, 111, 109, 109, 105, 116]⟩, .int .i64 4, .string ⟨#[]⟩]) (cs' := #[.int .i64 1, .string ⟨#[98, 108, 111, 98]⟩, .int .i64 2, .string ⟨#[116, 114, 101, 101]⟩, .int .i64 3, .string ⟨#[99, 111, 109, 109, 105, 116]⟩, .int .i64 4, .string ⟨#[116, 97, 103]⟩]) (qft_ (cs := #[.int .i64 1, .string ⟨#[98, 108, 111, 98]⟩, .int .i64 2, .string ⟨#[116, 114, 101, 101]⟩, .int .i64 3, .string ⟨#[99, 111, 109, 109, 105, 116]⟩, .int .i64 0, .string ⟨#[]⟩]) (cs' := #[.int .i64 1, .string ⟨#[98, 108, 111, 98]⟩, .int .i64 2, .string ⟨#[116, 114, 101, 101]⟩, .int .i64 3, .string ⟨#[99, 111, 109, 109, 105, 116]⟩, .int .i64 4, .string ⟨#[]⟩]) (qft_ (cs := #[.int .i64 1, .string ⟨#[98, 108, 111, 98]⟩, .int .i64 2, .string ⟨#[116, 114, 101, 101]⟩, .int .i64 3, .string ⟨#[]⟩, .int .i64 0, .string ⟨#[]⟩]) (cs' := #[.int .i64 1, .string ⟨#[98, 108, 111, 98]⟩, .int .i64 2, .string ⟨#[116, 114, 101, 101]⟩, .int .i64 3, .string ⟨#[99, 111, 109, 109, 105, 116]⟩, .int .i64 0, .string ⟨#[]⟩]) (qft_ (cs := #[.int .i64 1, .string ⟨#[98, 108, 111, 98]⟩, .int .i64 2, .string ⟨#[116, 114, 101, 101]⟩, .int .i64 0, .string ⟨#[]⟩, .int .i64 0, .string ⟨#[]⟩]) (cs' := #[.int .i64 1, .string ⟨#[98, 108, 111, 98]⟩, .int .i64 2, .string ⟨#[116, 114, 101, 101]⟩, .int .i64 3, .string ⟨#[]⟩, .int .i64 0, .string ⟨#[]⟩]) (qft_ (cs := #[.int .i64 1, .string ⟨#[98, 108, 111, 98]⟩, .int .i64 2, .string ⟨#[]⟩, .int .i64 0, .string ⟨#[]⟩, .int .i64 0, .string ⟨#[]⟩]) (cs' := #[.int .i64 1, .string ⟨#[98, 108, 111, 98]⟩, .int .i64 2, .string ⟨#[116, 114, 101, 101]⟩, .int .i64 0, .string ⟨#[]⟩, .int .i64 0, .string ⟨#[]⟩]) (qft_ (cs := #[.int .i64 1, .string ⟨#[98, 108, 111, 98]⟩, .int .i64 0, .string ⟨#[]⟩, .int .i64 0, .string ⟨#[]⟩, .int .i64 0, .string ⟨#[]⟩]) (cs' := #[.int .i64 1, .string ⟨#[98, 108, 111, 98]⟩, .int .i64 2, .string ⟨#[]⟩, .int .i64 0, .string ⟨#[]⟩, .int .i64 0, .string ⟨#[]⟩]) (qft_ (cs := #[.int .i64 1, .string ⟨#[]⟩, .int .i64 0, .string ⟨#[]⟩, .int .i64 0, .string ⟨#[]⟩, .int .i64 0, .string ⟨#[]⟩]) (cs' := #[.int .i64 1, .string ⟨#[98, 108, 111, 98]⟩, .int .i64 0, .string ⟨#[]⟩, .int .i64 0, .string ⟨#[]⟩, .int .i64 0, .string ⟨#[]⟩]) (qft_ (cs := #[.int .i64 0, .string ⟨#[]⟩, .int .i64 0, .string ⟨#[]⟩, .int .i64 0, .string ⟨#[]⟩, .int .i64 0, .string ⟨#[]⟩]) (cs' := #[.int .i64 1, .string ⟨#[]⟩, .int .i64 0, .string ⟨#[]⟩, .int .i64 0, .string ⟨#[]⟩, .int .i64 0, .string ⟨#[]⟩]) BK.out 0 (.int .i64 1) rfl) 1 (.string ⟨#[98, 108, 111, 98]⟩) rfl) 2 (.int .i64 2) rfl) 3 (.string ⟨#[116, 114, 101, 101]⟩) rfl) 4 (.int .i64 3) rfl) 5 (.string ⟨#[99, 111, 109, 109, 105, 116]⟩) rfl) 6 (.int .i64 4) rfl) 7 (.string ⟨#[116, 97, 103]⟩) rfl)
  refine bodyPost_ret (results_cell_row rfl _ _ gb 148 #[.int .i64 1, .string ⟨#[98, 108, 111, 98]⟩, .int .i64 2, .string ⟨#[116, 114, 101, 101]⟩, .int .i64 3, .string ⟨#[99, 111, 109, 109, 105, 116]⟩, .int .i64 4, .string ⟨#[116, 97, 103]⟩] (0, 0) _ rfl hh huk rfl kinds_size) rfl ?_
  exact ⟨rfl, (qz_ (qz_ (qz_ (qz_ (qz_ (qz_ (qz_ (qz_ HB3.out GE.out) GE.out) GE.out) GE.out) GE.out) GE.out) GE.out) GE.out)⟩
def kindW : Nat → ByteArray
  | 0 => ⟨#[98, 108, 111, 98]⟩
  | 1 => ⟨#[116, 114, 101, 101]⟩
  | 2 => ⟨#[99, 111, 109, 109, 105, 116]⟩
  | _ => ⟨#[116, 97, 103]⟩
def wordF (n : Int) : Nat → Nat → ByteArray
  | 0, _ => ⟨#[]⟩
  | d + 1, i => if ((i : Int) + 1) = n then kindW i else wordF n d (i + 1)
def kindF (s : ByteArray) : Nat → Nat → Int
  | 0, _ => 0
  | d + 1, i => if (kindW i).toList = s.toList then (i : Int) + 1 else kindF s d (i + 1)
def qdn_.f (a0 : Int) : Option ByteArray := some (wordF a0 4 0)
def qfn_.f (a0 : ByteArray) : Option Int := some (kindF a0 4 0)
def kindsV : Value := .agg #[.int .i64 1, .string ⟨#[98, 108, 111, 98]⟩, .int .i64 2, .string ⟨#[116, 114, 101, 101]⟩, .int .i64 3, .string ⟨#[99, 111, 109, 109, 105, 116]⟩, .int .i64 4, .string ⟨#[116, 97, 103]⟩]
theorem kinds_index (x : Int) (h0 : 0 ≤ x) (h5 : x < 4) (W : World) : (Instr.index 148 kindsV (.int .i64 x)).run Tryz.prog W = .ok (.agg #[.int .i64 (x + 1), .string (kindW x.toNat)]) W := by
  have hu := underlying148
  have hz := Tryz.sizeOf147
  have ha := Tryz.isAgg147
  have : x = 0 ∨ x = 1 ∨ x = 2 ∨ x = 3 := by omega
  rcases this with rfl | rfl | rfl | rfl <;> simp [Instr.index, kindsV, kindW, asIntOf, run_underlying hu, hz, Go.part, ha] <;> rfl
theorem qdn_.calls (a0 : Int) (r : ByteArray) (w : World) (h : qdn_.f a0 = some r) :
    Calls Tryz.prog 79 #[.int .i64 a0] w fun e w' => e = .returned (.string r) ∧ Below w.heap.size w w' := by
  have H' := qa_.mk (show wordF a0 4 0 = r from Option.some.inj h)
  have hu47 := underlying147
  clear h
  go_enter func79, ntmps79
  go_wp2_with (go_at_call 143; (with_reducible refine (kinds_calls _).mono ?_); rintro e w1 ⟨rfl, hb⟩; have HB := qa_.mk hb; clear hb)
  go_loopg [6] 4 (fun g v6 wr => ∃ (i : Nat) (x : Int), v6 = .int .i64 x ∧ qa_ (x = (i : Int) ∧ i + g = 4) ∧ qa_ (Below w.heap.size w wr) ∧ qa_ (wordF a0 g i = r))
  case atStart => exact ⟨0, 0, rfl, ⟨rfl, rfl⟩, HB, H'⟩
  case round =>
    clear H' HB
    obtain ⟨i, x, rfl, HX, HB, H⟩ := hrel
    cases gk with
    | zero =>
      have h5 : decide (x < 4) = false := by have := HX.out; exact decide_eq_false (by omega)
      have H0 := H.out
      rw [wordF] at H0
      subst H0
      clear H
      go_wp2
      go_ret
      exact ⟨rfl, HB.out⟩
    | succ g =>
      have H0 := H.out
      rw [wordF] at H0
      have h5 : decide (x < 4) = true := by have := HX.out; exact decide_eq_true (by omega)
      have hw1 : IntKind.i64.wrap (x + 1) = x + 1 := by have := HX.out; rw [IntKind.wrap_i64]; omega
      have hx0 := kinds_index x (by have := HX.out; omega) (by have := HX.out; omega)
      unfold kindsV at hx0
      obtain ⟨q, hq⟩ : ∃ q, q = kindW x.toNat := ⟨_, rfl⟩
      have HQ := qa_.mk hq
      rw [← hq] at hx0
      clear hq H
      by_cases hz : x + 1 = a0
      · have hz1 : (x + 1 == a0) = true := by simpa using hz
        rw [if_pos (by have := HX.out; omega)] at H0
        have e : q = r := by rw [HQ.out, ← H0, show x.toNat = i by have := HX.out; omega]
        subst e
        clear hz H0
        go_wp2_with ((with_reducible refine qh_ (N := 4) rfl ?_); refine qfw_ ?hg (N := 4) ?hd (cs := #[.int .i64 0, .string ⟨#[]⟩]) (t := 147) ?hr ?_; (case hd => rfl); (case hg => rfl); (case hr => first | (go_simp; done) | (go_simp; rfl)); intro gb hg w6 hbox hb2; have HB6 := qa_.mk (qdi_ HB.out hb2); have E6 := qa_.mk (show w.heap.size ≤ gb by rw [hg]; exact HB.out.size); have K6 := qa_.mk hbox; clear hb2 hbox hg; have hcz0 : w6.cell? ⟨gb, 0, none⟩ = some (.int .i64 0) := (qc_ K6.out 0).trans rfl; have hcz1 : w6.cell? ⟨gb, 1, none⟩ = some (.string (⟨#[]⟩ : ByteArray)) := (qc_ K6.out 1).trans rfl; have hfz0 := qp_ K6.out 0; have hfz1 := qp_ K6.out 1)
        go_ret
        exact ⟨rfl, qz_ (qz_ HB6.out E6.out) E6.out⟩
      · have hz1 : (x + 1 == a0) = false := by simpa using hz
        rw [if_neg (by have := HX.out; omega)] at H0
        have HN := qa_.mk H0
        clear hz H0
        go_wp2_with ((with_reducible refine qh_ (N := 4) rfl ?_); refine qfw_ ?hg (N := 4) ?hd (cs := #[.int .i64 0, .string ⟨#[]⟩]) (t := 147) ?hr ?_; (case hd => rfl); (case hg => rfl); (case hr => first | (go_simp; done) | (go_simp; rfl)); intro gb hg w6 hbox hb2; have HB6 := qa_.mk (qdi_ HB.out hb2); have E6 := qa_.mk (show w.heap.size ≤ gb by rw [hg]; exact HB.out.size); have K6 := qa_.mk hbox; clear hb2 hbox hg; have hcz0 : w6.cell? ⟨gb, 0, none⟩ = some (.int .i64 0) := (qc_ K6.out 0).trans rfl; have hcz1 : w6.cell? ⟨gb, 1, none⟩ = some (.string (⟨#[]⟩ : ByteArray)) := (qc_ K6.out 1).trans rfl; have hfz0 := qp_ K6.out 0; have hfz1 := qp_ K6.out 1)
        go_roundg g
        case measure => omega
        case rel => exact ⟨i + 1, x + 1, rfl, ⟨by have := HX.out; omega, by have := HX.out; omega⟩, ⟨qz_ (qz_ HB6.out E6.out) E6.out⟩, HN⟩
theorem qfn_.calls (a0 : ByteArray) (r : Int) (w : World) (h : qfn_.f a0 = some r) :
    Calls Tryz.prog 77 #[.string a0] w fun e w' => e = .returned (.int .i64 r) ∧ Below w.heap.size w w' := by
  have H' := qa_.mk (show kindF a0 4 0 = r from Option.some.inj h)
  have hu47 := underlying147
  clear h
  go_enter func77, ntmps77
  go_wp2_with (go_at_call 143; (with_reducible refine (kinds_calls _).mono ?_); rintro e w1 ⟨rfl, hb⟩; have HB := qa_.mk hb; clear hb)
  go_loopg [6] 4 (fun g v6 wr => ∃ (i : Nat) (x : Int), v6 = .int .i64 x ∧ qa_ (x = (i : Int) ∧ i + g = 4) ∧ qa_ (Below w.heap.size w wr) ∧ qa_ (kindF a0 g i = r))
  case atStart => exact ⟨0, 0, rfl, ⟨rfl, rfl⟩, HB, H'⟩
  case round =>
    clear H' HB
    obtain ⟨i, x, rfl, HX, HB, H⟩ := hrel
    cases gk with
    | zero =>
      have h5 : decide (x < 4) = false := by have := HX.out; exact decide_eq_false (by omega)
      have H0 := H.out
      rw [kindF] at H0
      subst H0
      clear H
      go_wp2
      go_ret
      exact ⟨rfl, HB.out⟩
    | succ g =>
      have H0 := H.out
      rw [kindF] at H0
      have h5 : decide (x < 4) = true := by have := HX.out; exact decide_eq_true (by omega)
      have hw1 : IntKind.i64.wrap (x + 1) = x + 1 := by have := HX.out; rw [IntKind.wrap_i64]; omega
      have hx0 := kinds_index x (by have := HX.out; omega) (by have := HX.out; omega)
      unfold kindsV at hx0
      obtain ⟨q, hq⟩ : ∃ q, q = kindW i := ⟨_, rfl⟩
      have HQ := qa_.mk hq
      rw [show x.toNat = i by have := HX.out; omega, ← hq] at hx0
      rw [← hq] at H0
      clear hq H
      by_cases hz : q.toList = a0.toList
      · have hz1 : (q.toList == a0.toList) = true := by simpa using hz
        rw [if_pos hz] at H0
        have e : x + 1 = r := by have := HX.out; omega
        subst e
        clear hz H0
        go_wp2_with ((with_reducible refine qh_ (N := 4) rfl ?_); refine qfw_ ?hg (N := 4) ?hd (cs := #[.int .i64 0, .string ⟨#[]⟩]) (t := 147) ?hr ?_; (case hd => rfl); (case hg => rfl); (case hr => first | (go_simp; done) | (go_simp; rfl)); intro gb hg w6 hbox hb2; have HB6 := qa_.mk (qdi_ HB.out hb2); have E6 := qa_.mk (show w.heap.size ≤ gb by rw [hg]; exact HB.out.size); have K6 := qa_.mk hbox; clear hb2 hbox hg; have hcz0 : w6.cell? ⟨gb, 0, none⟩ = some (.int .i64 0) := (qc_ K6.out 0).trans rfl; have hcz1 : w6.cell? ⟨gb, 1, none⟩ = some (.string (⟨#[]⟩ : ByteArray)) := (qc_ K6.out 1).trans rfl; have hfz0 := qp_ K6.out 0; have hfz1 := qp_ K6.out 1)
        go_ret
        exact ⟨rfl, qz_ (qz_ HB6.out E6.out) E6.out⟩
      · have hz1 : (q.toList == a0.toList) = false := by simpa using hz
        rw [if_neg hz] at H0
        have HN := qa_.mk H0
        clear hz H0
        go_wp2_with ((with_reducible refine qh_ (N := 4) rfl ?_); refine qfw_ ?hg (N := 4) ?hd (cs := #[.int .i64 0, .string ⟨#[]⟩]) (t := 147) ?hr ?_; (case hd => rfl); (case hg => rfl); (case hr => first | (go_simp; done) | (go_simp; rfl)); intro gb hg w6 hbox hb2; have HB6 := qa_.mk (qdi_ HB.out hb2); have E6 := qa_.mk (show w.heap.size ≤ gb by rw [hg]; exact HB.out.size); have K6 := qa_.mk hbox; clear hb2 hbox hg; have hcz0 : w6.cell? ⟨gb, 0, none⟩ = some (.int .i64 0) := (qc_ K6.out 0).trans rfl; have hcz1 : w6.cell? ⟨gb, 1, none⟩ = some (.string (⟨#[]⟩ : ByteArray)) := (qc_ K6.out 1).trans rfl; have hfz0 := qp_ K6.out 0; have hfz1 := qp_ K6.out 1)
        go_roundg g
        case measure => omega
        case rel => exact ⟨i + 1, x + 1, rfl, ⟨by have := HX.out; omega, by have := HX.out; omega⟩, ⟨qz_ (qz_ HB6.out E6.out) E6.out⟩, HN⟩
def qcv_.f (a0_0 : Int) (a0_1 : ByteArray) : Option (ByteArray × Int) := (qdn_.f a0_0).bind fun t135 => (if t135.toList = ([] : List UInt8) then (some ((⟨#[]⟩ : ByteArray), 140)) else (if (a0_1.size : Int) > 1048576 then (some ((⟨#[]⟩ : ByteArray), 4)) else (if t135.size + 1 ≤ 9223372036854775807 then ((qda_.f (a0_1.size : Int)).bind fun t136 => (if (t135 ++ (⟨#[32]⟩ : ByteArray)).size + t136.size ≤ 9223372036854775807 then (if ((t135 ++ (⟨#[32]⟩ : ByteArray)) ++ t136).size + 1 ≤ 9223372036854775807 then (if (((t135 ++ (⟨#[32]⟩ : ByteArray)) ++ t136) ++ (⟨#[0]⟩ : ByteArray)).size + a0_1.size ≤ 9223372036854775807 then (some ((((t135 ++ (⟨#[32]⟩ : ByteArray)) ++ t136) ++ (⟨#[0]⟩ : ByteArray)) ++ a0_1, 0)) else (none)) else (none)) else (none))) else (none))))
def qcv_.T6 : Bool × List (List Nat × List Nat) := (true, [([], []), ([0], [0]), ([], []), ([2], [2]), ([3], [3]), ([4], [4]), ([1, 5], [1, 5]), ([6], [6]), ([], []), ([8], [8]), ([7, 9], [7, 9]), ([10, 5, 0, 1, 2, 3, 4, 5, 6, 7, 8, 9, 10], [10]), ([11, 0, 1, 2, 3, 4, 5, 6, 7, 8, 9, 10, 11], [])])
def qcv_.B6 : List Nat := [0, 1, 0, 4, 12, 28, 63, 127, 0, 256, 1023, 2047, 4095]
theorem qcv_.tab6 : rtab .any (opsOf Tryz.f97 6) = qcv_.T6 := by kernel_rfl
theorem qcv_.bits6 : qdu_ qcv_.T6.2 qcv_.B6 = true := by kernel_rfl
theorem qcv_.calls (a0_0 : Int) (a0_1 : ByteArray) (r1 : ByteArray) (r2 : Int) (w : World) (hgv : GV w) (h : qcv_.f a0_0 a0_1 = some (r1, r2)) :
  Calls Tryz.prog 97 #[.agg #[.int .i64 a0_0, .string a0_1]] w fun e w' => e = .returned (.tuple #[.string r1, .int .i64 r2]) ∧ Below w.heap.size w w' := by
 have hu50 := underlying50; have HB := qa_.mk (Below.refl w.heap.size w); unfold qcv_.f at h; have H := h; clear h; obtain ⟨t135, A2, H⟩ := bx_ H; by_cases c3 : t135.toList = ([] : List UInt8)
 ·rw [if_pos c3] at H; have c3b0 := et_ c3; have c3b1 := nf_ c3; clear c3; obtain ⟨rfl, rfl⟩ := pj2_ H; go_enter func97, ntmps97; go_wp2_with (first | ((with_reducible refine qh_ (N := 1) rfl ?_); refine be_ (cs := #[.int .i64 a0_0, .string a0_1]) (t := 50) ?_; intro g134 hg w4 hbox hb; have K134 := qa_.mk (hbox); have W134 := ag_ hg HB; have E134 := ag_ hg HB; replace HB := ah_ HB hb; clear hb hbox hg; obtain ⟨Z5_0, Z5_1, F5⟩ := bc2 K134.out) | ((with_reducible refine qb_ (f := 79) rfl ?_); refine gl_ (some 7) func79 #[.int .i64 a0_0] ?_; refine cm_ (qdn_.calls a0_0 t135 _ A2.out) fun w6 hb => ?_; replace K134 := ab_ K134 hb; replace HB := hr_ hb; (try clear hb); (try clear hb2); (try clear hk); (try clear hi)))
  go_ret2
  exact ⟨z3_, hs_⟩
 rw [if_neg c3] at H; have c3b0 := ef_ c3; have c3b1 := nt_ c3; by_cases c7 : (a0_1.size : Int) > 1048576
 ·rw [if_pos c7] at H; have c7b0 := dt_ c7; have c7b1 : decide (1048576 < a0_1.size) = true := decide_eq_true (by omega); clear c7; obtain ⟨rfl, rfl⟩ := pj2_ H; go_enter func97, ntmps97; go_wp2_with (first | ((with_reducible refine qh_ (N := 1) rfl ?_); refine be_ (cs := #[.int .i64 a0_0, .string a0_1]) (t := 50) ?_; intro g134 hg w8 hbox hb; have K134 := qa_.mk (hbox); have W134 := ag_ hg HB; have E134 := ag_ hg HB; replace HB := ah_ HB hb; clear hb hbox hg; obtain ⟨Z9_0, Z9_1, F9⟩ := bc2 K134.out) | ((with_reducible refine qb_ (f := 79) rfl ?_); refine gl_ (some 7) func79 #[.int .i64 a0_0] ?_; refine cm_ (qdn_.calls a0_0 t135 _ A2.out) fun w10 hb => ?_; replace K134 := ab_ K134 hb; replace HB := hr_ hb; (try clear hb); (try clear hb2); (try clear hk); (try clear hi); obtain ⟨Z11_0, Z11_1, F11⟩ := bc2 K134.out)); go_ret2
  exact ⟨z3_, hs_⟩
 rw [if_neg c7] at H; have c7b0 := df_ c7; have c7b1 : decide (1048576 < a0_1.size) = false := decide_eq_false (by omega); clear c7; by_cases c12 : t135.size + 1 ≤ 9223372036854775807; rotate_left
 ·rw [if_neg c12] at H; exact no_ H
 rw [if_pos c12] at H; have c12b0 := eq_true c12; have c12b1 := dt_ c12; try have c12b2 := nl_ c12
 obtain ⟨t136, A13, H⟩ := bx_ H; by_cases c14 : (t135 ++ (⟨#[32]⟩ : ByteArray)).size + t136.size ≤ 9223372036854775807; rotate_left
 ·rw [if_neg c14] at H; exact no_ H
 rw [if_pos c14] at H; have c14b0 := eq_true c14; have c14b1 := dt_ c14; try have c14b3 : (9223372036854775807 < t135.size + 1 + t136.size) = False := have h_ := c14; ns_
 try have c14b2 := nl_ c14
 by_cases c15 : ((t135 ++ (⟨#[32]⟩ : ByteArray)) ++ t136).size + 1 ≤ 9223372036854775807; rotate_left
 ·rw [if_neg c15] at H; exact no_ H
 rw [if_pos c15] at H; have c15b0 := eq_true c15; have c15b1 := dt_ c15; try have c15b3 : (9223372036854775807 < t135.size + 1 + t136.size + 1) = False := have h_ := c15; ns_
 try have c15b2 := nl_ c15
 by_cases c16 : (((t135 ++ (⟨#[32]⟩ : ByteArray)) ++ t136) ++ (⟨#[0]⟩ : ByteArray)).size + a0_1.size ≤ 9223372036854775807; rotate_left
 ·rw [if_neg c16] at H; exact no_ H
 rw [if_pos c16] at H; have c16b0 := eq_true c16; have c16b1 := dt_ c16; try have c16b3 : (9223372036854775807 < t135.size + 1 + t136.size + 1 + a0_1.size) = False := have h_ := c16; ns_
 try have c16b2 := nl_ c16
 obtain ⟨rfl, rfl⟩ := pj2_ H; go_enter func97, ntmps97; try go_wp2_with (first | ((with_reducible refine qh_ (N := 1) rfl ?_); refine be_ (cs := #[.int .i64 a0_0, .string a0_1]) (t := 50) ?_; intro g134 hg w17 hbox hb; have K134 := qa_.mk (hbox); have W134 := ag_ hg HB; have E134 := ag_ hg HB; replace HB := ah_ HB hb; clear hb hbox hg; obtain ⟨Z18_0, Z18_1, F18⟩ := bc2 K134.out) | ((with_reducible refine qb_ (f := 79) rfl ?_); refine gl_ (some 7) func79 #[.int .i64 a0_0] ?_; refine cm_ (qdn_.calls a0_0 t135 _ A2.out) fun w19 hb => ?_; replace K134 := ab_ K134 hb; replace HB := hr_ hb; (try clear hb); (try clear hb2); (try clear hk); (try clear hi); obtain ⟨Z20_0, Z20_1, F20⟩ := bc2 K134.out)); replace K134 := ad_ K134; replace HB := hd_ HB; refine qdm_ (n := 13) (S := fun w' => w'.cell? ⟨g134, 0, none⟩ = some (.int .i64 a0_0) ∧ w'.cell? ⟨g134, 1, none⟩ = some (.string a0_1)) (ds := []) (bs 13 0) (by kernel_rfl) rfl rfl (bc2o K134.out) (fun qn_ => ?_); refine qdg_ qcv_.tab6 qcv_.bits6 (fun HT_ HW_ => ?_); generalize w19.drew = w21 at K134 HB qn_ ⊢; refine pun_ 0 16 13 1 ?_; refine pun_ 1 17 13 3 ?_; refine pun_ 2 18 13 7 ?_; refine pun_ 8 24 13 263 ?_; refine qfs_ 3 19 13 271 qn_ ?_; refine pun_ 4 20 13 287 ?_; refine qfs_ 9 25 13 799 qn_ ?_; refine on_ 5 21 13 831 (fun K hK => ?_); refine goes_ func91 (by kernel_rfl) rfl #[.int .i64 (a0_1.size : Int)] (by rfl) rfl rfl z5_ ?_
 with_reducible refine (qda_.calls (a0_1.size : Int) t136 _ ?side1 A13.out).mono ?_
 (case side1 => exact GV.below hgv (hs_))
 rintro e w22 ⟨rfl, hb⟩; refine ⟨_, rfl, ?_⟩; replace K134 := ab_ K134 hb; replace HB := hr_ hb; (try clear hb)
 (try clear hb2)
 (try clear hk)
 (try clear hi)
 refine hK.out _ _ (bc2o K134.out) (fun qn_ => ?_); clear hK K; refine nrm_ 21 ?_
 refine pun_ 6 22 13 895 ?_; refine pun_ 7 23 13 1023 ?_; refine pun_ 10 26 13 2047 ?_; refine pun_ 11 2 13 4095 ?_; refine pun_ 12 3 13 8191 ?_; refine dn_ ?_; try go_wp2
 go_ret2
 exact ⟨z3_, hs_⟩
def qbj_.l0 : Nat → ByteArray → List Int → Int → Int → Option (ByteArray)
 | 0, _, _, _, _ => none
 | k + 1, x0, x3, x10, x11 => if x11 < x10 then (if 0 ≤ x11 then (if x11 < (x0.size : Int) then (if 0 ≤ ((bt x0 x11) / 16) then (if ((bt x0 x11) / 16) < 16 then (if 0 ≤ (Go.bits .and .u8 (bt x0 x11) 15) then (if (Go.bits .and .u8 (bt x0 x11) 15) < 16 then ((some (([bt ⟨#[48, 49, 50, 51, 52, 53, 54, 55, 56, 57, 97, 98, 99, 100, 101, 102]⟩ ((bt x0 x11) / 16), bt ⟨#[48, 49, 50, 51, 52, 53, 54, 55, 56, 57, 97, 98, 99, 100, 101, 102]⟩ (Go.bits .and .u8 (bt x0 x11) 15)] : List Int) : List Int)).bind fun y184 => (if x3.length + y184.length < 140737488355328 then (qbj_.l0 k x0 (x3 ++ y184) x10 (wrap64 (x11 + 1))) else (none))) else (none)) else (none)) else (none)) else (none)) else (none)) else (none)) else (some (strOfNums x3))
def qbj_.f (k : Nat) (a0 : ByteArray) : Option (ByteArray) := if 0 ≤ (wrap64 (2 * (a0.size : Int))) then (if (wrap64 (2 * (a0.size : Int)) : Int).toNat ≤ 281474976710656 then (qbj_.l0 k a0 (([] : List Int)) (a0.size : Int) 0) else (none)) else (none)
theorem qbj_.mono_l : ∀ k, (∀ y0 y1 y2 y3, LeO (qbj_.l0 k y0 y1 y2 y3) (qbj_.l0 (k + 1) y0 y1 y2 y3))
 | 0 => fun _ _ _ _ r h => by simp [qbj_.l0] at h
 | k + 1 => by
  have ih0 := qbj_.mono_l k
  ·intro y0 y1 y2 y3
   unfold qbj_.l0
   have m0_ := @ih0
   exact mz_
theorem qbj_.mono : ∀ a0 k, LeO (qbj_.f k a0) (qbj_.f (k + 1) a0) := by
 intro a0 k; have ih0 := qbj_.mono_l k; unfold qbj_.f; have m0_ := @ih0; exact mz_
def qbj_.T5 : Bool × List (List Nat × List Nat) := (true, [([], []), ([], []), ([], []), ([1, 2], [1, 2]), ([3], [3]), ([4], [4]), ([], []), ([], []), ([6, 7], [6, 7]), ([8], [8]), ([9], [9]), ([5, 10], [5, 10]), ([0, 11], [0, 11]), ([12, 12, 0, 1, 2, 3, 4, 5, 6, 7, 8, 9, 10, 11, 12], [0, 12])])
def qbj_.B5 : List Nat := [0, 0, 0, 6, 14, 30, 0, 0, 192, 448, 960, 2046, 4095, 8191]
theorem qbj_.tab5 : rtab .any (opsOf Tryz.f149 5) = qbj_.T5 := by kernel_rfl
theorem qbj_.bits5 : qdu_ qbj_.T5.2 qbj_.B5 = true := by kernel_rfl
theorem qbj_.calls (k : Nat) (a0 : ByteArray) (r : ByteArray) (w : World) (h : qbj_.f k a0 = some r) :
  Calls Tryz.prog 149 #[.string a0] w fun e w' => e = .returned (.string r) ∧ Below w.heap.size w w' := by
 have HB := qa_.mk (Below.refl w.heap.size w); unfold qbj_.f at h; have H := h; clear h; obtain ⟨ji2, hji2⟩ : ∃ j_ : Int, (wrap64 (2 * (a0.size : Int))) = j_ := ⟨_, rfl⟩; replace H : (if 0 ≤ (ji2) then (if (ji2 : Int).toNat ≤ 281474976710656 then (qbj_.l0 k a0 (([] : List Int)) (a0.size : Int) 0) else (none)) else (none)) = some r := by first | (rw [hji2] at H; exact H) | (simp only [hji2] at H ⊢; exact H)
 have hji2w : (IntKind.i64.wrap (2 * (a0.size : Int))) = ji2 := (i64_w _).trans hji2; by_cases c3 : 0 ≤ (ji2); rotate_left
 ·rw [if_neg c3] at H; exact no_ H
 rw [if_pos c3] at H; have c3b0 := eq_true c3; have c3b1 := dt_ c3; clear c3; by_cases c4 : (ji2 : Int).toNat ≤ 281474976710656; rotate_left
 ·rw [if_neg c4] at H; exact no_ H
 rw [if_pos c4] at H; have c4b0 := eq_true c4; have c4b1 := dt_ c4; clear c4; obtain ⟨y181, hy181⟩ : ∃ y_ : List Int, y_ = (([] : List Int)) := ⟨_, rfl⟩; replace H : (qbj_.l0 k a0 y181 (a0.size : Int) 0) = some r := by first | (rw [hy181]; with_reducible exact H) | (have H2_ := (Option.bind_some _ _).symm.trans H; rw [hy181]; with_reducible exact H2_) | (have H2_ := (Option.bind_some _ _).symm.trans H; with_reducible exact H2_) | with_reducible exact H | (rw [hy181]; exact H) | exact H
 have Ny181 := qa_.mk hy181; clear hy181; have H' := qa_.mk H; clear H; go_enter func149, ntmps149; go_wp2_with (first | ((with_reducible refine qh_ (N := 8) rfl ?_); refine R_makecap (Kd.int .u8) _ 5 rfl (N := 8) rfl 103 _ _ rfl ji2 rfl rfl underlying103 (.int .u8 0) 1 info5 rfl (by decide) (ok := fun _ => True) trivial (y0_) (Nat.le_trans (Nat.mul_le_mul_right _ (y0_ : ji2.toNat ≤ 281474976710656)) (by omega)) (Below.refl _ _) (Nat.le_refl _) ?_; intro v182 w5 ho6 hb hg_ hnew_; clear hg_ hnew_; (first | rw [← Ny181.out] at ho6 | (simp only [Int.reduceToNat] at ho6; rw [← Ny181.out] at ho6)); have HO183 := qa_.mk (Kd.R_lower ho6 (qj_ (hb_ HB.out))); replace HB := ah_ HB hb; clear hb ho6)); go_loopg [3, 11] k (fun kq v3 v11 w' => ∃ (x3_1 : List Int) (x11_1 : Int), v11 = .int .i64 x11_1 ∧ qa_ (qbj_.l0 kq a0 x3_1 (a0.size : Int) x11_1 = some r) ∧ qa_ (kq ≤ k) ∧ qa_ (Kd.R (Kd.int .u8) 5 w' w.heap.size (fun _ => True) v3 x3_1) ∧ qa_ (Below w.heap.size w w'))
 case atStart => exact ⟨(y181), (0), z1_, H', ⟨Nat.le_refl _⟩, ⟨by (with_reducible repeat (first | apply Kd.R_alloc | apply Kd.R_drewN | apply Kd.R_drew)); exact HO183.out⟩, ⟨hb_ HB.out⟩⟩
 case round =>
  clear H'; try clear c1
  try clear p2
  try clear c3
  try clear c3b0
  try clear c3b1
  try clear c4
  try clear c4b0
  try clear c4b1
  try clear p6
  obtain ⟨x3_1, x11_1, rfl, HA, HK1, HO_3, HB⟩ := hrel
  cases gk with
  | zero => exact absurd HA.out (by simp [qbj_.l0])
  | succ k1 =>
   have H := HA.out; clear HA; simp only [qbj_.l0] at H; by_cases c7 : x11_1 < (a0.size : Int); rotate_left
   ·rw [if_neg c7] at H; have c7b0 := df_ c7; clear c7; obtain rfl := oi_ H; have hcv25 := qgv_ (P := Tryz.prog) underlying103 underlying5 underlying9 (Kd.own_of_R HO_3.out); go_wp2
    go_ret
    exact ⟨by first | rfl | (simp [qbo_, qbp_] <;> rfl) | (simp only [← hji2]; first | rfl | (simp [qbo_, qbp_] <;> rfl)) | (simp [*, qbo_, qbp_] <;> rfl) | (simp [qby_]; done) | (simp [*, qby_]; done), hb_ HB.out⟩
   rw [if_pos c7] at H; have c7b0 := dt_ c7; clear c7; by_cases c8 : 0 ≤ x11_1; rotate_left
   ·rw [if_neg c8] at H; exact no_ H
   rw [if_pos c8] at H; have c8b0 := dt_ c8; clear c8; by_cases c9 : x11_1 < (a0.size : Int); rotate_left
   ·rw [if_neg c9] at H; exact no_ H
   rw [if_pos c9] at H; have c9b0 := dt_ c9; clear c9; obtain ⟨ji11, hji11⟩ : ∃ j_ : Int, ((bt a0 x11_1) / 16) = j_ := ⟨_, rfl⟩; replace H : (if 0 ≤ (ji11) then (if (ji11) < 16 then (if 0 ≤ (Go.bits .and .u8 (bt a0 x11_1) 15) then (if (Go.bits .and .u8 (bt a0 x11_1) 15) < 16 then ((some (([bt ⟨#[48, 49, 50, 51, 52, 53, 54, 55, 56, 57, 97, 98, 99, 100, 101, 102]⟩ (ji11), bt ⟨#[48, 49, 50, 51, 52, 53, 54, 55, 56, 57, 97, 98, 99, 100, 101, 102]⟩ (Go.bits .and .u8 (bt a0 x11_1) 15)] : List Int) : List Int)).bind fun y184 => (if x3_1.length + y184.length < 140737488355328 then (qbj_.l0 k1 a0 (x3_1 ++ y184) (a0.size : Int) (wrap64 (x11_1 + 1))) else (none))) else (none)) else (none)) else (none)) else (none)) = some r := by first | (rw [hji11] at H; exact H) | (simp only [hji11] at H ⊢; exact H)
   by_cases c12 : 0 ≤ (ji11); rotate_left
   ·rw [if_neg c12] at H; exact no_ H
   rw [if_pos c12] at H; have c12b0 := dt_ c12; clear c12; by_cases c13 : (ji11) < 16; rotate_left
   ·rw [if_neg c13] at H; exact no_ H
   rw [if_pos c13] at H; have c13b0 := dt_ c13; clear c13; by_cases c16 : 0 ≤ (Go.bits .and .u8 (bt a0 x11_1) 15); rotate_left
   ·rw [if_neg c16] at H; exact no_ H
   rw [if_pos c16] at H; have c16b0 := dt_ c16; clear c16; by_cases c17 : (Go.bits .and .u8 (bt a0 x11_1) 15) < 16; rotate_left
   ·rw [if_neg c17] at H; exact no_ H
   rw [if_pos c17] at H; have c17b0 := dt_ c17; clear c17; obtain ⟨y184, hy184⟩ : ∃ y_ : List Int, y_ = (([bt ⟨#[48, 49, 50, 51, 52, 53, 54, 55, 56, 57, 97, 98, 99, 100, 101, 102]⟩ (ji11), bt ⟨#[48, 49, 50, 51, 52, 53, 54, 55, 56, 57, 97, 98, 99, 100, 101, 102]⟩ (Go.bits .and .u8 (bt a0 x11_1) 15)] : List Int)) := ⟨_, rfl⟩; replace H : (if x3_1.length + y184.length < 140737488355328 then (qbj_.l0 k1 a0 (x3_1 ++ y184) (a0.size : Int) (wrap64 (x11_1 + 1))) else (none)) = some r := by first | (rw [hy184]; with_reducible exact H) | (have H2_ := (Option.bind_some _ _).symm.trans H; rw [hy184]; with_reducible exact H2_) | (have H2_ := (Option.bind_some _ _).symm.trans H; with_reducible exact H2_) | with_reducible exact H | (rw [hy184]; exact H) | exact H
   have Ny184 := qa_.mk hy184; clear hy184; by_cases c19 : x3_1.length + y184.length < 140737488355328; rotate_left
   ·rw [if_neg c19] at H; exact no_ H
   rw [if_pos c19] at H; have LMc19 := qa_.mk c19; clear c19; obtain ⟨y187, hy187⟩ : ∃ y_ : List Int, y_ = (x3_1 ++ y184) := ⟨_, rfl⟩; replace H : (qbj_.l0 k1 a0 y187 (a0.size : Int) (wrap64 (x11_1 + 1))) = some r := by first | (rw [hy187]; with_reducible exact H) | (have H2_ := (Option.bind_some _ _).symm.trans H; rw [hy187]; with_reducible exact H2_) | (have H2_ := (Option.bind_some _ _).symm.trans H; with_reducible exact H2_) | with_reducible exact H | (rw [hy187]; exact H) | exact H
   have Ny187 := qa_.mk hy187; clear hy187; have H' := qa_.mk H; clear H; try go_wp2
   replace HO_3 := qa_.mk (Kd.R_drew HO_3.out); replace HB := hd_ HB; have p10 : 0 ≤ (x11_1 : Int) := y0_; have q10 : x11_1 < (a0.size : Int) := y0_; have hx10 := bt_at a0 x11_1; replace p10 := eq_true p10; replace q10 := eq_true q10; have p14 : 0 ≤ ((ji11) : Int) := y0_; have q14 : (ji11) < (16 : Int) := y0_; have hx14 := bt_at ⟨#[48, 49, 50, 51, 52, 53, 54, 55, 56, 57, 97, 98, 99, 100, 101, 102]⟩ (ji11); replace p14 := eq_true p14; replace q14 := eq_true q14; have p15 : 0 ≤ (x11_1 : Int) := y0_; have q15 : x11_1 < (a0.size : Int) := y0_; have hx15 := bt_at a0 x11_1; replace p15 := eq_true p15; replace q15 := eq_true q15; have p18 : 0 ≤ ((Go.bits .and .u8 (bt a0 x11_1) 15) : Int) := y0_; have q18 : (Go.bits .and .u8 (bt a0 x11_1) 15) < (16 : Int) := y0_; have hx18 := bt_at ⟨#[48, 49, 50, 51, 52, 53, 54, 55, 56, 57, 97, 98, 99, 100, 101, 102]⟩ (Go.bits .and .u8 (bt a0 x11_1) 15); replace p18 := eq_true p18; replace q18 := eq_true q18; refine qdm_ (n := 14) (S := fun w' => True) (ds := []) (bs 14 0) (by kernel_rfl) rfl rfl trivial (fun qn_ => ?_); refine qdg_ qbj_.tab5 qbj_.bits5 (fun HT_ HW_ => ?_); generalize wr.drew = w20 at HO_3 HB qn_ ⊢; refine pun_ 0 14 14 1 ?_; refine pun_ 1 15 14 3 ?_; refine pun_ 2 16 14 7 ?_; refine pun_ 6 20 14 71 ?_; refine pun_ 7 21 14 199 ?_; refine tkW0n_ 3 17 14 207 qn_ ?_; refine pun_ 4 18 14 223 ?_; refine tkW0n_ 5 19 14 255 qn_ ?_; refine tkW0n_ 8 22 14 511 qn_ ?_; refine pun_ 9 23 14 1023 ?_; refine tkW0n_ 10 24 14 2047 qn_ ?_; refine on_ 11 25 14 4095 (fun K hK => ?_); refine Kd.R_lit_step (Kd.int .u8) _ 5 ?hg (N := 25) ?hd (xs := ([bt ⟨#[48, 49, 50, 51, 52, 53, 54, 55, 56, 57, 97, 98, 99, 100, 101, 102]⟩ (ji11), bt ⟨#[48, 49, 50, 51, 52, 53, 54, 55, 56, 57, 97, 98, 99, 100, 101, 102]⟩ (Go.bits .and .u8 (bt a0 x11_1) 15)] : List Int)) (inner := [.int .u8 (bt ⟨#[48, 49, 50, 51, 52, 53, 54, 55, 56, 57, 97, 98, 99, 100, 101, 102]⟩ (ji11)), .int .u8 (bt ⟨#[48, 49, 50, 51, 52, 53, 54, 55, 56, 57, 97, 98, 99, 100, 101, 102]⟩ (Go.bits .and .u8 (bt a0 x11_1) 15))]) (ok := fun _ => True) (okp := fun _ => True) ?hr ?hp (fun _ hk => hk) trivial (Below.refl _ _) (Nat.le_refl _) (by simp) ?_; (case hd => rfl); (case hg => rfl); (case hr => first | (go_simp; done) | (go_simp; rfl)); (case hp => exact (Reps.one (show Kd.M (Kd.int .u8) _ _ _ (bt ⟨#[48, 49, 50, 51, 52, 53, 54, 55, 56, 57, 97, 98, 99, 100, 101, 102]⟩ (ji11)) [.int .u8 (bt ⟨#[48, 49, 50, 51, 52, 53, 54, 55, 56, 57, 97, 98, 99, 100, 101, 102]⟩ (ji11))] from rfl) (Reps.one (show Kd.M (Kd.int .u8) _ _ _ (bt ⟨#[48, 49, 50, 51, 52, 53, 54, 55, 56, 57, 97, 98, 99, 100, 101, 102]⟩ (Go.bits .and .u8 (bt a0 x11_1) 15)) [.int .u8 (bt ⟨#[48, 49, 50, 51, 52, 53, 54, 55, 56, 57, 97, 98, 99, 100, 101, 102]⟩ (Go.bits .and .u8 (bt a0 x11_1) 15))] from rfl) (Reps.none _ _))))
   intro v185 w21 ho22 hb hg_ hnew_; clear hg_ hnew_; (first | rw [← Ny184.out] at ho22 | (simp only [Int.reduceToNat] at ho22; rw [← Ny184.out] at ho22)); have HO186 := qa_.mk (Kd.R_lower (Kd.R_new' ho22 (Kd.R_lt (rk_ HO_3.out))) (qj_ (hb_ HB.out))); replace HO_3 := qa_.mk (Kd.R_elder' (rk_ HO_3.out) (Kd.R_base ho22) hb); replace HB := ah_ HB hb; clear hb ho22; obtain ⟨Ao24, co24, eo24⟩ := Kd.R_slice HO186.out; (first | subst eo24 | (injection eo24 with f1_ f2_ f3_; have f4_ := f1_.symm; have f5_ := f3_.symm; clear f1_ f2_ f3_; subst f4_; subst f5_)); refine hK.out _ _ trivial (fun qn_ => ?_); clear hK K; refine nrm_ 25 ?_
   refine on_ 12 26 14 8191 (fun K hK => ?_); refine Kd.R_append_rows_step (Kd.int .u8) (w0 := w) w.heap.size (by rfl) (.tmp 14) (.tmp 25) 103 5 (.int .u8 0) 1 rfl underlying103 info5 rfl (by decide) (by omega) u3 x3_1 y184 _ _ _ (fun k_ => some k_ ≠ (.slice Ao24 y184.length co24 : Value).ownBlock) (fun _ => False) rfl rfl ?aO ?aR (fun _ _ h => h) (fun _ h => h.elim) ?aF ?aB ?aS ?aL ?_; (case aR => repeat (first | exact (Kd.R_reads' HO186.out).2.2 | (with_reducible refine Kd.C_alloc ?_ _) | (with_reducible refine Kd.C_drewN ?_ _) | (with_reducible refine Kd.C_drew ?_)))
   (case aB => exact (hb_ HB.out))
   (case aF => exact (fun k_ hk => Kd.fresh' (Kd.R_lt (rk_ HO186.out)) k_ hk))
   (case aO => exact (by (with_reducible repeat (first | apply Kd.R_alloc | apply Kd.R_drewN | apply Kd.R_drew)); exact Kd.R_mono HO_3.out (fun _ hk => hk.2)))
   (case aS => exact (qj_ (hb_ HB.out)))
   (case aL => have := LMc19.out; omega)
   intro v188 w23 ho hb hg hat; rw [← Ny187.out] at ho; have n0_ := qa_.mk (Kd.R_after (ok := (fun _ => True)) (rk_ HO186.out) hg hat); have n1_ := qa_.mk (hb); have n2_ := qa_.mk (ho); clear HO186; clear HB; clear HO_3; have HO186 := n0_; have HB := n1_; have HO189 := n2_; clear n0_ n1_ n2_; clear ho hb hg hat; refine hK.out _ _ trivial (fun qn_ => ?_); clear hK K; refine nrm_ 26 ?_
   refine pun_ 13 3 14 16383 ?_; refine dn_ ?_; try go_wp2
   go_roundg k1
   case measure => have := HK1.out; omega
   case rel => exact ⟨(y187), (wrap64 (x11_1 + 1)), z1_, H', ⟨by have := HK1.out; omega⟩, ⟨by (with_reducible repeat (first | apply Kd.R_alloc | apply Kd.R_drewN | apply Kd.R_drew)); exact Kd.R_mono HO189.out (fun _ hk => trivial)⟩, ⟨hb_ HB.out⟩⟩
def qeb_.f (a0 : Int) : Option (ByteArray) := if a0 = 1 then (some (⟨#[49, 48, 48, 54, 52, 52, 32]⟩ : ByteArray)) else (if a0 = 2 then (some (⟨#[49, 48, 48, 55, 53, 53, 32]⟩ : ByteArray)) else (if a0 = 3 then (some (⟨#[49, 50, 48, 48, 48, 48, 32]⟩ : ByteArray)) else (if a0 = 4 then (some (⟨#[52, 48, 48, 48, 48, 32]⟩ : ByteArray)) else (some (⟨#[]⟩ : ByteArray)))))
theorem qeb_.calls (a0 : Int) (r : ByteArray) (w : World) (h : qeb_.f a0 = some r) :
  Calls Tryz.prog 191 #[.int .i64 a0] w fun e w' => e = .returned (.string r) ∧ Drawn0 w w' := by
 unfold qeb_.f at h; have H := h; clear h; by_cases c2 : a0 = 1
 ·rw [if_pos c2] at H; have c2b0 := et_ c2; have c2b1 := nf_ c2; clear c2; obtain rfl := oi_ H; go_enter func191, ntmps191; go_wp2
  go_ret
  exact ⟨z1_, z2_⟩
 rw [if_neg c2] at H; have c2b0 := ef_ c2; have c2b1 := nt_ c2; by_cases c3 : a0 = 2
 ·rw [if_pos c3] at H; have c3b0 := et_ c3; have c3b1 := nf_ c3; clear c3; obtain rfl := oi_ H; go_enter func191, ntmps191; go_wp2
  go_ret
  exact ⟨z1_, z2_⟩
 rw [if_neg c3] at H; have c3b0 := ef_ c3; have c3b1 := nt_ c3; by_cases c4 : a0 = 3
 ·rw [if_pos c4] at H; have c4b0 := et_ c4; have c4b1 := nf_ c4; clear c4; obtain rfl := oi_ H; go_enter func191, ntmps191; go_wp2
  go_ret
  exact ⟨z1_, z2_⟩
 rw [if_neg c4] at H; have c4b0 := ef_ c4; have c4b1 := nt_ c4; by_cases c5 : a0 = 4; rotate_left
 ·rw [if_neg c5] at H; have c5b0 := ef_ c5; have c5b1 := nt_ c5; obtain rfl := oi_ H; go_enter func191, ntmps191; go_wp2
  go_ret
  exact ⟨z1_, z2_⟩
 rw [if_pos c5] at H; have c5b0 := et_ c5; have c5b1 := nf_ c5; clear c5; obtain rfl := oi_ H; go_enter func191, ntmps191; go_wp2
 go_ret
 exact ⟨z1_, z2_⟩
def qcc_.f (a0 : ByteArray) (a1 : ByteArray) : Option (Bool) := if (a0.size : Int) ≥ (a1.size : Int) then (if 0 ≤ (a1.size : Int) then (if (a1.size : Int) ≤ (a0.size : Int) then (some ((a0.extract 0 a1.size).toList == a1.toList)) else (none)) else (none)) else (some false)
theorem qcc_.calls (a0 : ByteArray) (a1 : ByteArray) (r : Bool) (w : World) (h : qcc_.f a0 a1 = some r) :
  Calls Tryz.prog 141 #[.string a0, .string a1] w fun e w' => e = .returned (.bool r) ∧ Drawn0 w w' := by
 unfold qcc_.f at h; have H := h; clear h; by_cases c3 : (a0.size : Int) ≥ (a1.size : Int); rotate_left
 ·rw [if_neg c3] at H; have c3b0 := df_ c3; have c3b1 : decide (a1.size ≤ a0.size) = false := decide_eq_false (fun h => c3 (Int.ofNat_le.mpr h)); clear c3; obtain rfl := oi_ H; go_enter func141, ntmps141; go_wp2
  go_ret
  exact ⟨z1_, z2_⟩
 rw [if_pos c3] at H; have c3b0 := dt_ c3; have c3b1 : decide (a1.size ≤ a0.size) = true := decide_eq_true (Int.ofNat_le.mp c3); clear c3; by_cases c4 : 0 ≤ (a1.size : Int); rotate_left
 ·rw [if_neg c4] at H; exact no_ H
 rw [if_pos c4] at H; have c4b0 := eq_true c4; have c4b1 := dt_ c4; clear c4; by_cases c5 : (a1.size : Int) ≤ (a0.size : Int); rotate_left
 ·rw [if_neg c5] at H; exact no_ H
 rw [if_pos c5] at H; have c5b0 := eq_true c5; have c5b1 := dt_ c5; clear c5; obtain rfl := oi_ H; go_enter func141, ntmps141; go_wp2
 go_ret
 exact ⟨z1_, z2_⟩
def qcs_.f (a0 : ByteArray) (a1 : ByteArray) : Option (Bool) := (qcc_.f a0 a1).bind fun t192 => (some t192)
theorem qcs_.calls (a0 : ByteArray) (a1 : ByteArray) (r : Bool) (w : World) (h : qcs_.f a0 a1 = some r) :
  Calls Tryz.prog 71 #[.string a0, .string a1] w fun e w' => e = .returned (.bool r) ∧ Drawn0 w w' := by
 unfold qcs_.f at h; have H := h; clear h; obtain ⟨t192, A3, H⟩ := bx_ H; obtain rfl := oi_ H; go_enter func71, ntmps71; go_wp2_with (first | ((with_reducible refine qb_ (f := 141) rfl ?_); refine gl_ (some 7) func141 #[.string a0, .string a1] ?_; refine cm_ (qcc_.calls a0 a1 t192 _ A3.out) ?_; rintro w' ⟨nd, rfl⟩)); go_ret
 exact ⟨z1_, z2_⟩
def qde_.f (a0 : ByteArray) (a1 : ByteArray) : Option (ByteArray × Bool) := (qcc_.f a0 a1).bind fun t193 => (if t193 = true then (if 0 ≤ (a1.size : Int) then (if (a1.size : Int) ≤ (a0.size : Int) then (some (a0.extract a1.size a0.size, true)) else (none)) else (none)) else (some (a0, false)))
theorem qde_.calls (a0 : ByteArray) (a1 : ByteArray) (r1 : ByteArray) (r2 : Bool) (w : World) (h : qde_.f a0 a1 = some (r1, r2)) :
  Calls Tryz.prog 183 #[.string a0, .string a1] w fun e w' => e = .returned (.tuple #[.string r1, .bool r2]) ∧ Drawn0 w w' := by
 unfold qde_.f at h; have H := h; clear h; obtain ⟨t193, A3, H⟩ := bx_ H; by_cases c4 : t193 = true; rotate_left
 ·replace c4 := Bool.eq_false_iff.mpr c4; subst c4; rw [if_neg nft_] at H; obtain ⟨rfl, rfl⟩ := pj2_ H; go_enter func183, ntmps183; go_wp2_with (first | ((with_reducible refine qb_ (f := 141) rfl ?_); refine gl_ (some 8) func141 #[.string a0, .string a1] ?_; refine cm_ (qcc_.calls a0 a1 false _ A3.out) ?_; rintro w' ⟨nd, rfl⟩)); go_ret2
  exact ⟨z1_, z2_⟩
 subst c4; rw [if_pos rfl] at H; by_cases c5 : 0 ≤ (a1.size : Int); rotate_left
 ·rw [if_neg c5] at H; exact no_ H
 rw [if_pos c5] at H; have c5b0 := eq_true c5; have c5b1 := dt_ c5; clear c5; by_cases c6 : (a1.size : Int) ≤ (a0.size : Int); rotate_left
 ·rw [if_neg c6] at H; exact no_ H
 rw [if_pos c6] at H; have c6b0 := eq_true c6; have c6b1 := dt_ c6; clear c6; obtain ⟨rfl, rfl⟩ := pj2_ H; go_enter func183, ntmps183; go_wp2_with (first | ((with_reducible refine qb_ (f := 141) rfl ?_); refine gl_ (some 8) func141 #[.string a0, .string a1] ?_; refine cm_ (qcc_.calls a0 a1 true _ A3.out) ?_; rintro w' ⟨nd, rfl⟩)); go_ret2
 exact ⟨z1_, z2_⟩
def qck_.f (a0 : ByteArray) (a1 : ByteArray) : Option (ByteArray × Bool) := (qde_.f a0 a1).bind fun bt194 => (some (bt194.1, bt194.2))
theorem qck_.calls (a0 : ByteArray) (a1 : ByteArray) (r1 : ByteArray) (r2 : Bool) (w : World) (h : qck_.f a0 a1 = some (r1, r2)) :
  Calls Tryz.prog 142 #[.string a0, .string a1] w fun e w' => e = .returned (.tuple #[.string r1, .bool r2]) ∧ Drawn0 w w' := by
 unfold qck_.f at h; have H := h; clear h; obtain ⟨⟨t194, t195⟩, A3, H⟩ := bx_ H; dsimp only at H; obtain ⟨rfl, rfl⟩ := pj2_ H; go_enter func142, ntmps142; go_wp2_with (first | ((with_reducible refine qb_ (f := 183) rfl ?_); refine gl_ (some 8) func183 #[.string a0, .string a1] ?_; refine cm_ (qde_.calls a0 a1 t194 t195 _ A3.out) ?_; rintro w' ⟨nd, rfl⟩)); go_ret2
 exact ⟨z1_, z2_⟩
def qbz_.l0 : Nat → ByteArray → Bool → Int → Option (Int × ByteArray × Int)
 | 0, _, _, _ => none
 | k + 1, x0, x5, x6 => if x6 ≤ 4 then ((qeb_.f x6).bind fun t115 => ((qck_.f x0 t115).bind fun bt116 => (if bt116.2 = true then (some (x6, bt116.1, 0)) else (if x5 = true then (qbz_.l0 k x0 true (wrap64 (x6 + 1))) else ((qeb_.f x6).bind fun t118 => ((qcs_.f t118 x0).bind fun t119 => (qbz_.l0 k x0 t119 (wrap64 (x6 + 1))))))))) else (if x5 = true then (some (0, (⟨#[]⟩ : ByteArray), 3)) else (some (0, (⟨#[]⟩ : ByteArray), 2)))
def qbz_.f (k : Nat) (a0 : ByteArray) : Option (Int × ByteArray × Int) := qbz_.l0 k a0 false 1
theorem qbz_.mono_l : ∀ k, (∀ y0 y1 y2, LeO (qbz_.l0 k y0 y1 y2) (qbz_.l0 (k + 1) y0 y1 y2))
 | 0 => fun _ _ _ r h => by simp [qbz_.l0] at h
 | k + 1 => by
  have ih0 := qbz_.mono_l k
  ·intro y0 y1 y2
   unfold qbz_.l0
   have m0_ := @ih0
   exact mz_
theorem qbz_.mono : ∀ a0 k, LeO (qbz_.f k a0) (qbz_.f (k + 1) a0) := by
 intro a0 k; have ih0 := qbz_.mono_l k; unfold qbz_.f; have m0_ := @ih0; exact mz_
theorem qbz_.calls (k : Nat) (a0 : ByteArray) (r1 : Int) (r2 : ByteArray) (r3 : Int) (w : World) (h : qbz_.f k a0 = some (r1, r2, r3)) :
  Calls Tryz.prog 148 #[.string a0] w fun e w' => e = .returned (.tuple #[.int .i64 r1, .string r2, .int .i64 r3]) ∧ Drawn0 w w' := by
 unfold qbz_.f at h; have H := h; clear h; have H' := qa_.mk H; clear H; go_enter func148, ntmps148; go_wp2
 go_loopg [5, 6] k (fun kq v5 v6 w' => ∃ (x5_1 : Bool) (x6_1 : Int), v5 = .bool x5_1 ∧ v6 = .int .i64 x6_1 ∧ qa_ (qbz_.l0 kq a0 x5_1 x6_1 = some (r1, r2, r3)) ∧ qa_ (kq ≤ k) ∧ Drawn0 w w')
 case atStart => exact ⟨(false), (1), z1_, z1_, H', ⟨Nat.le_refl _⟩, z2_⟩
 case round =>
  clear H'; try clear c1
  obtain ⟨x5_1, x6_1, rfl, rfl, HA, HK1, ⟨m1, rfl⟩⟩ := hrel
  cases gk with
  | zero => exact absurd HA.out (by simp [qbz_.l0])
  | succ k1 =>
   have H := HA.out; clear HA; simp only [qbz_.l0] at H; by_cases c2 : x6_1 ≤ 4; rotate_left
   ·rw [if_neg c2] at H; have c2b0 := df_ c2; clear c2; by_cases c9 : x5_1 = true
    ·subst c9; rw [if_pos rfl] at H; obtain ⟨rfl, rfl, rfl⟩ := pj3_ H; go_wp2
     go_ret3
     exact ⟨z1_, z2_⟩
    replace c9 := Bool.eq_false_iff.mpr c9; subst c9; rw [if_neg nft_] at H; obtain ⟨rfl, rfl, rfl⟩ := pj3_ H; go_wp2
    go_ret3
    exact ⟨z1_, z2_⟩
   rw [if_pos c2] at H; have c2b0 := dt_ c2; clear c2; obtain ⟨t115, A3, H⟩ := bx_ H; obtain ⟨⟨t116, t117⟩, A4, H⟩ := bx_ H; dsimp only at H; by_cases c5 : t117 = true
   ·subst c5; rw [if_pos rfl] at H; obtain ⟨rfl, rfl, rfl⟩ := pj3_ H; go_wp2_with (first | ((with_reducible refine qb_ (f := 191) rfl ?_); refine gl_ (some 16) func191 #[.int .i64 x6_1] ?_; refine cm_ (qeb_.calls x6_1 t115 _ A3.out) ?_; rintro w' ⟨nd, rfl⟩) | ((with_reducible refine qb_ (f := 142) rfl ?_); refine gl_ (some 17) func142 #[.string a0, .string t115] ?_; refine cm_ (qck_.calls a0 t115 t116 true _ A4.out) ?_; rintro w' ⟨nd, rfl⟩)); go_ret3
    exact ⟨z1_, z2_⟩
   replace c5 := Bool.eq_false_iff.mpr c5; subst c5; rw [if_neg nft_] at H; by_cases c6 : x5_1 = true
   ·subst c6; rw [if_pos rfl] at H; have H' := qa_.mk H; clear H; go_wp2_with (first | ((with_reducible refine qb_ (f := 191) rfl ?_); refine gl_ (some 16) func191 #[.int .i64 x6_1] ?_; refine cm_ (qeb_.calls x6_1 t115 _ A3.out) ?_; rintro w' ⟨nd, rfl⟩) | ((with_reducible refine qb_ (f := 142) rfl ?_); refine gl_ (some 17) func142 #[.string a0, .string t115] ?_; refine cm_ (qck_.calls a0 t115 t116 false _ A4.out) ?_; rintro w' ⟨nd, rfl⟩)); go_roundg k1
    case measure => have := HK1.out; omega
    case rel => exact ⟨(true), (wrap64 (x6_1 + 1)), z1_, z1_, H', ⟨by have := HK1.out; omega⟩, z2_⟩
   replace c6 := Bool.eq_false_iff.mpr c6; subst c6; rw [if_neg nft_] at H; obtain ⟨t118, A7, H⟩ := bx_ H; obtain ⟨t119, A8, H⟩ := bx_ H; have H' := qa_.mk H; clear H; have tk11_ : True := trivial; have tk12_ : True := trivial; go_wp2_with (first | (have _t := tk11_; (with_reducible refine qb_ (f := 191) rfl ?_); refine gl_ (some 16) func191 #[.int .i64 x6_1] ?_; refine cm_ (qeb_.calls x6_1 t115 _ A3.out) ?_; rintro w' ⟨nd, rfl⟩; clear tk11_) | ((with_reducible refine qb_ (f := 142) rfl ?_); refine gl_ (some 17) func142 #[.string a0, .string t115] ?_; refine cm_ (qck_.calls a0 t115 t116 false _ A4.out) ?_; rintro w' ⟨nd, rfl⟩) | (go_at_call 191; have _t := tk12_; (with_reducible refine (qeb_.calls x6_1 t118 _ A7.out).mono ?_); rintro e w' ⟨rfl, ⟨nd, rfl⟩⟩; clear tk12_) | (go_at_call 71; (with_reducible refine (qcs_.calls t118 a0 t119 _ A8.out).mono ?_); rintro e w' ⟨rfl, ⟨nd, rfl⟩⟩)); go_roundg k1
   case measure => have := HK1.out; omega
   case rel => exact ⟨(t119), (wrap64 (x6_1 + 1)), z1_, z1_, H', ⟨by have := HK1.out; omega⟩, z2_⟩
def qfk_.f (a0_0 : Int) (a0_1 : ByteArray) (a0_2 : ByteArray) : Option (ByteArray) := if a0_0 = 4 then (if a0_1.size + 1 ≤ 9223372036854775807 then (some (a0_1 ++ (⟨#[47]⟩ : ByteArray))) else (none)) else (some a0_1)
theorem qfk_.calls (a0_0 : Int) (a0_1 : ByteArray) (a0_2 : ByteArray) (r : ByteArray) (w : World) (h : qfk_.f a0_0 a0_1 a0_2 = some r) :
  Calls Tryz.prog 231 #[.agg #[.int .i64 a0_0, .string a0_1, .string a0_2]] w fun e w' => e = .returned (.string r) ∧ Below w.heap.size w w' := by
 have hu108 := underlying108; have HB := qa_.mk (Below.refl w.heap.size w); unfold qfk_.f at h; have H := h; clear h; by_cases c2 : a0_0 = 4; rotate_left
 ·rw [if_neg c2] at H; have c2b0 := ef_ c2; have c2b1 := nt_ c2; obtain rfl := oi_ H; go_enter func231, ntmps231; go_wp2_with (first | ((with_reducible refine qh_ (N := 1) rfl ?_); refine be_ (cs := #[.int .i64 a0_0, .string a0_1, .string a0_2]) (t := 108) ?_; intro g205 hg w6 hbox hb; have K205 := qa_.mk (hbox); have W205 := ag_ hg HB; have E205 := ag_ hg HB; replace HB := ah_ HB hb; clear hb hbox hg; obtain ⟨Z7_0, Z7_1, Z7_2, F7⟩ := bc3 K205.out)); go_ret
  exact ⟨z3_, hs_⟩
 rw [if_pos c2] at H; have c2b0 := et_ c2; have c2b1 := nf_ c2; clear c2; by_cases c3 : a0_1.size + 1 ≤ 9223372036854775807; rotate_left
 ·rw [if_neg c3] at H; exact no_ H
 rw [if_pos c3] at H; have c3b0 := eq_true c3; have c3b1 := dt_ c3; try have c3b2 := nl_ c3
 obtain rfl := oi_ H; go_enter func231, ntmps231; go_wp2_with (first | ((with_reducible refine qh_ (N := 1) rfl ?_); refine be_ (cs := #[.int .i64 a0_0, .string a0_1, .string a0_2]) (t := 108) ?_; intro g205 hg w4 hbox hb; have K205 := qa_.mk (hbox); have W205 := ag_ hg HB; have E205 := ag_ hg HB; replace HB := ah_ HB hb; clear hb hbox hg; obtain ⟨Z5_0, Z5_1, Z5_2, F5⟩ := bc3 K205.out)); go_ret
 exact ⟨z3_, hs_⟩
def qfc_.f (a0_0 : Int) (a0_1 : ByteArray) (a0_2 : ByteArray) (a1_0 : Int) (a1_1 : ByteArray) (a1_2 : ByteArray) : Option (Bool) := (qfk_.f a0_0 a0_1 a0_2).bind fun t177 => ((qfk_.f a1_0 a1_1 a1_2).bind fun t178 => (some (Op.bytesLess t177.toList t178.toList)))
theorem qfc_.calls (a0_0 : Int) (a0_1 : ByteArray) (a0_2 : ByteArray) (a1_0 : Int) (a1_1 : ByteArray) (a1_2 : ByteArray) (r : Bool) (w : World) (h : qfc_.f a0_0 a0_1 a0_2 a1_0 a1_1 a1_2 = some r) :
  Calls Tryz.prog 193 #[.agg #[.int .i64 a0_0, .string a0_1, .string a0_2], .agg #[.int .i64 a1_0, .string a1_1, .string a1_2]] w fun e w' => e = .returned (.bool r) ∧ Below w.heap.size w w' := by
 have hu108 := underlying108; have HB := qa_.mk (Below.refl w.heap.size w); unfold qfc_.f at h; have H := h; clear h; obtain ⟨t177, A3, H⟩ := bx_ H; obtain ⟨t178, A4, H⟩ := bx_ H; obtain rfl := oi_ H; go_enter func193, ntmps193; try go_wp2_with (first | ((with_reducible refine qh_ (N := 2) rfl ?_); refine be_ (cs := #[.int .i64 a0_0, .string a0_1, .string a0_2]) (t := 108) ?_; intro g175 hg w5 hbox hb; have K175 := qa_.mk (hbox); have W175 := ag_ hg HB; have E175 := ag_ hg HB; replace HB := ah_ HB hb; clear hb hbox hg) | ((with_reducible refine qh_ (N := 3) rfl ?_); refine be_ (cs := #[.int .i64 a1_0, .string a1_1, .string a1_2]) (t := 108) ?_; intro g176 hg w6 hbox hb; have K176 := qa_.mk (hbox); have W176 := qa_.mk ((by rw [hg]; exact (qj_ (hs_)) : w.heap.size ≤ g176)); have E176 := qa_.mk ((by rw [hg]; exact (qj_ (hs_)) : w.heap.size ≤ g176)); replace HB := hr_ hb; have N175_176 := qa_.mk (nl2_ hg K175.out); have N176_175 := qa_.mk (ng2_ hg K175.out); replace K175 := ab_ K175 hb; clear hb hbox hg)); replace K175 := ad_ K175; replace K176 := ad_ K176; replace HB := hd_ HB; refine qdm_ (n := 6) (S := fun w' => w'.cell? ⟨g175, 0, none⟩ = some (.int .i64 a0_0) ∧ w'.cell? ⟨g175, 1, none⟩ = some (.string a0_1) ∧ w'.cell? ⟨g175, 2, none⟩ = some (.string a0_2) ∧ w'.cell? ⟨g176, 0, none⟩ = some (.int .i64 a1_0) ∧ w'.cell? ⟨g176, 1, none⟩ = some (.string a1_1) ∧ w'.cell? ⟨g176, 2, none⟩ = some (.string a1_2)) (ds := []) (bs 6 0) (by kernel_rfl) rfl rfl ⟨(qc_ K175.out 0).trans rfl, (qc_ K175.out 1).trans rfl, (qc_ K175.out 2).trans rfl, (qc_ K176.out 0).trans rfl, (qc_ K176.out 1).trans rfl, (qc_ K176.out 2).trans rfl⟩ (fun qn_ => ?_); generalize w6.drew = w7 at K175 K176 HB qn_ ⊢; refine tkK6n_ 0 5 6 1 qn_ ?_; refine tkK6n_ 2 7 6 5 qn_ ?_; refine one_ (i := 1) (N := some 6) (bs 6 7) rfl rfl (by kernel_rfl) (by decide) (fun K hK => ?_); refine goes_ func231 (by kernel_rfl) rfl #[.agg #[.int .i64 a0_0, .string a0_1, .string a0_2]] (by rfl) rfl rfl z5_ ?_
 with_reducible refine (qfk_.calls a0_0 a0_1 a0_2 t177 _ A3.out).mono ?_
 rintro e w8 ⟨rfl, hb⟩; refine ⟨_, rfl, ?_⟩; replace K175 := ab_ K175 hb; replace K176 := ab_ K176 hb; replace HB := hr_ hb; (try clear hb)
 (try clear hb2)
 (try clear hk)
 (try clear hi)
 refine hK.out _ _ ⟨(qc_ K175.out 0).trans rfl, (qc_ K175.out 1).trans rfl, (qc_ K175.out 2).trans rfl, (qc_ K176.out 0).trans rfl, (qc_ K176.out 1).trans rfl, (qc_ K176.out 2).trans rfl⟩ (fun qn_ => ?_); clear hK K; refine nrm_ 6 ?_
 refine one_ (i := 3) (N := some 8) (bs 6 15) rfl rfl (by kernel_rfl) (by decide) (fun K hK => ?_); refine goes_ func231 (by kernel_rfl) rfl #[.agg #[.int .i64 a1_0, .string a1_1, .string a1_2]] (by rfl) rfl rfl z5_ ?_
 with_reducible refine (qfk_.calls a1_0 a1_1 a1_2 t178 _ A4.out).mono ?_
 rintro e w9 ⟨rfl, hb⟩; refine ⟨_, rfl, ?_⟩; replace K175 := ab_ K175 hb; replace K176 := ab_ K176 hb; replace HB := hr_ hb; (try clear hb)
 (try clear hb2)
 (try clear hk)
 (try clear hi)
 refine hK.out _ _ ⟨(qc_ K175.out 0).trans rfl, (qc_ K175.out 1).trans rfl, (qc_ K175.out 2).trans rfl, (qc_ K176.out 0).trans rfl, (qc_ K176.out 1).trans rfl, (qc_ K176.out 2).trans rfl⟩ (fun qn_ => ?_); clear hK K; refine nrm_ 8 ?_
 refine pkn_ 4 9 6 31 ?_; refine pkn_ 5 4 6 63 ?_; refine done_ (by kernel_rfl) ?_; try go_wp2
 go_ret
 exact ⟨z3_, hs_⟩
end
section
def qdo_.f (a0 : ByteArray) (a1 : Int) : Option Int := some (Lib.indexByte a0.data.toList a1.toNat.toUInt8)
theorem qdo_.calls (a0 : ByteArray) (a1 : Int) (r : Int) (w : World) (h : qdo_.f a0 a1 = some r) :
    Calls Tryz.prog 167 #[.string a0, .int .u8 a1] w fun e w' => e = .returned (.int .i64 r) ∧ Drawn0 w w' := by
  unfold qdo_.f at h
  obtain rfl := Option.some.inj h
  refine (Tryz.strings_IndexByte a0 a1 w).mono ?_
  rintro e w' ⟨rfl, rfl⟩
  exact ⟨rfl, Drawn0.refl _⟩
def qcn_.f (a0 : ByteArray) : Option (Int × Option Int) := if a0.size ≤ 18 then (Lib.atoi a0.data.toList).bind fun n => some (n, none) else none
theorem qcn_.calls (a0 : ByteArray) (r1 : Int) (r2 : Option Int) (w : World) (h : qcn_.f a0 = some (r1, r2)) :
    Calls Tryz.prog 145 #[.string a0] w fun e w' => e = .returned (.tuple #[.int .i64 r1, errW r2]) ∧ Below w.heap.size w w' := by
  unfold qcn_.f at h
  split at h
  · rename_i hl
    obtain ⟨n, hn, h2⟩ := Option.bind_eq_some_iff.1 h
    obtain ⟨rfl, rfl⟩ := Prod.mk.inj (Option.some.inj h2)
    refine (Tryz.strconv_Atoi a0 n hl hn w).mono ?_
    rintro e w' ⟨rfl, t, rfl⟩
    exact ⟨rfl, Lib.bytesWorld_below _ _ _⟩
  · cases h
end
section
open YtbhfbbfjdklfgaaGreatDoorW.PrintMore
attribute [local go_sem] qen_ qem_ qey_ qex_ qee_ qeg_ qel_ qek_
def qfd_.f (a0 : Int) : Option (Int) := (qdo_.f ⟨#[48, 49, 50, 51, 52, 53, 54, 55, 56, 57, 97, 98, 99, 100, 101, 102]⟩ a0).bind fun t101 => (some t101)
theorem qfd_.calls (a0 : Int) (r : Int) (w : World) (h : qfd_.f a0 = some r) :
  Calls Tryz.prog 181 #[.int .u8 a0] w fun e w' => e = .returned (.int .i64 r) ∧ Drawn0 w w' := by
 unfold qfd_.f at h; have H := h; clear h; obtain ⟨t101, A2, H⟩ := bx_ H; obtain rfl := oi_ H; go_enter func181, ntmps181; go_wp2_with (first | ((with_reducible refine qb_ (f := 167) rfl ?_); refine gl_ (some 4) func167 #[.string ⟨#[48, 49, 50, 51, 52, 53, 54, 55, 56, 57, 97, 98, 99, 100, 101, 102]⟩, .int .u8 a0] ?_; refine cm_ (qdo_.calls ⟨#[48, 49, 50, 51, 52, 53, 54, 55, 56, 57, 97, 98, 99, 100, 101, 102]⟩ a0 t101 _ A2.out) ?_; rintro w' ⟨nd, rfl⟩)); go_ret
 exact ⟨z1_, z2_⟩
def qct_.l0 : Nat → ByteArray → Int → Int → Option (Bool)
 | 0, _, _, _ => none
 | k + 1, x0, x5, x6 => if x6 < x5 then (if 0 ≤ x6 then (if x6 < (x0.size : Int) then ((qfd_.f (bt x0 x6)).bind fun t102 => (if t102 < 0 then (some false) else (qct_.l0 k x0 x5 (wrap64 (x6 + 1))))) else (none)) else (none)) else (some true)
def qct_.f (k : Nat) (a0 : ByteArray) : Option (Bool) := qct_.l0 k a0 (a0.size : Int) 0
theorem qct_.mono_l : ∀ k, (∀ y0 y1 y2, LeO (qct_.l0 k y0 y1 y2) (qct_.l0 (k + 1) y0 y1 y2))
 | 0 => fun _ _ _ r h => by simp [qct_.l0] at h
 | k + 1 => by
  have ih0 := qct_.mono_l k
  ·intro y0 y1 y2
   unfold qct_.l0
   have m0_ := @ih0
   exact mz_
theorem qct_.mono : ∀ a0 k, LeO (qct_.f k a0) (qct_.f (k + 1) a0) := by
 intro a0 k; have ih0 := qct_.mono_l k; unfold qct_.f; have m0_ := @ih0; exact mz_
theorem qct_.calls (k : Nat) (a0 : ByteArray) (r : Bool) (w : World) (h : qct_.f k a0 = some r) :
  Calls Tryz.prog 137 #[.string a0] w fun e w' => e = .returned (.bool r) ∧ Drawn0 w w' := by
 unfold qct_.f at h; have H := h; clear h; have H' := qa_.mk H; clear H; go_enter func137, ntmps137; go_wp2
 go_loopg [6] k (fun kq v6 w' => ∃ (x6_1 : Int), v6 = .int .i64 x6_1 ∧ qa_ (qct_.l0 kq a0 (a0.size : Int) x6_1 = some r) ∧ qa_ (kq ≤ k) ∧ Drawn0 w w')
 case atStart => exact ⟨(0), z1_, H', ⟨Nat.le_refl _⟩, z2_⟩
 case round =>
  clear H'; try clear c1
  obtain ⟨x6_1, rfl, HA, HK1, ⟨m1, rfl⟩⟩ := hrel
  cases gk with
  | zero => exact absurd HA.out (by simp [qct_.l0])
  | succ k1 =>
   have H := HA.out; clear HA; simp only [qct_.l0] at H; by_cases c2 : x6_1 < (a0.size : Int); rotate_left
   ·rw [if_neg c2] at H; have c2b0 := df_ c2; clear c2; obtain rfl := oi_ H; go_wp2
    go_ret
    exact ⟨z1_, z2_⟩
   rw [if_pos c2] at H; have c2b0 := dt_ c2; clear c2; by_cases c3 : 0 ≤ x6_1; rotate_left
   ·rw [if_neg c3] at H; exact no_ H
   rw [if_pos c3] at H; have c3b0 := dt_ c3; clear c3; by_cases c4 : x6_1 < (a0.size : Int); rotate_left
   ·rw [if_neg c4] at H; exact no_ H
   rw [if_pos c4] at H; have c4b0 := dt_ c4; clear c4; obtain ⟨t102, A6, H⟩ := bx_ H; by_cases c7 : t102 < 0
   ·rw [if_pos c7] at H; have c7b0 := dt_ c7; clear c7; obtain rfl := oi_ H; have p5 : 0 ≤ (x6_1 : Int) := y0_; have q5 : x6_1 < (a0.size : Int) := y0_; have hx5 := bt_at a0 x6_1; replace p5 := eq_true p5; replace q5 := eq_true q5; go_wp2_with (first | ((with_reducible refine qb_ (f := 181) rfl ?_); refine gl_ (some 12) func181 #[.int .u8 (bt a0 x6_1)] ?_; refine cm_ (qfd_.calls (bt a0 x6_1) t102 _ A6.out) ?_; rintro w' ⟨nd, rfl⟩)); go_ret
    exact ⟨z1_, z2_⟩
   rw [if_neg c7] at H; have c7b0 := df_ c7; clear c7; have H' := qa_.mk H; clear H; have p5 : 0 ≤ (x6_1 : Int) := y0_; have q5 : x6_1 < (a0.size : Int) := y0_; have hx5 := bt_at a0 x6_1; replace p5 := eq_true p5; replace q5 := eq_true q5; go_wp2_with (first | ((with_reducible refine qb_ (f := 181) rfl ?_); refine gl_ (some 12) func181 #[.int .u8 (bt a0 x6_1)] ?_; refine cm_ (qfd_.calls (bt a0 x6_1) t102 _ A6.out) ?_; rintro w' ⟨nd, rfl⟩)); go_roundg k1
   case measure => have := HK1.out; omega
   case rel => exact ⟨(wrap64 (x6_1 + 1)), z1_, H', ⟨by have := HK1.out; omega⟩, z2_⟩
def qdc_.f (k : Nat) (a0 : ByteArray) : Option (Bool) := if (a0.size : Int) = 40 then ((qct_.f k a0).bind fun t103 => (some t103)) else (some false)
theorem qdc_.mono : ∀ a0 k, LeO (qdc_.f k a0) (qdc_.f (k + 1) a0) := by
 intro a0 k; unfold qdc_.f; have m0_ := @qct_.mono; exact mz_
theorem qdc_.calls (k : Nat) (a0 : ByteArray) (r : Bool) (w : World) (h : qdc_.f k a0 = some r) :
  Calls Tryz.prog 65 #[.string a0] w fun e w' => e = .returned (.bool r) ∧ Drawn0 w w' := by
 unfold qdc_.f at h; have H := h; clear h; by_cases c2 : (a0.size : Int) = 40; rotate_left
 ·rw [if_neg c2] at H; have c2b0 := ef_ c2; have c2b1 := nt_ c2; obtain rfl := oi_ H; go_enter func65, ntmps65; go_wp2
  go_ret
  exact ⟨z1_, z2_⟩
 rw [if_pos c2] at H; have c2b0 := et_ c2; have c2b1 := nf_ c2; clear c2; obtain ⟨t103, A3, H⟩ := bx_ H; obtain rfl := oi_ H; go_enter func65, ntmps65; go_wp2_with (first | (go_at_call 137; (with_reducible refine (qct_.calls k a0 t103 _ A3.out).mono ?_); rintro e w' ⟨rfl, ⟨nd, rfl⟩⟩)); go_ret
 exact ⟨z1_, z2_⟩
mutual
def qbe_.j0 : Nat → ByteArray → Bool → Option (Bool)
 | 0, _, _ => none
 | k + 1, x0, x23 => if x23 = true then (some false) else (qbe_.l0 k x0 (x0.size : Int) 0)
def qbe_.l0 : Nat → ByteArray → Int → Int → Option (Bool)
 | 0, _, _, _ => none
 | k + 1, x0, x25, x26 => if x26 < x25 then (if 0 ≤ x26 then (if x26 < (x0.size : Int) then (if (bt x0 x26) < 32 then (some false) else (qbe_.l0 k x0 x25 (wrap64 (x26 + 1)))) else (none)) else (none)) else (some true)
end
def qbe_.f (k : Nat) (a0 : ByteArray) : Option (Bool) := if (a0.size : Int) < 1 then (qbe_.j0 k a0 true) else (if (a0.size : Int) > 64 then (qbe_.j0 k a0 true) else (if a0.toList = ([46] : List UInt8) then (qbe_.j0 k a0 true) else (if a0.toList = ([46, 46] : List UInt8) then (qbe_.j0 k a0 true) else (qbe_.j0 k a0 (a0.toList == ([46, 103, 114, 97, 102, 116] : List UInt8))))))
theorem qbe_.mono_l : ∀ k, (∀ y0 y1, LeO (qbe_.j0 k y0 y1) (qbe_.j0 (k + 1) y0 y1)) ∧ (∀ y0 y1 y2, LeO (qbe_.l0 k y0 y1 y2) (qbe_.l0 (k + 1) y0 y1 y2))
 | 0 => ⟨fun _ _ r h => by simp [qbe_.j0] at h, fun _ _ _ r h => by simp [qbe_.l0] at h⟩
 | k + 1 => by
  obtain ⟨ih0, ih1⟩ := qbe_.mono_l k
  refine ⟨?_, ?_⟩
  ·intro y0 y1
   unfold qbe_.j0
   have m0_ := @ih0
   have m1_ := @ih1
   exact mz_
  ·intro y0 y1 y2
   unfold qbe_.l0
   have m0_ := @ih0
   have m1_ := @ih1
   exact mz_
theorem qbe_.mono : ∀ a0 k, LeO (qbe_.f k a0) (qbe_.f (k + 1) a0) := by
 intro a0 k; obtain ⟨ih0, ih1⟩ := qbe_.mono_l k; unfold qbe_.f; have m0_ := @ih0; have m1_ := @ih1; exact mz_
theorem qbe_.calls (k : Nat) (a0 : ByteArray) (r : Bool) (w : World) (h : qbe_.f k a0 = some r) :
  Calls Tryz.prog 201 #[.string a0] w fun e w' => e = .returned (.bool r) ∧ Drawn0 w w' := by
 unfold qbe_.f at h; have H := h; clear h; have HC2 := qa_.mk H; clear H; go_enter func201, ntmps201; go_upto_region 1 with (fail)
 go_cut [23] (fun v23 wc => ∃ (kq : Nat) (x23_1 : Bool), v23 = .bool x23_1 ∧ qa_ (qbe_.j0 kq a0 x23_1 = some r) ∧ qa_ (kq ≤ k) ∧ Drawn0 w wc)
 case first =>
  have H := HC2.out; clear HC2; by_cases c3 : (a0.size : Int) < 1
  ·rw [if_pos c3] at H; have c3b0 := dt_ c3; have c3b1 : decide (a0.size < 1) = true := decide_eq_true (by omega); clear c3; (first | rw [c3b0] | (simp only [i64_w, i32_w]; rw [c3b0]) | skip); have H' := qa_.mk H; clear H; go_wp2
   go_meet
   case rel => exact ⟨_, (true), z1_, H', ⟨z4_⟩, z2_⟩
  rw [if_neg c3] at H; have c3b0 := df_ c3; have c3b1 : decide (a0.size < 1) = false := decide_eq_false (by omega); clear c3; (first | rw [c3b0] | (simp only [i64_w, i32_w]; rw [c3b0]) | skip); by_cases c4 : (a0.size : Int) > 64
  ·rw [if_pos c4] at H; have c4b0 := dt_ c4; have c4b1 : decide (64 < a0.size) = true := decide_eq_true (by omega); clear c4; have H' := qa_.mk H; clear H; go_wp2
   go_meet
   case rel => exact ⟨_, (true), z1_, H', ⟨z4_⟩, z2_⟩
  rw [if_neg c4] at H; have c4b0 := df_ c4; have c4b1 : decide (64 < a0.size) = false := decide_eq_false (by omega); clear c4; by_cases c5 : a0.toList = ([46] : List UInt8)
  ·rw [if_pos c5] at H; have c5b0 := et_ c5; have c5b1 := nf_ c5; clear c5; have H' := qa_.mk H; clear H; go_wp2
   go_meet
   case rel => exact ⟨_, (true), z1_, H', ⟨z4_⟩, z2_⟩
  rw [if_neg c5] at H; have c5b0 := ef_ c5; have c5b1 := nt_ c5; by_cases c6 : a0.toList = ([46, 46] : List UInt8)
  ·rw [if_pos c6] at H; have c6b0 := et_ c6; have c6b1 := nf_ c6; clear c6; have H' := qa_.mk H; clear H; go_wp2
   go_meet
   case rel => exact ⟨_, (true), z1_, H', ⟨z4_⟩, z2_⟩
  rw [if_neg c6] at H; have c6b0 := ef_ c6; have c6b1 := nt_ c6; have H' := qa_.mk H; clear H; go_wp2
  go_meet
  case rel => exact ⟨_, ((a0.toList == ([46, 103, 114, 97, 102, 116] : List UInt8))), z1_, H', ⟨z4_⟩, z2_⟩
 case rest =>
  clear HC2; try clear c2
  try clear p2
  try clear c3
  try clear c3b0
  try clear c3b1
  try clear c4
  try clear c4b0
  try clear c4b1
  try clear c5
  try clear c5b0
  try clear c5b1
  try clear c6
  try clear c6b0
  try clear c6b1
  obtain ⟨kq, x23_1, rfl, HA, HJ1, ⟨mc1, rfl⟩⟩ := hcut
  cases kq with
  | zero => exact absurd HA.out (by simp [qbe_.j0])
  | succ kj1 =>
   have H := HA.out; clear HA; simp only [qbe_.j0] at H; by_cases c7 : x23_1 = true
   ·subst c7; rw [if_pos rfl] at H; obtain rfl := oi_ H; go_wp2
    go_ret
    exact ⟨z1_, z2_⟩
   replace c7 := Bool.eq_false_iff.mpr c7; subst c7; rw [if_neg nft_] at H; have H' := qa_.mk H; clear H; go_wp2
   go_loopg [26] kj1 (fun kq v26 w' => ∃ (x26_2 : Int), v26 = .int .i64 x26_2 ∧ qa_ (qbe_.l0 kq a0 (a0.size : Int) x26_2 = some r) ∧ qa_ (kq ≤ kj1) ∧ Drawn0 w w')
   case atStart => exact ⟨(0), z1_, H', ⟨Nat.le_refl _⟩, z2_⟩
   case round =>
    clear H'; try clear c1
    try clear c2
    try clear p2
    try clear c3
    try clear c3b0
    try clear c3b1
    try clear c4
    try clear c4b0
    try clear c4b1
    try clear c5
    try clear c5b0
    try clear c5b1
    try clear c6
    try clear c6b0
    try clear c6b1
    try clear c7
    try clear p2
    obtain ⟨x26_2, rfl, HA, HK2, ⟨m2, rfl⟩⟩ := hrel
    cases gk with
    | zero => exact absurd HA.out (by simp [qbe_.l0])
    | succ k2 =>
     have H := HA.out; clear HA; simp only [qbe_.l0] at H; by_cases c8 : x26_2 < (a0.size : Int); rotate_left
     ·rw [if_neg c8] at H; have c8b0 := df_ c8; clear c8; obtain rfl := oi_ H; go_wp2
      go_ret
      exact ⟨z1_, z2_⟩
     rw [if_pos c8] at H; have c8b0 := dt_ c8; clear c8; by_cases c9 : 0 ≤ x26_2; rotate_left
     ·rw [if_neg c9] at H; exact no_ H
     rw [if_pos c9] at H; have c9b0 := dt_ c9; clear c9; by_cases c10 : x26_2 < (a0.size : Int); rotate_left
     ·rw [if_neg c10] at H; exact no_ H
     rw [if_pos c10] at H; have c10b0 := dt_ c10; clear c10; by_cases c12 : (bt a0 x26_2) < 32
     ·rw [if_pos c12] at H; have c12b0 := dt_ c12; clear c12; obtain rfl := oi_ H; have p11 : 0 ≤ (x26_2 : Int) := y0_; have q11 : x26_2 < (a0.size : Int) := y0_; have hx11 := bt_at a0 x26_2; replace p11 := eq_true p11; replace q11 := eq_true q11; go_wp2
      go_ret
      exact ⟨z1_, z2_⟩
     rw [if_neg c12] at H; have c12b0 := df_ c12; clear c12; have H' := qa_.mk H; clear H; have p11 : 0 ≤ (x26_2 : Int) := y0_; have q11 : x26_2 < (a0.size : Int) := y0_; have hx11 := bt_at a0 x26_2; replace p11 := eq_true p11; replace q11 := eq_true q11; go_wp2
     go_roundg k2
     case measure => have := HJ1.out; have := HK2.out; omega
     case rel => exact ⟨(wrap64 (x26_2 + 1)), z1_, H', ⟨by have := HJ1.out; have := HK2.out; omega⟩, z2_⟩
end
section
open Go.Lib
theorem R_strings (e : Nat) (w : World) (l : List ByteArray) (hl : l.length ≤ maxLen) :
    Kd.R Kd.string e (w.alloc (.cells (l.map Value.string).toArray e)) w.heap.size (fun _ => True) (.slice (some ⟨w.heap.size, 0, none⟩) l.length l.length) l := by
  refine ⟨fun _ _ => trivial, l.map Value.string, ⟨by simp [Kd.string, Kd.scalar], .inr ⟨w.heap.size, l.length, (l.map Value.string).toArray, rfl, Nat.le_refl _, heap_alloc_new w _, Nat.le_refl _, hl, by simp [Kd.string, Kd.scalar], List.take_of_length_le (by simp [Kd.string, Kd.scalar])⟩⟩, by simp [Kd.string, Kd.scalar], fun j p hp => ?_⟩
  show ((l.map Value.string).drop (j * 1)).take 1 = [.string p]
  have hj := (List.getElem?_eq_some_iff.1 hp).1
  rw [Nat.mul_one, List.drop_eq_getElem_cons (by simpa using hj)]
  have : l[j] = p := by simpa [List.getElem?_eq_getElem hj] using hp
  simp [this]
def qec_.f (a0 : ByteArray) (a1 : ByteArray) : Option (List ByteArray) := if a1.size = 1 ∧ a0.size < 4294967281 then some (Lib.splitB a1 0 (Lib.countB a0 a1) a0) else none
theorem qec_.calls (a0 : ByteArray) (a1 : ByteArray) (r : List ByteArray) (w : World) (h : qec_.f a0 a1 = some r) :
    Calls Tryz.prog 200 #[.string a0, .string a1] w fun e w' => ∃ v0_ : Value, e = .returned (v0_) ∧ Kd.R Kd.string 9 w' w.heap.size (fun _ => True) v0_ r ∧ Below w.heap.size w w' := by
  unfold qec_.f at h
  split at h
  case isFalse => cases h
  case isTrue hc =>
  obtain rfl := Option.some.inj h
  obtain ⟨c, rfl⟩ := Lib.one_byte a1 hc.1
  have h1 : 1 ≤ (⟨#[c]⟩ : ByteArray).size := by rw [hc.1]; exact Nat.le_refl _
  have hle := Lib.countB_le ⟨#[c]⟩ h1 a0.size a0 (Nat.le_refl _)
  have hlen := Lib.splitB_all ⟨#[c]⟩ h1 0 _ a0 rfl
  have ct := Any.strings_genSplit_core Tryz.lays221 (by kernel_rfl) a0 ⟨#[c]⟩ 0 (-1) (Lib.countB a0 ⟨#[c]⟩ + 1) w hc.2 h1 (Nat.zero_le _)
    (fun x C hx => by
      refine (Tryz.strings_Index_one x c _).mono fun e w' ⟨he, hw⟩ => ⟨?_, hw⟩
      rw [he]
      show _ = Ending.returned (Value.int .i64 (Lib.index x.data.toList [c]))
      rw [Lib.index_one])
    (by
      refine (Tryz.strings_Count_one a0 c w).mono fun e w' ⟨he, hw⟩ => ⟨?_, hw⟩
      rw [he]
      show _ = Ending.returned (Value.int .i64 ((Lib.count a0.data.toList [c] : Nat) : Int))
      rw [Lib.count_one]
      rfl) (by decide) (by decide) (by rw [if_pos (by decide)]; omega)
  rw [Nat.add_sub_cancel, hlen] at ct
  have e2 : Lib.cellsOf (Lib.splitB ⟨#[c]⟩ 0 (Lib.countB a0 ⟨#[c]⟩) a0) (Lib.countB a0 ⟨#[c]⟩ + 1) = ((Lib.splitB ⟨#[c]⟩ 0 (Lib.countB a0 ⟨#[c]⟩) a0).map Value.string).toArray := by rw [← hlen]; exact Lib.cellsOf_full _
  rw [e2] at ct
  have HR := R_strings 9 w (Lib.splitB ⟨#[c]⟩ 0 (Lib.countB a0 ⟨#[c]⟩) a0) (by rw [hlen]; unfold maxLen; omega)
  rw [hlen] at HR
  go_enter func200, ntmps200
  go_wp2_with (go_at_call 234; refine (show Calls _ 234 _ _ _ from ct).mono ?_; rintro e w' ⟨rfl, hw⟩; rw [hw])
  go_ret
  exact ⟨_, rfl, HR, qaw_ (Below.refl _ _) _⟩
end
section
open YtbhfbbfjdklfgaaGreatDoorW.PrintMore
attribute [local go_sem] qen_ qem_ qey_ qex_ qee_ qeg_ qel_ qek_
mutual
def qcd_.j0 : Nat → ByteArray → Bool → Option (Bool)
 | 0, _, _ => none
 | k + 1, x0, x12 => if x12 = true then (some false) else ((qec_.f x0 ⟨#[47]⟩).bind fun t107 => (qcd_.l0 k t107 t107 (t107.length : Int) 0))
def qcd_.l0 : Nat → List ByteArray → List ByteArray → Int → Int → Option (Bool)
 | 0, _, _, _, _ => none
 | k + 1, x3, x15, x16, x17 => if x17 < x16 then (if 0 ≤ x17 then (if x17 < (x15.length : Int) then ((qbe_.f k (rdOf ByteArray.empty x15 x17)).bind fun t111 => (if t111 = true then (qcd_.l0 k x3 x15 x16 (wrap64 (x17 + 1))) else (some false))) else (none)) else (none)) else (some (decide ((x3.length : Int) ≤ 16)))
end
def qcd_.f (k : Nat) (a0 : ByteArray) : Option (Bool) := if a0.toList = ([] : List UInt8) then (qcd_.j0 k a0 true) else (qcd_.j0 k a0 (decide ((a0.size : Int) > 255)))
theorem qcd_.mono_l : ∀ k, (∀ y0 y1, LeO (qcd_.j0 k y0 y1) (qcd_.j0 (k + 1) y0 y1)) ∧ (∀ y0 y1 y2 y3, LeO (qcd_.l0 k y0 y1 y2 y3) (qcd_.l0 (k + 1) y0 y1 y2 y3))
 | 0 => ⟨fun _ _ r h => by simp [qcd_.j0] at h, fun _ _ _ _ r h => by simp [qcd_.l0] at h⟩
 | k + 1 => by
  obtain ⟨ih0, ih1⟩ := qcd_.mono_l k
  refine ⟨?_, ?_⟩
  ·intro y0 y1
   unfold qcd_.j0
   have m0_ := @ih0
   have m1_ := @ih1
   have m2_ := @qbe_.mono
   exact mz_
  ·intro y0 y1 y2 y3
   unfold qcd_.l0
   have m0_ := @ih0
   have m1_ := @ih1
   have m2_ := @qbe_.mono
   exact mz_
theorem qcd_.mono : ∀ a0 k, LeO (qcd_.f k a0) (qcd_.f (k + 1) a0) := by
 intro a0 k; obtain ⟨ih0, ih1⟩ := qcd_.mono_l k; unfold qcd_.f; have m0_ := @ih0; have m1_ := @ih1; have m2_ := @qbe_.mono; exact mz_
theorem qcd_.calls (k : Nat) (a0 : ByteArray) (r : Bool) (w : World) (h : qcd_.f k a0 = some r) :
  Calls Tryz.prog 156 #[.string a0] w fun e w' => e = .returned (.bool r) ∧ Below w.heap.size w w' := by
 have HB := qa_.mk (Below.refl w.heap.size w); unfold qcd_.f at h; have H := h; clear h; have HC2 := qa_.mk H; clear H; go_enter func156, ntmps156; go_upto_region 1 with (fail)
 go_cut [12] (fun v12 wc => ∃ (kq : Nat) (x12_1 : Bool), v12 = .bool x12_1 ∧ qa_ (qcd_.j0 kq a0 x12_1 = some r) ∧ qa_ (kq ≤ k) ∧ qa_ (Below w.heap.size w wc))
 case first =>
  have H := HC2.out; clear HC2; by_cases c3 : a0.toList = ([] : List UInt8)
  ·rw [if_pos c3] at H; have c3b0 := et_ c3; have c3b1 := nf_ c3; clear c3; (first | rw [c3b0] | (simp only [i64_w, i32_w]; rw [c3b0]) | skip); have H' := qa_.mk H; clear H; go_wp2
   go_meet
   case rel => exact ⟨_, (true), z1_, H', ⟨z4_⟩, ⟨hb_ HB.out⟩⟩
  rw [if_neg c3] at H; have c3b0 := ef_ c3; have c3b1 := nt_ c3; (first | rw [c3b0] | (simp only [i64_w, i32_w]; rw [c3b0]) | skip); have H' := qa_.mk H; clear H; go_wp2
  go_meet
  case rel => exact ⟨_, (decide ((a0.size : Int) > 255)), z1_, H', ⟨z4_⟩, ⟨hb_ HB.out⟩⟩
 case rest =>
  clear HC2; try clear c1
  try clear p2
  try clear c3
  try clear c3b0
  try clear c3b1
  obtain ⟨kq, x12_1, rfl, HA, HJ1, HB⟩ := hcut
  cases kq with
  | zero => exact absurd HA.out (by simp [qcd_.j0])
  | succ kj1 =>
   have H := HA.out; clear HA; simp only [qcd_.j0] at H; by_cases c4 : x12_1 = true
   ·subst c4; rw [if_pos rfl] at H; obtain rfl := oi_ H; go_wp2
    go_ret
    exact ⟨z3_, hb_ HB.out⟩
   replace c4 := Bool.eq_false_iff.mpr c4; subst c4; rw [if_neg nft_] at H; obtain ⟨t107, A5, H⟩ := bx_ H; have H' := qa_.mk H; clear H; go_wp2_with (first | ((with_reducible refine qb_ (f := 200) rfl ?_); refine gl_ (some 14) func200 #[.string a0, .string ⟨#[47]⟩] ?_; (with_reducible refine (qec_.calls a0 ⟨#[47]⟩ t107 _ A5.out).mono ?_); rintro e w6 ⟨v108, rfl, ho0, hb⟩; refine ⟨_, rfl, ?_⟩; have HO109 := qa_.mk (Kd.R_lower ho0 (qj_ (hb_ HB.out))); replace HB := ah_ HB hb; (try clear hb); (try clear hb2); (try clear hk); (try clear hi); (try clear ho0); obtain ⟨Ao7, co7, eo7⟩ := Kd.R_slice HO109.out; subst eo7)); go_loopg [17] kj1 (fun kq v17 w' => ∃ (x17_2 : Int), v17 = .int .i64 x17_2 ∧ qa_ (qcd_.l0 kq t107 t107 (t107.length : Int) x17_2 = some r) ∧ qa_ (kq ≤ kj1) ∧ qa_ (Kd.R Kd.string 9 w' w.heap.size (fun _ => True) (.slice Ao7 t107.length co7) t107) ∧ qa_ (Kd.R Kd.string 9 w' w.heap.size (fun _ => True) (.slice Ao7 t107.length co7) t107) ∧ qa_ (Below w.heap.size w w'))
   case atStart => exact ⟨(0), z1_, H', ⟨Nat.le_refl _⟩, ⟨by (with_reducible repeat (first | apply Kd.R_alloc | apply Kd.R_drewN | apply Kd.R_drew)); exact HO109.out⟩, ⟨by (with_reducible repeat (first | apply Kd.R_alloc | apply Kd.R_drewN | apply Kd.R_drew)); exact HO109.out⟩, ⟨hb_ HB.out⟩⟩
   case round =>
    clear H'; try clear c1
    try clear c2
    try clear p2
    try clear c3
    try clear c3b0
    try clear c3b1
    try clear c4
    try clear p2
    obtain ⟨x17_2, rfl, HA, HK2, HO_3, HO_15, HB⟩ := hrel
    cases gk with
    | zero => exact absurd HA.out (by simp [qcd_.l0])
    | succ k2 =>
     have H := HA.out; clear HA; simp only [qcd_.l0] at H; by_cases c8 : x17_2 < (t107.length : Int); rotate_left
     ·rw [if_neg c8] at H; have c8b0 := df_ c8; clear c8; obtain rfl := oi_ H; go_wp2
      go_ret
      exact ⟨z3_, hb_ HB.out⟩
     rw [if_pos c8] at H; have c8b0 := dt_ c8; clear c8; by_cases c9 : 0 ≤ x17_2; rotate_left
     ·rw [if_neg c9] at H; exact no_ H
     rw [if_pos c9] at H; have c9b0 := dt_ c9; clear c9; by_cases c10 : x17_2 < (t107.length : Int); rotate_left
     ·rw [if_neg c10] at H; exact no_ H
     rw [if_pos c10] at H; have c10b0 := dt_ c10; clear c10; obtain ⟨t111, A11, H⟩ := bx_ H; by_cases c12 : t111 = true; rotate_left
     ·replace c12 := Bool.eq_false_iff.mpr c12; subst c12; rw [if_neg nft_] at H; obtain rfl := oi_ H; have p110 : 0 ≤ (x17_2 : Int) := y0_; have q110 : x17_2 < (t107.length : Int) := y0_; obtain ⟨ad110, e110, hx110_0⟩ := Kd.at_string (Kd.R_reads' HO_15.out).2.2 x17_2 p110 q110
      cases e110
      replace p110 := eq_true p110; replace q110 := eq_true q110; go_wp2_with (first | ((with_reducible refine qb_ (f := 201) rfl ?_); refine gl_ (some 22) func201 #[.string (rdOf ByteArray.empty t107 x17_2)] ?_; refine cm_ (qbe_.calls k2 (rdOf ByteArray.empty t107 x17_2) false _ A11.out) ?_; rintro w' ⟨nd, rfl⟩)); go_ret
      exact ⟨z3_, hb_ HB.out⟩
     subst c12; rw [if_pos rfl] at H; have H' := qa_.mk H; clear H; have p110 : 0 ≤ (x17_2 : Int) := y0_; have q110 : x17_2 < (t107.length : Int) := y0_; obtain ⟨ad110, e110, hx110_0⟩ := Kd.at_string (Kd.R_reads' HO_15.out).2.2 x17_2 p110 q110
     cases e110
     replace p110 := eq_true p110; replace q110 := eq_true q110; go_wp2_with (first | ((with_reducible refine qb_ (f := 201) rfl ?_); refine gl_ (some 22) func201 #[.string (rdOf ByteArray.empty t107 x17_2)] ?_; refine cm_ (qbe_.calls k2 (rdOf ByteArray.empty t107 x17_2) true _ A11.out) ?_; rintro w' ⟨nd, rfl⟩)); go_roundg k2
     case measure => have := HJ1.out; have := HK2.out; omega
     case rel => exact ⟨(wrap64 (x17_2 + 1)), z1_, H', ⟨by have := HJ1.out; have := HK2.out; omega⟩, ⟨z15_⟩, ⟨by (with_reducible repeat (first | apply Kd.R_alloc | apply Kd.R_drewN | apply Kd.R_drew)); exact HO_15.out⟩, ⟨hb_ HB.out⟩⟩
def qed_.f (k : Nat) (a0_0 : Int) (a0_1 : ByteArray) (a0_2 : ByteArray) : Option (Bool) := if a0_0 ≥ 1 then (if a0_0 ≤ 4 then ((qcd_.f k a0_1).bind fun t121 => (if t121 = true then ((qcu_.f a0_1 ⟨#[47]⟩).bind fun t122 => (if t122 = true then (some false) else ((qdc_.f k a0_2).bind fun t123 => (some t123)))) else (some false))) else (some false)) else (some false)
theorem qed_.mono : ∀ a0 a1 a2 k, LeO (qed_.f k a0 a1 a2) (qed_.f (k + 1) a0 a1 a2) := by
 intro a0 a1 a2 k; unfold qed_.f; have m0_ := @qdc_.mono; have m1_ := @qcd_.mono; exact mz_
theorem qed_.calls (k : Nat) (a0_0 : Int) (a0_1 : ByteArray) (a0_2 : ByteArray) (r : Bool) (w : World) (hgv : GV w) (h : qed_.f k a0_0 a0_1 a0_2 = some r) :
  Calls Tryz.prog 192 #[.agg #[.int .i64 a0_0, .string a0_1, .string a0_2]] w fun e w' => e = .returned (.bool r) ∧ Below w.heap.size w w' := by
 have hu108 := underlying108; have HB := qa_.mk (Below.refl w.heap.size w); unfold qed_.f at h; have H := h; clear h; by_cases c2 : a0_0 ≥ 1; rotate_left
 ·rw [if_neg c2] at H; have c2b0 := df_ c2; clear c2; obtain rfl := oi_ H; go_enter func192, ntmps192; go_wp2_with (first | ((with_reducible refine qh_ (N := 1) rfl ?_); refine be_ (cs := #[.int .i64 a0_0, .string a0_1, .string a0_2]) (t := 108) ?_; intro g120 hg w22 hbox hb; have K120 := qa_.mk (hbox); have W120 := ag_ hg HB; have E120 := ag_ hg HB; replace HB := ah_ HB hb; clear hb hbox hg; obtain ⟨Z23_0, Z23_1, Z23_2, F23⟩ := bc3 K120.out)); go_ret
  exact ⟨z3_, hs_⟩
 rw [if_pos c2] at H; have c2b0 := dt_ c2; clear c2; by_cases c3 : a0_0 ≤ 4; rotate_left
 ·rw [if_neg c3] at H; have c3b0 := df_ c3; clear c3; obtain rfl := oi_ H; go_enter func192, ntmps192; go_wp2_with (first | ((with_reducible refine qh_ (N := 1) rfl ?_); refine be_ (cs := #[.int .i64 a0_0, .string a0_1, .string a0_2]) (t := 108) ?_; intro g120 hg w20 hbox hb; have K120 := qa_.mk (hbox); have W120 := ag_ hg HB; have E120 := ag_ hg HB; replace HB := ah_ HB hb; clear hb hbox hg; obtain ⟨Z21_0, Z21_1, Z21_2, F21⟩ := bc3 K120.out)); go_ret
  exact ⟨z3_, hs_⟩
 rw [if_pos c3] at H; have c3b0 := dt_ c3; clear c3; obtain ⟨t121, A4, H⟩ := bx_ H; by_cases c5 : t121 = true; rotate_left
 ·replace c5 := Bool.eq_false_iff.mpr c5; subst c5; rw [if_neg nft_] at H; obtain rfl := oi_ H; go_enter func192, ntmps192; go_wp2_with (first | ((with_reducible refine qh_ (N := 1) rfl ?_); refine be_ (cs := #[.int .i64 a0_0, .string a0_1, .string a0_2]) (t := 108) ?_; intro g120 hg w17 hbox hb; have K120 := qa_.mk (hbox); have W120 := ag_ hg HB; have E120 := ag_ hg HB; replace HB := ah_ HB hb; clear hb hbox hg; obtain ⟨Z18_0, Z18_1, Z18_2, F18⟩ := bc3 K120.out) | (go_at_call 156; (with_reducible refine (qcd_.calls k a0_1 false _ A4.out).mono ?_); rintro e w19 ⟨rfl, hb⟩; replace K120 := ab_ K120 hb; replace HB := hr_ hb; (try clear hb); (try clear hb2); (try clear hk); (try clear hi)))
  go_ret
  exact ⟨z3_, hs_⟩
 subst c5; rw [if_pos rfl] at H; obtain ⟨t122, A6, H⟩ := bx_ H; by_cases c7 : t122 = true
 ·subst c7; rw [if_pos rfl] at H; obtain rfl := oi_ H; go_enter func192, ntmps192; go_wp2_with (first | ((with_reducible refine qh_ (N := 1) rfl ?_); refine be_ (cs := #[.int .i64 a0_0, .string a0_1, .string a0_2]) (t := 108) ?_; intro g120 hg w8 hbox hb; have K120 := qa_.mk (hbox); have W120 := ag_ hg HB; have E120 := ag_ hg HB; replace HB := ah_ HB hb; clear hb hbox hg; obtain ⟨Z9_0, Z9_1, Z9_2, F9⟩ := bc3 K120.out) | (go_at_call 156; (with_reducible refine (qcd_.calls k a0_1 true _ A4.out).mono ?_); rintro e w10 ⟨rfl, hb⟩; replace K120 := ab_ K120 hb; replace HB := hr_ hb; (try clear hb); (try clear hb2); (try clear hk); (try clear hi); obtain ⟨Z11_0, Z11_1, Z11_2, F11⟩ := bc3 K120.out) | (go_at_call 68; (with_reducible refine (qcu_.calls a0_1 ⟨#[47]⟩ true _ ?side1 A6.out).mono ?_); (case side1 => exact GV.below hgv (hs_)); rintro e w' ⟨rfl, ⟨nd, rfl⟩⟩)); go_ret
  exact ⟨z3_, hs_⟩
 replace c7 := Bool.eq_false_iff.mpr c7; subst c7; rw [if_neg nft_] at H; obtain ⟨t123, A12, H⟩ := bx_ H; obtain rfl := oi_ H; go_enter func192, ntmps192; go_wp2_with (first | ((with_reducible refine qh_ (N := 1) rfl ?_); refine be_ (cs := #[.int .i64 a0_0, .string a0_1, .string a0_2]) (t := 108) ?_; intro g120 hg w13 hbox hb; have K120 := qa_.mk (hbox); have W120 := ag_ hg HB; have E120 := ag_ hg HB; replace HB := ah_ HB hb; clear hb hbox hg; obtain ⟨Z14_0, Z14_1, Z14_2, F14⟩ := bc3 K120.out) | (go_at_call 156; (with_reducible refine (qcd_.calls k a0_1 true _ A4.out).mono ?_); rintro e w15 ⟨rfl, hb⟩; replace K120 := ab_ K120 hb; replace HB := hr_ hb; (try clear hb); (try clear hb2); (try clear hk); (try clear hi); obtain ⟨Z16_0, Z16_1, Z16_2, F16⟩ := bc3 K120.out) | (go_at_call 68; (with_reducible refine (qcu_.calls a0_1 ⟨#[47]⟩ false _ ?side1 A6.out).mono ?_); (case side1 => exact GV.below hgv (hs_)); rintro e w' ⟨rfl, ⟨nd, rfl⟩⟩) | (go_at_call 65; (with_reducible refine (qdc_.calls k a0_2 t123 _ A12.out).mono ?_); rintro e w' ⟨rfl, ⟨nd, rfl⟩⟩)); go_ret
 exact ⟨z3_, hs_⟩
end
section
open Go.Maps YtbhfbbfjdklfgaaGreatDoorW.PrintMore
structure MSI where
  n : Nat
  f : List UInt8 → Option Int
def MSI.nil : MSI := ⟨0, fun _ => none⟩
def MSI.get (m : MSI) (k : ByteArray) : Int := (m.f k.data.toList).getD 0
def MSI.has (m : MSI) (k : ByteArray) : Bool := (m.f k.data.toList).isSome
def MSI.put (m : MSI) (k : ByteArray) (v : Int) : MSI := ⟨m.n + 1, fun x => if x = k.data.toList then some v else m.f x⟩
def qax_ (w0 W : World) (g : Nat) (f0 : MSI) : Prop := w0.heap.size ≤ g ∧ ∃ D : DataW Unit, W.ownsMap Tryz.prog 9 (plainElem Tryz.prog 3) g f0.n D ∧
  ∀ s : List UInt8, s.length ≤ maxLen → D.atKey (.string s) (.lit (.int .i64 0)) = .lit (.int .i64 ((f0.f s).getD 0)) ∧ Maps.has D (.string s) = (f0.f s).isSome
theorem mapLaw : Keyed Tryz.prog 9 := string_keyed underlying9
theorem mapZero (w : World) : (zeroValue 3).run Tryz.prog w = .ok (.int .i64 0) w := by kernel_rfl
section
variable {w0 W W1 : World} {g : Nat} {f0 : MSI}
theorem qax_.block (h : qax_ w0 W g f0) : ∃ es clock, W.heap[g]? = some (.map es clock) := by
  obtain ⟨_, D, ⟨es, c, hb, _⟩, _⟩ := h
  exact ⟨es, c, hb⟩
theorem qax_.grown {row : Option Nat} (h : qax_ w0 W g f0) (hw : W.grownBy W1 row) (hne : some g ≠ row) : qax_ w0 W1 g f0 := by
  obtain ⟨h0, D, h1, h2⟩ := h
  exact ⟨h0, D, h1.kept hw hne, h2⟩
theorem qax_.below (h : qax_ w0 W g f0) (hw : Below W.heap.size W W1) : qax_ w0 W1 g f0 := h.grown (qfu_ hw none) (by simp)
theorem qax_.alloc (h : qax_ w0 W g f0) (o : Obj) : qax_ w0 (W.alloc o) g f0 := h.below (qaw_ (Below.refl _ _) o)
theorem qax_.drewN (h : qax_ w0 W g f0) (m : Nat) : qax_ w0 (W.drewN m) g f0 := h
theorem qax_.drew (h : qax_ w0 W g f0) : qax_ w0 W.drew g f0 := h
theorem qax_.at_ {m : Nat} (hq : W.drewN m = W1) (h : qax_ w0 W g f0) : qax_ w0 W1 g f0 := by subst hq; exact h
theorem qax_.ge (h : qax_ w0 W g f0) : w0.heap.size ≤ g := h.1
theorem qax_.lt (h : qax_ w0 W g f0) : g < W.heap.size := by
  obtain ⟨_, D, h1, _⟩ := h
  exact h1.lt
theorem qax_.fresh (h : qax_ w0 W g f0) : ∀ k, W.heap.size ≤ k → k ≠ g := fun k hk e => by have := h.lt; omega
theorem qax_.far {p : Addr} (h : qax_ w0 W g f0) (hne : g ≠ p.block) (u : Value) : qax_ w0 (W.setCell p u) g f0 := by
  obtain ⟨h0, D, h1, h2⟩ := h
  exact ⟨h0, D, h1.setCell hne u, h2⟩
theorem qax_.apart {α : Type} {d : Kd α} {e : Nat} {base : Nat} {ok : Nat → Prop} {v : Value} {xs : List α} (h : qax_ w0 W g f0) (ho : d.R e W base ok v xs) (ht : ∀ q, q ∈ e :: d.E → q ≠ 176) : d.R e W base (fun k => ok k ∧ k ≠ g) v xs := by
  obtain ⟨es, c, hb⟩ := h.block
  refine Kd.R_mono (Kd.R_bound ho) (fun k hk => ⟨hk.1, ?_⟩)
  rintro rfl
  obtain ⟨_, _, _, q, _, cells, hc⟩ := hk
  rw [hc] at hb
  cases hb
theorem qax_.own_ne {α : Type} {d : Kd α} {e : Nat} {base : Nat} {ok : Nat → Prop} {v : Value} {xs : List α} (h : qax_ w0 W g f0) (ho : d.R e W base ok v xs) (ht : e ≠ 176) : some g ≠ v.ownBlock := by
  obtain ⟨es, c, hb⟩ := h.block
  intro he
  obtain ⟨_, _, _, q, _, cells, hc⟩ := (Kd.R_bound ho).1 g he.symm
  rw [hc] at hb
  cases hb
theorem qax_.made (hb : W.ownsMap Tryz.prog 9 (plainElem (H := Unit) Tryz.prog 3) g 0 (.map [])) (hg : w0.heap.size ≤ g) : qax_ w0 W g MSI.nil :=
  ⟨hg, .map [], hb, fun s hs => ⟨by simp [DataW.atKey, MSI.nil], by simp [Maps.has, MSI.nil]⟩⟩
end
section
variable {ops : Array Oper} {rest : List Oper} {o : Oper} {a : Act} {Q : Exit → Act → World → Prop} {w0 W : World} {g : Nat} {f0 : MSI}
theorem mkmap_event (hgd : o.guard = none) {N : Tmp} (hd : o.dst = some N) (hop : o.op = .makeMap 176 none)
    (h : ∀ g, g = W.heap.size → ∀ w1, w1.ownsMap Tryz.prog 9 (plainElem (H := Unit) Tryz.prog 3) g 0 (.map []) → Below W.heap.size W w1 → wpList Tryz.prog ops Q rest (a.put o.dst (.map (some g))) w1) : wpList Tryz.prog ops Q (o :: rest) a W := by
  have hmm := @run_makeMap Tryz.prog
  refine Kd.event_run hgd (v := .map (some W.heap.size)) (w1 := W.alloc (.map #[] 0)) ?_ (h _ rfl _ (World.ownsMap_made _ _ _ _) (qaw_ (Below.refl _ _) _))
  simp [execOp, hop, hmm, Result.andThen]
theorem qax_.look {m x : Operand} {k : ByteArray} (h : qax_ w0 W g f0) (hgd : o.guard = none) (hop : o.op = .lookup 176 m x false) (hm : a.eval m = .map (some g)) (hx : a.eval x = .string k) (hs : k.size ≤ 9223372036854775807)
    (K : wpList Tryz.prog ops Q rest (a.put o.dst (.int .i64 (MSI.get f0 k))) W) : wpList Tryz.prog ops Q (o :: rest) a W := by
  obtain ⟨h0, D, h1, h2⟩ := h
  refine wpList_lookup_own_int _ hgd m x 176 hop 9 3 .i64 mapLaw underlying176 underlying3 (mapZero _) g f0.n D hm h1 _ _ hx (WideMaps.keyOf_string_mk underlying9 (by unfold maxLen; exact hs)) ?_
  intro c hat hwc
  have := (h2 k.data.toList (by unfold maxLen; exact hs)).1
  rw [this] at hat
  have e : c = MSI.get f0 k := by
    injection hat with hat
    injection hat with _ hat
    exact hat.symm
  rw [e]
  exact K
theorem qax_.put_ {m x v : Operand} {k : ByteArray} {n : Int} (h : qax_ w0 W g f0) (hgd : o.guard = none) (hop : o.op = .mapUpdate 176 m x v) (hm : a.eval m = .map (some g)) (hx : a.eval x = .string k) (hv : a.eval v = .int .i64 n) (hs : k.size ≤ 9223372036854775807) (hn : f0.n < 4611686018427387904) (hw : (Lit.int .i64 n).wf = true)
    (K : ∀ w1, qax_ w0 w1 g (MSI.put f0 k n) → W.grownBy w1 (some g) → wpList Tryz.prog ops Q rest (a.put o.dst undef) w1) : wpList Tryz.prog ops Q (o :: rest) a W := by
  obtain ⟨h0, D, h1, h2⟩ := h
  have hk : keyOf Tryz.prog 9 (.string k) = some (.string k.data.toList) := WideMaps.keyOf_string_mk underlying9 (by unfold maxLen; exact hs)
  refine wpList_mapUpdate_own _ hgd m x v 176 hop 9 3 mapLaw underlying176 _ g f0.n D hm h1 (by unfold maxLen; omega) _ _ _ hx hv hk _ [] (plainElem_int underlying3 hw) ?_
  intro w1 hown hg
  refine K w1 ⟨h0, _, hown, fun s hl => ?_⟩ hg
  have hD : IsMap D := by
    obtain ⟨es, c, _, _, _, rfl⟩ := h1
    exact ⟨_, rfl⟩
  have hkl : WideAt.IsKeyLit (.string k.data.toList) := trivial
  by_cases e : s = k.data.toList
  · subst e
    refine ⟨?_, ?_⟩
    · rw [atKey_put_same hD hkl]; simp [MSI.put]
    · rw [has_put_same hD hkl]; simp [MSI.put]
  · have hne : (Lit.string s) ≠ .string k.data.toList := fun h => e (by injection h)
    have := h2 s hl
    refine ⟨?_, ?_⟩
    · rw [atKey_put_other hne, this.1]; simp [MSI.put, e]
    · rw [has_put_other hne, this.2]; simp [MSI.put, e]
end
end
section
open YtbhfbbfjdklfgaaGreatDoorW.PrintMore
attribute [local go_sem] qen_ qem_ qey_ qex_ qee_ qeg_ qel_ qek_
mutual
def qal_.l0 : Nat → List (S108) → List (S108) → Int → Int → MSI → Option (Int)
 | 0, _, _, _, _, _ => none
 | k + 1, x0, x10, x11, x12, x102000 => if x12 < x11 then (if 0 ≤ x12 then (if x12 < (x10.length : Int) then (if ((qd_ x10 x12).f1).size ≤ 9223372036854775807 then (if x102000.n < 4611686018427387904 then ((qed_.f k ((qd_ x10 x12).f0) ((qd_ x10 x12).f1) ((qd_ x10 x12).f2)).bind fun t104 => (if t104 = true then (if x12 > 0 then (if 0 ≤ (wrap64 (x12 - 1)) then (if (wrap64 (x12 - 1)) < (x0.length : Int) then ((qfc_.f ((qd_ x0 (wrap64 (x12 - 1))).f0) ((qd_ x0 (wrap64 (x12 - 1))).f1) ((qd_ x0 (wrap64 (x12 - 1))).f2) ((qd_ x10 x12).f0) ((qd_ x10 x12).f1) ((qd_ x10 x12).f2)).bind fun t106 => (qal_.j1 k x0 x10 x11 x12 (!t106) (MSI.put x102000 ((qd_ x10 x12).f1) (wrap64 ((MSI.get x102000 ((qd_ x10 x12).f1)) + 1))) ((qd_ x10 x12).f0) ((qd_ x10 x12).f1) ((qd_ x10 x12).f2))) else (none)) else (none)) else (qal_.j1 k x0 x10 x11 x12 false (MSI.put x102000 ((qd_ x10 x12).f1) (wrap64 ((MSI.get x102000 ((qd_ x10 x12).f1)) + 1))) ((qd_ x10 x12).f0) ((qd_ x10 x12).f1) ((qd_ x10 x12).f2))) else (some 1))) else (none)) else (none)) else (none)) else (none)) else (some 0)
def qal_.j1 : Nat → List (S108) → List (S108) → Int → Int → Bool → MSI → Int → ByteArray → ByteArray → Option (Int)
 | 0, _, _, _, _, _, _, _, _, _ => none
 | k + 1, x0, x10, x11, x12, x26, x102000, x104000, x104001, x104002 => if x26 = true then (some 150) else (if x104001.size ≤ 9223372036854775807 then (if (MSI.get x102000 x104001) > 1 then (some 6) else (qal_.l0 k x0 x10 x11 (wrap64 (x12 + 1)) x102000)) else (none))
end
def qal_.f (k : Nat) (l0 : List (S108)) : Option (Int) := if (l0.length : Int) > 1024 then (some 4) else (qal_.l0 k l0 l0 (l0.length : Int) 0 MSI.nil)
theorem qal_.mono_l : ∀ k, (∀ y0 y1 y2 y3 y4, LeO (qal_.l0 k y0 y1 y2 y3 y4) (qal_.l0 (k + 1) y0 y1 y2 y3 y4)) ∧ (∀ y0 y1 y2 y3 y4 y5 y6 y7 y8, LeO (qal_.j1 k y0 y1 y2 y3 y4 y5 y6 y7 y8) (qal_.j1 (k + 1) y0 y1 y2 y3 y4 y5 y6 y7 y8))
 | 0 => ⟨fun _ _ _ _ _ r h => by simp [qal_.l0] at h, fun _ _ _ _ _ _ _ _ _ r h => by simp [qal_.j1] at h⟩
 | k + 1 => by
  obtain ⟨ih0, ih1⟩ := qal_.mono_l k
  refine ⟨?_, ?_⟩
  ·intro y0 y1 y2 y3 y4
   unfold qal_.l0
   have m0_ := @ih0
   have m1_ := @ih1
   have m2_ := @qed_.mono
   exact mz_
  ·intro y0 y1 y2 y3 y4 y5 y6 y7 y8
   unfold qal_.j1
   have m0_ := @ih0
   have m1_ := @ih1
   have m2_ := @qed_.mono
   exact mz_
theorem qal_.mono : ∀ a0 k, LeO (qal_.f k a0) (qal_.f (k + 1) a0) := by
 intro a0 k; obtain ⟨ih0, ih1⟩ := qal_.mono_l k; unfold qal_.f; have m0_ := @ih0; have m1_ := @ih1; have m2_ := @qed_.mono; exact mz_
def qal_.T10 : Bool × List (List Nat × List Nat) := (true, [([], []), ([0], [0]), ([1], [1]), ([2], [2]), ([2], [2]), ([4, 2], [2, 4]), ([3, 5, 2], [2, 3, 5]), ([6, 2], [2, 6]), ([2], [2]), ([7, 8, 2, 2], [2, 7, 8]), ([9, 2], [2, 9]), ([2, 10], [2, 10]), ([11, 9], [11])])
def qal_.B10 : List Nat := [0, 1, 3, 7, 7, 23, 63, 127, 7, 511, 1023, 2047, 4095]
theorem qal_.tab10 : rtab .any (opsOf Tryz.f150 10) = qal_.T10 := by kernel_rfl
theorem qal_.bits10 : qdu_ qal_.T10.2 qal_.B10 = true := by kernel_rfl
theorem qal_.calls (k : Nat) (A0 : Option Addr) (c0 : Nat) (l0 : List (S108)) (r : Int) (w : World) (hr0 : Kd.C k108 w A0 l0.length l0) (hc0 : l0.length ≤ c0) (hgv : GV w) (h : qal_.f k l0 = some r) :
  Calls Tryz.prog 150 #[.slice A0 l0.length c0] w fun e w' => e = .returned (.int .i64 r) ∧ Below w.heap.size w w' := by
 have hu108 := underlying108; have HR0 := qa_.mk hr0; have HC0 := qa_.mk hc0; clear hr0 hc0; have HB := qa_.mk (Below.refl w.heap.size w); unfold qal_.f at h; have H := h; clear h; by_cases c2 : (l0.length : Int) > 1024
 ·rw [if_pos c2] at H; have c2b0 := dt_ c2; have c2b1 : decide (1024 < l0.length) = true := decide_eq_true (by omega); clear c2; obtain rfl := oi_ H; go_enter func150, ntmps150; go_wp2
  go_ret
  exact ⟨z3_, hb_ HB.out⟩
 rw [if_neg c2] at H; have c2b0 := df_ c2; have c2b1 : decide (1024 < l0.length) = false := decide_eq_false (by omega); clear c2; have H' := qa_.mk H; clear H; go_enter func150, ntmps150; go_wp2_with (first | ((with_reducible refine qh_ (N := 9) rfl ?_); refine mkmap_event rfl (N := 9) rfl rfl ?_; intro g101 hg w3 hbox hb; have HI101 := qa_.mk (qax_.made hbox (gw_ hg HB.out)); replace HB := ah_ HB hb; clear hb hbox hg)); go_loopg [12] k (fun kq v12 w' => ∃ (x12_1 : Int) (x102000_1 : MSI), v12 = .int .i64 x12_1 ∧ qa_ (qal_.l0 kq l0 l0 (l0.length : Int) x12_1 x102000_1 = some r) ∧ qa_ (kq ≤ k) ∧ qa_ (qax_ w w' g101 x102000_1) ∧ qa_ (Below w.heap.size w w'))
 case atStart => exact ⟨(0), (MSI.nil), z1_, H', ⟨Nat.le_refl _⟩, ⟨z19_⟩, ⟨z17_⟩⟩
 case round =>
  clear H'; try clear c1
  try clear c2
  try clear c2b0
  try clear c2b1
  try clear p2
  obtain ⟨x12_1, x102000_1, rfl, HA, HK1, HI101, HB⟩ := hrel
  cases gk with
  | zero => exact absurd HA.out (by simp [qal_.l0])
  | succ k1 =>
   have H := HA.out; clear HA; simp only [qal_.l0] at H; by_cases c4 : x12_1 < (l0.length : Int); rotate_left
   ·rw [if_neg c4] at H; have c4b0 := df_ c4; clear c4; obtain rfl := oi_ H; go_wp2
    go_ret
    exact ⟨z3_, z17_⟩
   rw [if_pos c4] at H; have c4b0 := dt_ c4; clear c4; by_cases c5 : 0 ≤ x12_1; rotate_left
   ·rw [if_neg c5] at H; exact no_ H
   rw [if_pos c5] at H; have c5b0 := dt_ c5; clear c5; by_cases c6 : x12_1 < (l0.length : Int); rotate_left
   ·rw [if_neg c6] at H; exact no_ H
   rw [if_pos c6] at H; have c6b0 := dt_ c6; clear c6; by_cases c7 : ((qd_ l0 x12_1).f1).size ≤ 9223372036854775807; rotate_left
   ·rw [if_neg c7] at H; exact no_ H
   rw [if_pos c7] at H; have c7b0 := eq_true c7; have c7b1 := dt_ c7; try have c7b2 := nl_ c7
   clear c7; have c8b0 := eq_true (y0_ : ((qd_ l0 x12_1).f1).size ≤ 9223372036854775807); by_cases c9 : x102000_1.n < 4611686018427387904; rotate_left
   ·rw [if_neg c9] at H; exact no_ H
   rw [if_pos c9] at H; have c9b0 := eq_true c9; have c9b1 := dt_ c9; clear c9; obtain ⟨t104, A10, H⟩ := bx_ H; by_cases c11 : t104 = true; rotate_left
   ·replace c11 := Bool.eq_false_iff.mpr c11; subst c11; rw [if_neg nft_] at H; obtain rfl := oi_ H; have p102 : 0 ≤ (x12_1 : Int) := y0_; have q102 : x12_1 < (l0.length : Int) := y0_; obtain ⟨ad102, e102, hx102_0, hx102_1, hx102_2⟩ := qew_ HR0.out x12_1 p102 q102
    cases e102
    replace hx102_0 := (HB.out.cell (World.block_lt_of_cell? w _ hx102_0)).trans hx102_0; replace hx102_1 := (HB.out.cell (World.block_lt_of_cell? w _ hx102_1)).trans hx102_1; replace hx102_2 := (HB.out.cell (World.block_lt_of_cell? w _ hx102_2)).trans hx102_2; replace p102 := eq_true p102; replace q102 := eq_true q102; go_wp2_with (first | ((with_reducible refine qh_ (N := 5) rfl ?_); refine be_ (cs := #[.int .i64 0, .string ⟨#[]⟩, .string ⟨#[]⟩]) (t := 108) ?_; intro g103 hg w34 hbox hb; have K103 := qa_.mk (hbox); have W103 := qa_.mk ((by rw [hg]; exact (qj_ z17_) : w.heap.size ≤ g103)); have E103 := qa_.mk ((by rw [hg]; exact (qj_ z17_) : w.heap.size ≤ g103)); replace HB := qa_.mk (qdi_ z17_ hb); have N101_103 := qa_.mk ((by rw [hg]; exact Nat.ne_of_lt (qax_.lt (show qax_ w _ g101 x102000_1 from z19_)) : g101 ≠ g103)); have N103_101 := qa_.mk ((by rw [hg]; exact Nat.ne_of_gt (qax_.lt (show qax_ w _ g101 x102000_1 from z19_)) : g103 ≠ g101)); replace HI101 := qa_.mk (qax_.below z19_ hb); clear hb hbox hg; have hnb35 := N103_101.out; have hnc35 := N101_103.out; obtain ⟨Z36_0, Z36_1, Z36_2, F36⟩ := bc3 K103.out) | ((with_reducible refine qh_ (N := 20) rfl ?_); refine qax_.look (show qax_ w _ g101 x102000_1 from z12_) rfl rfl rfl rfl (y0_ : ((qd_ l0 x12_1).f1).size ≤ 9223372036854775807) ?_) | (at_mapUpdate; refine qax_.put_ (k := ((qd_ l0 x12_1).f1)) (n := (wrap64 ((MSI.get x102000_1 ((qd_ l0 x12_1).f1)) + 1))) (show qax_ w _ g101 x102000_1 from z12_) rfl rfl rfl rfl rfl (y0_ : ((qd_ l0 x12_1).f1).size ≤ 9223372036854775807) (y0_ : x102000_1.n < 4611686018427387904) (wrap64_wf _) ?_; intro w37 hi hg; replace K103 := qa_.mk (qdd_ (g := g103) (o := .cells #[.int .i64 ((qd_ l0 x12_1).f0), .string ((qd_ l0 x12_1).f1), .string ((qd_ l0 x12_1).f2)] 108 (0, 0)) (by have b_ := K103; exact zb_) hg (fun e_ => N103_101.out (Option.some.inj e_))); replace HB := qa_.mk (Below.grown z9_ hg ((qj_ z9_)) (fun k_ e_ => (Option.some.inj e_) ▸ (qax_.ge hi))); replace HI101 := qa_.mk (hi); clear hi hg; obtain ⟨Z38_0, Z38_1, Z38_2, F38⟩ := bc3 K103.out) | ((with_reducible refine qb_ (f := 192) rfl ?_); refine gl_ (some 24) func192 #[.agg #[.int .i64 ((qd_ l0 x12_1).f0), .string ((qd_ l0 x12_1).f1), .string ((qd_ l0 x12_1).f2)]] ?_; (with_reducible refine (qed_.calls k1 ((qd_ l0 x12_1).f0) ((qd_ l0 x12_1).f1) ((qd_ l0 x12_1).f2) false _ ?side1 A10.out).mono ?_); (case side1 => exact GV.below hgv z9_); rintro e w39 ⟨rfl, hb⟩; refine ⟨_, rfl, ?_⟩; replace K103 := ab_ K103 hb; replace HB := qa_.mk (qdi_ z9_ hb); replace HI101 := qa_.mk (qax_.below z12_ hb); (try clear hb); (try clear hb2); (try clear hk); (try clear hi)))
    go_ret
    exact ⟨z3_, z9_⟩
   subst c11; rw [if_pos rfl] at H; have HC12 := qa_.mk H; clear H; have p102 : 0 ≤ (x12_1 : Int) := y0_; have q102 : x12_1 < (l0.length : Int) := y0_; obtain ⟨ad102, e102, hx102_0, hx102_1, hx102_2⟩ := qew_ HR0.out x12_1 p102 q102
   cases e102
   replace hx102_0 := (HB.out.cell (World.block_lt_of_cell? w _ hx102_0)).trans hx102_0; replace hx102_1 := (HB.out.cell (World.block_lt_of_cell? w _ hx102_1)).trans hx102_1; replace hx102_2 := (HB.out.cell (World.block_lt_of_cell? w _ hx102_2)).trans hx102_2; replace p102 := eq_true p102; replace q102 := eq_true q102; go_upto_region 10 with (first | ((with_reducible refine qh_ (N := 5) rfl ?_); refine be_ (cs := #[.int .i64 0, .string ⟨#[]⟩, .string ⟨#[]⟩]) (t := 108) ?_; intro g103 hg w13 hbox hb; have K103 := qa_.mk (hbox); have W103 := qa_.mk ((by rw [hg]; exact (qj_ z17_) : w.heap.size ≤ g103)); have E103 := qa_.mk ((by rw [hg]; exact (qj_ z17_) : w.heap.size ≤ g103)); replace HB := qa_.mk (qdi_ z17_ hb); have N101_103 := qa_.mk ((by rw [hg]; exact Nat.ne_of_lt (qax_.lt (show qax_ w _ g101 x102000_1 from z19_)) : g101 ≠ g103)); have N103_101 := qa_.mk ((by rw [hg]; exact Nat.ne_of_gt (qax_.lt (show qax_ w _ g101 x102000_1 from z19_)) : g103 ≠ g101)); replace HI101 := qa_.mk (qax_.below z19_ hb); clear hb hbox hg; have hnb14 := N103_101.out; have hnc14 := N101_103.out; obtain ⟨Z15_0, Z15_1, Z15_2, F15⟩ := bc3 K103.out) | ((with_reducible refine qh_ (N := 20) rfl ?_); refine qax_.look (show qax_ w _ g101 x102000_1 from z12_) rfl rfl rfl rfl (y0_ : ((qd_ l0 x12_1).f1).size ≤ 9223372036854775807) ?_) | (at_mapUpdate; refine qax_.put_ (k := ((qd_ l0 x12_1).f1)) (n := (wrap64 ((MSI.get x102000_1 ((qd_ l0 x12_1).f1)) + 1))) (show qax_ w _ g101 x102000_1 from z12_) rfl rfl rfl rfl rfl (y0_ : ((qd_ l0 x12_1).f1).size ≤ 9223372036854775807) (y0_ : x102000_1.n < 4611686018427387904) (wrap64_wf _) ?_; intro w16 hi hg; replace K103 := qa_.mk (qdd_ (g := g103) (o := .cells #[.int .i64 ((qd_ l0 x12_1).f0), .string ((qd_ l0 x12_1).f1), .string ((qd_ l0 x12_1).f2)] 108 (0, 0)) (by have b_ := K103; exact zb_) hg (fun e_ => N103_101.out (Option.some.inj e_))); replace HB := qa_.mk (Below.grown z9_ hg ((qj_ z9_)) (fun k_ e_ => (Option.some.inj e_) ▸ (qax_.ge hi))); replace HI101 := qa_.mk (hi); clear hi hg; obtain ⟨Z17_0, Z17_1, Z17_2, F17⟩ := bc3 K103.out) | ((with_reducible refine qb_ (f := 192) rfl ?_); refine gl_ (some 24) func192 #[.agg #[.int .i64 ((qd_ l0 x12_1).f0), .string ((qd_ l0 x12_1).f1), .string ((qd_ l0 x12_1).f2)]] ?_; (with_reducible refine (qed_.calls k1 ((qd_ l0 x12_1).f0) ((qd_ l0 x12_1).f1) ((qd_ l0 x12_1).f2) true _ ?side1 A10.out).mono ?_); (case side1 => exact GV.below hgv z9_); rintro e w18 ⟨rfl, hb⟩; refine ⟨_, rfl, ?_⟩; replace K103 := ab_ K103 hb; replace HB := qa_.mk (qdi_ z9_ hb); replace HI101 := qa_.mk (qax_.below z12_ hb); (try clear hb); (try clear hb2); (try clear hk); (try clear hi)))
   (try simp only [Act.put, List.setIfInBounds_toArray, List.set_cons_zero, List.set_cons_succ])
   go_cut [26] (fun v26 wc => ∃ (kq : Nat) (x26_11 : Bool), v26 = .bool x26_11 ∧ qa_ (qal_.j1 kq l0 l0 (l0.length : Int) x12_1 x26_11 (MSI.put x102000_1 ((qd_ l0 x12_1).f1) (wrap64 ((MSI.get x102000_1 ((qd_ l0 x12_1).f1)) + 1))) ((qd_ l0 x12_1).f0) ((qd_ l0 x12_1).f1) ((qd_ l0 x12_1).f2) = some r) ∧ qa_ (kq ≤ k1) ∧ qa_ (wc.heap[g103]? = some (.cells #[.int .i64 ((qd_ l0 x12_1).f0), .string ((qd_ l0 x12_1).f1), .string ((qd_ l0 x12_1).f2)] 108 (0, 0))) ∧ qa_ (qax_ w wc g101 (MSI.put x102000_1 ((qd_ l0 x12_1).f1) (wrap64 ((MSI.get x102000_1 ((qd_ l0 x12_1).f1)) + 1)))) ∧ qa_ (Below w.heap.size w wc))
   case first =>
    have H := HC12.out; clear HC12; by_cases c19 : x12_1 > 0; rotate_left
    ·rw [if_neg c19] at H; have c19b0 := df_ c19; clear c19; (first | rw [c19b0] | (simp only [i64_w, i32_w]; rw [c19b0]) | skip); have H' := qa_.mk H; clear H; try go_wp2
     replace K103 := ad_ K103; replace HI101 := qa_.mk (qax_.drew HI101.out); replace HB := hd_ HB; refine qdm_ (n := 13) (S := fun w' => True) (ds := []) (bs 13 0) (by kernel_rfl) rfl rfl trivial (fun qn_ => ?_); refine qdg_ qal_.tab10 qal_.bits10 (fun HT_ HW_ => ?_); generalize w18.drew = w26 at K103 HI101 HB qn_ ⊢; refine pun_ 0 27 13 1 ?_; refine pun_ 1 28 13 3 ?_; refine pun_ 2 29 13 7 ?_; refine pnn_ 3 30 13 15 ?_; refine pnn_ 4 31 13 31 ?_; refine pnn_ 5 32 13 63 ?_; refine pnn_ 6 33 13 127 ?_; refine pnn_ 7 34 13 255 ?_; refine pnn_ 8 35 13 511 ?_; refine pnn_ 9 36 13 1023 ?_; refine pnn_ 10 37 13 2047 ?_; refine pun_ 11 38 13 4095 ?_; refine pun_ 12 26 13 8191 ?_; refine dn_ ?_; try go_wp2
     go_meet
     case rel => exact ⟨_, (false), z1_, H', ⟨by have := HK1.out; first | omega | exact Nat.le_refl _⟩, ⟨bk_ K103.out⟩, ⟨z12_⟩, ⟨z9_⟩⟩
    rw [if_pos c19] at H; have c19b0 := dt_ c19; clear c19; (first | rw [c19b0] | (simp only [i64_w, i32_w]; rw [c19b0]) | skip); obtain ⟨ji20, hji20⟩ : ∃ j_ : Int, (wrap64 (x12_1 - 1)) = j_ := ⟨_, rfl⟩; replace H : (if 0 ≤ (ji20) then (if (ji20) < (l0.length : Int) then ((qfc_.f ((qd_ l0 (ji20)).f0) ((qd_ l0 (ji20)).f1) ((qd_ l0 (ji20)).f2) ((qd_ l0 x12_1).f0) ((qd_ l0 x12_1).f1) ((qd_ l0 x12_1).f2)).bind fun t106 => (qal_.j1 k1 l0 l0 (l0.length : Int) x12_1 (!t106) (MSI.put x102000_1 ((qd_ l0 x12_1).f1) (wrap64 ((MSI.get x102000_1 ((qd_ l0 x12_1).f1)) + 1))) ((qd_ l0 x12_1).f0) ((qd_ l0 x12_1).f1) ((qd_ l0 x12_1).f2))) else (none)) else (none)) = some r := by first | (rw [hji20] at H; exact H) | (simp only [hji20] at H ⊢; exact H)
    have hji20w : (IntKind.i64.wrap (x12_1 - 1)) = ji20 := (i64_w _).trans hji20; by_cases c21 : 0 ≤ (ji20); rotate_left
    ·rw [if_neg c21] at H; exact no_ H
    rw [if_pos c21] at H; have c21b0 := dt_ c21; clear c21; by_cases c22 : (ji20) < (l0.length : Int); rotate_left
    ·rw [if_neg c22] at H; exact no_ H
    rw [if_pos c22] at H; have c22b0 := dt_ c22; clear c22; obtain ⟨t106, A23, H⟩ := bx_ H; have H' := qa_.mk H; clear H; try go_wp2
    replace K103 := ad_ K103; replace HI101 := qa_.mk (qax_.drew HI101.out); replace HB := hd_ HB; have p105 : 0 ≤ ((ji20) : Int) := y0_; have q105 : (ji20) < (l0.length : Int) := y0_; obtain ⟨ad105, e105, hx105_0, hx105_1, hx105_2⟩ := qew_ HR0.out (ji20) p105 q105; have hw105_2 := hx105_2; have hw105_1 := hx105_1; have hw105_0 := hx105_0; obtain rfl : ad102 = ad105 := (by injection e105); replace hx105_0 := (HB.out.cell (World.block_lt_of_cell? w _ hx105_0)).trans hx105_0; replace hx105_1 := (HB.out.cell (World.block_lt_of_cell? w _ hx105_1)).trans hx105_1; replace hx105_2 := (HB.out.cell (World.block_lt_of_cell? w _ hx105_2)).trans hx105_2; replace p105 := eq_true p105; replace q105 := eq_true q105; refine qdm_ (n := 13) (S := fun w' => w'.cell? ⟨g103, 0, none⟩ = some (.int .i64 ((qd_ l0 x12_1).f0)) ∧ w'.cell? ⟨g103, 1, none⟩ = some (.string ((qd_ l0 x12_1).f1)) ∧ w'.cell? ⟨g103, 2, none⟩ = some (.string ((qd_ l0 x12_1).f2)) ∧ w'.cell? (ad102.add (((ji20)).toNat * 3)) = some (.int .i64 ((qd_ l0 (ji20)).f0)) ∧ w'.cell? ⟨(ad102.add (((ji20)).toNat * 3)).block, (ad102.add (((ji20)).toNat * 3)).off + 1, none⟩ = some (.string ((qd_ l0 (ji20)).f1)) ∧ w'.cell? ⟨(ad102.add (((ji20)).toNat * 3)).block, (ad102.add (((ji20)).toNat * 3)).off + 2, none⟩ = some (.string ((qd_ l0 (ji20)).f2))) (ds := []) (bs 13 0) (by kernel_rfl) rfl rfl ⟨(qc_ K103.out 0).trans rfl, (qc_ K103.out 1).trans rfl, (qc_ K103.out 2).trans rfl, ((HB.out.cell (World.block_lt_of_cell? w _ hw105_0)).trans hw105_0), ((HB.out.cell (World.block_lt_of_cell? w _ hw105_1)).trans hw105_1), ((HB.out.cell (World.block_lt_of_cell? w _ hw105_2)).trans hw105_2)⟩ (fun qn_ => ?_); refine qdg_ qal_.tab10 qal_.bits10 (fun HT_ HW_ => ?_); generalize w18.drew = w24 at K103 HI101 HB hx105_0 hx105_1 hx105_2 qn_ ⊢; refine pun_ 0 27 13 1 ?_; refine pun_ 1 28 13 3 ?_; refine pun_ 2 29 13 7 ?_; refine pun_ 3 30 13 15 ?_; refine pun_ 4 31 13 31 ?_; refine pun_ 5 32 13 63 ?_; refine pun_ 6 33 13 127 ?_; refine tkW6n_ 7 34 13 255 qn_ ?_; refine tkW6n_ 8 35 13 511 qn_ ?_; refine on_ 9 36 13 1023 (fun K hK => ?_); refine goes_ func193 (by kernel_rfl) rfl #[.agg #[.int .i64 ((qd_ l0 (ji20)).f0), .string ((qd_ l0 (ji20)).f1), .string ((qd_ l0 (ji20)).f2)], .agg #[.int .i64 ((qd_ l0 x12_1).f0), .string ((qd_ l0 x12_1).f1), .string ((qd_ l0 x12_1).f2)]] (by rfl) rfl rfl (by (try simp only [List.map_toArray, List.map_cons, List.map_nil]); first | done | (simp only [hji20]; rfl) | rfl | (simp only [List.length_drop, List.length_take]; rfl)) ?_
    with_reducible refine (qfc_.calls ((qd_ l0 (ji20)).f0) ((qd_ l0 (ji20)).f1) ((qd_ l0 (ji20)).f2) ((qd_ l0 x12_1).f0) ((qd_ l0 x12_1).f1) ((qd_ l0 x12_1).f2) t106 _ A23.out).mono ?_
    rintro e w25 ⟨rfl, hb⟩; refine ⟨_, rfl, ?_⟩; replace K103 := ab_ K103 hb; replace HB := qa_.mk (qdi_ z9_ hb); replace HI101 := qa_.mk (qax_.below z12_ hb); (try clear hb)
    (try clear hb2)
    (try clear hk)
    (try clear hi)
    refine hK.out _ _ ⟨(qc_ K103.out 0).trans rfl, (qc_ K103.out 1).trans rfl, (qc_ K103.out 2).trans rfl, ((HB.out.cell (World.block_lt_of_cell? w _ hw105_0)).trans hw105_0), ((HB.out.cell (World.block_lt_of_cell? w _ hw105_1)).trans hw105_1), ((HB.out.cell (World.block_lt_of_cell? w _ hw105_2)).trans hw105_2)⟩ (fun qn_ => ?_); clear hK K; refine nrm_ 36 ?_
    refine pun_ 10 37 13 2047 ?_; refine pun_ 11 38 13 4095 ?_; refine pun_ 12 26 13 8191 ?_; refine dn_ ?_; try go_wp2
    (try subst hji20)
    go_meet
    case rel => exact ⟨_, (!t106), z1_, H', ⟨by have := HK1.out; first | omega | exact Nat.le_refl _⟩, ⟨bk_ K103.out⟩, ⟨z12_⟩, ⟨z9_⟩⟩
   case rest =>
    clear HC12; try clear c1
    try clear p1
    try clear q1
    try clear hx1
    try clear c2
    try clear c2b0
    try clear c2b1
    try clear p2
    try clear c4
    try clear c4b0
    try clear c5
    try clear c5b0
    try clear c6
    try clear c6b0
    try clear p6
    try clear c7
    try clear c7b0
    try clear c7b1
    try clear c7b2
    try clear c8
    try clear c8b0
    try clear c9
    try clear c9b0
    try clear c9b1
    try clear p10
    try clear q10
    try clear hx10
    try clear c11
    try clear c14
    try clear c15
    try clear c19
    try clear c19b0
    try clear c21
    try clear c21b0
    try clear c22
    try clear c22b0
    try clear Z15_0 Z15_1 Z15_2
    try clear Z17_0 Z17_1 Z17_2
    try clear F15
    try clear F17
    try clear hx102_0
    try clear hx102_1
    try clear hx102_2
    try clear hx105_0
    try clear hx105_1
    try clear hx105_2
    try clear p102
    try clear p105
    try clear p2
    try clear q102
    try clear q105
    obtain ⟨kq, x26_11, rfl, HA, HJ11, K103, HI101, HB⟩ := hcut
    cases kq with
    | zero => exact absurd HA.out (by simp [qal_.j1])
    | succ kj11 =>
     have H := HA.out; clear HA; simp only [qal_.j1] at H; by_cases c27 : x26_11 = true
     ·subst c27; rw [if_pos rfl] at H; obtain rfl := oi_ H; go_wp2
      go_ret
      exact ⟨z3_, z9_⟩
     replace c27 := Bool.eq_false_iff.mpr c27; subst c27; rw [if_neg nft_] at H; by_cases c28 : ((qd_ l0 x12_1).f1).size ≤ 9223372036854775807; rotate_left
     ·rw [if_neg c28] at H; exact no_ H
     rw [if_pos c28] at H; have c28b0 := eq_true c28; have c28b1 := dt_ c28; try have c28b2 := nl_ c28
     clear c28; by_cases c29 : (MSI.get (MSI.put x102000_1 ((qd_ l0 x12_1).f1) (wrap64 ((MSI.get x102000_1 ((qd_ l0 x12_1).f1)) + 1))) ((qd_ l0 x12_1).f1)) > 1
     ·rw [if_pos c29] at H; have c29b0 := dt_ c29; clear c29; obtain rfl := oi_ H; have hnb30 := N103_101.out; have hnc30 := N101_103.out; obtain ⟨Z31_0, Z31_1, Z31_2, F31⟩ := bc3 K103.out; go_wp2_with (first | ((with_reducible refine qh_ (N := 43) rfl ?_); refine qax_.look (show qax_ w _ g101 (MSI.put x102000_1 ((qd_ l0 x12_1).f1) (wrap64 ((MSI.get x102000_1 ((qd_ l0 x12_1).f1)) + 1))) from z12_) rfl rfl rfl rfl (y0_ : ((qd_ l0 x12_1).f1).size ≤ 9223372036854775807) ?_)); go_ret
      exact ⟨z3_, z9_⟩
     rw [if_neg c29] at H; have c29b0 := df_ c29; clear c29; have H' := qa_.mk H; clear H; have hnb32 := N103_101.out; have hnc32 := N101_103.out; obtain ⟨Z33_0, Z33_1, Z33_2, F33⟩ := bc3 K103.out; go_wp2_with (first | ((with_reducible refine qh_ (N := 43) rfl ?_); refine qax_.look (show qax_ w _ g101 (MSI.put x102000_1 ((qd_ l0 x12_1).f1) (wrap64 ((MSI.get x102000_1 ((qd_ l0 x12_1).f1)) + 1))) from z12_) rfl rfl rfl rfl (y0_ : ((qd_ l0 x12_1).f1).size ≤ 9223372036854775807) ?_)); go_roundg kj11
     case measure => have := HK1.out; have := HJ11.out; omega
     case rel => exact ⟨(wrap64 (x12_1 + 1)), ((MSI.put x102000_1 ((qd_ l0 x12_1).f1) (wrap64 ((MSI.get x102000_1 ((qd_ l0 x12_1).f1)) + 1)))), z1_, H', ⟨by have := HK1.out; have := HJ11.out; omega⟩, ⟨z12_⟩, ⟨z9_⟩⟩
def qbs_.l0 : Nat → ByteArray → List (S108) → Option ((List (S108)) × Int)
 | 0, _, _ => none
 | k + 1, x0, x4 => if x0.toList = ([] : List UInt8) then ((qal_.f k x4).bind fun t101 => (if t101 = 0 then (some (x4, 0)) else (some (([] : List (S108)), t101)))) else ((qbz_.f k x0).bind fun bt102 => (if bt102.2.2 = 0 then ((qcf_.f bt102.2.1 ⟨#[0]⟩).bind fun bt105 => (if bt105.2.2 = true then (if (bt105.2.1.size : Int) < 20 then (some (([] : List (S108)), 3)) else (if 0 ≤ 20 then (if 20 ≤ (bt105.2.1.size : Int) then ((qbj_.f k (bt105.2.1.extract 0 20)).bind fun t108 => (if x4.length < 3518437208883 then (qbs_.l0 k (bt105.2.1.extract 20 bt105.2.1.size) (x4 ++ [(⟨bt102.1, bt105.1, t108⟩ : S108)])) else (none))) else (none)) else (none))) else (some (([] : List (S108)), 3)))) else (some (([] : List (S108)), bt102.2.2))))
def qbs_.f (k : Nat) (a0 : ByteArray) : Option ((List (S108)) × Int) := qbs_.l0 k a0 ([] : List (S108))
theorem qbs_.mono_l : ∀ k, (∀ y0 y1, LeO (qbs_.l0 k y0 y1) (qbs_.l0 (k + 1) y0 y1))
 | 0 => fun _ _ r h => by simp [qbs_.l0] at h
 | k + 1 => by
  have ih0 := qbs_.mono_l k
  ·intro y0 y1
   unfold qbs_.l0
   have m0_ := @ih0
   have m1_ := @qbj_.mono
   have m2_ := @qal_.mono
   have m3_ := @qbz_.mono
   exact mz_
theorem qbs_.mono : ∀ a0 k, LeO (qbs_.f k a0) (qbs_.f (k + 1) a0) := by
 intro a0 k; have ih0 := qbs_.mono_l k; unfold qbs_.f; have m0_ := @ih0; have m1_ := @qbj_.mono; have m2_ := @qal_.mono; have m3_ := @qbz_.mono; exact mz_
theorem qbs_.calls (k : Nat) (a0 : ByteArray) (r1 : List (S108)) (r2 : Int) (w : World) (hgv : GV w) (h : qbs_.f k a0 = some (r1, r2)) :
  Calls Tryz.prog 94 #[.string a0] w fun e w' => ∃ v0_ : Value, e = .returned (.tuple #[v0_, .int .i64 r2]) ∧ Kd.R k108 108 w' w.heap.size (fun _ => True) v0_ r1 ∧ Below w.heap.size w w' := by
 have hu108 := underlying108; have HB := qa_.mk (Below.refl w.heap.size w); unfold qbs_.f at h; have H := h; clear h; have H' := qa_.mk H; clear H; go_enter func94, ntmps94; go_wp2
 go_loopg [0, 4] k (fun kq v0 v4 w' => ∃ (x0_1 : ByteArray) (x4_1 : List (S108)), v0 = .string x0_1 ∧ qa_ (qbs_.l0 kq x0_1 x4_1 = some (r1, r2)) ∧ qa_ (kq ≤ k) ∧ qa_ (Kd.R k108 108 w' w.heap.size (fun _ => True) v4 x4_1) ∧ qa_ (Below w.heap.size w w'))
 case atStart => exact ⟨(a0), (([] : List (S108))), z1_, H', ⟨Nat.le_refl _⟩, ⟨z6_⟩, ⟨hb_ HB.out⟩⟩
 case round =>
  clear H'; obtain ⟨x0_1, x4_1, rfl, HA, HK1, HO_4, HB⟩ := hrel
  cases gk with
  | zero => exact absurd HA.out (by simp [qbs_.l0])
  | succ k1 =>
   have H := HA.out; clear HA; simp only [qbs_.l0] at H; by_cases c2 : x0_1.toList = ([] : List UInt8)
   ·rw [if_pos c2] at H; have c2b0 := et_ c2; have c2b1 := nf_ c2; clear c2; obtain ⟨t101, A3, H⟩ := bx_ H; by_cases c4 : t101 = 0
    ·rw [if_pos c4] at H; have c4b0 := et_ c4; have c4b1 := nf_ c4; clear c4; obtain ⟨rfl, rfl⟩ := pj2_ H; obtain ⟨Ao5, co5, eo5⟩ := Kd.R_slice HO_4.out; subst eo5; go_wp2_with (first | ((with_reducible refine qb_ (f := 150) rfl ?_); refine gl_ (some 48) func150 #[.slice Ao5 x4_1.length co5] ?_; (with_reducible refine (qal_.calls k1 _ _ x4_1 t101 _ ?side1 ?side2 ?side3 A3.out).mono ?_); (case side1 => repeat (first | exact (Kd.R_reads' HO_4.out).2.2 | (with_reducible refine Kd.C_alloc ?_ _) | (with_reducible refine Kd.C_drewN ?_ _) | (with_reducible refine Kd.C_drew ?_))); (case side2 => exact (Kd.R_reads' HO_4.out).2.1); (case side3 => exact GV.below hgv (hb_ HB.out)); rintro e w6 ⟨rfl, hb⟩; refine ⟨_, rfl, ?_⟩; replace HO_4 := qa_.mk (Kd.R_below (rk_ HO_4.out) hb); replace HB := ah_ HB hb; (try clear hb); (try clear hb2); (try clear hk); (try clear hi)))
     go_ret2
     exact ⟨_, z3_, rk_ HO_4.out, hb_ HB.out⟩
    rw [if_neg c4] at H; have c4b0 := ef_ c4; have c4b1 := nt_ c4; obtain ⟨rfl, rfl⟩ := pj2_ H; obtain ⟨Ao7, co7, eo7⟩ := Kd.R_slice HO_4.out; subst eo7; go_wp2_with (first | ((with_reducible refine qb_ (f := 150) rfl ?_); refine gl_ (some 48) func150 #[.slice Ao7 x4_1.length co7] ?_; (with_reducible refine (qal_.calls k1 _ _ x4_1 t101 _ ?side1 ?side2 ?side3 A3.out).mono ?_); (case side1 => repeat (first | exact (Kd.R_reads' HO_4.out).2.2 | (with_reducible refine Kd.C_alloc ?_ _) | (with_reducible refine Kd.C_drewN ?_ _) | (with_reducible refine Kd.C_drew ?_))); (case side2 => exact (Kd.R_reads' HO_4.out).2.1); (case side3 => exact GV.below hgv (hb_ HB.out)); rintro e w8 ⟨rfl, hb⟩; refine ⟨_, rfl, ?_⟩; replace HO_4 := qa_.mk (Kd.R_below (rk_ HO_4.out) hb); replace HB := ah_ HB hb; (try clear hb); (try clear hb2); (try clear hk); (try clear hi)))
    go_ret2
    exact ⟨_, z3_, z6_, hb_ HB.out⟩
   rw [if_neg c2] at H; have c2b0 := ef_ c2; have c2b1 := nt_ c2; obtain ⟨⟨t102, t103, t104⟩, A9, H⟩ := bx_ H; dsimp only at H; by_cases c10 : t104 = 0; rotate_left
   ·rw [if_neg c10] at H; have c10b0 := ef_ c10; have c10b1 := nt_ c10; obtain ⟨rfl, rfl⟩ := pj2_ H; go_wp2_with (first | ((with_reducible refine qb_ (f := 148) rfl ?_); refine gl_ (some 16) func148 #[.string x0_1] ?_; refine cm_ (qbz_.calls k1 x0_1 t102 t103 t104 _ A9.out) ?_; rintro w' ⟨nd, rfl⟩)); go_ret2
    exact ⟨_, z3_, z6_, hb_ HB.out⟩
   rw [if_pos c10] at H; have c10b0 := et_ c10; have c10b1 := nf_ c10; clear c10; obtain ⟨⟨t105, t106, t107⟩, A11, H⟩ := bx_ H; dsimp only at H; by_cases c12 : t107 = true; rotate_left
   ·replace c12 := Bool.eq_false_iff.mpr c12; subst c12; rw [if_neg nft_] at H; obtain ⟨rfl, rfl⟩ := pj2_ H; go_wp2_with (first | ((with_reducible refine qb_ (f := 148) rfl ?_); refine gl_ (some 16) func148 #[.string x0_1] ?_; refine cm_ (qbz_.calls k1 x0_1 t102 t103 t104 _ A9.out) ?_; rintro w' ⟨nd, rfl⟩) | ((with_reducible refine qb_ (f := 82) rfl ?_); refine gl_ (some 25) func82 #[.string t103, .string ⟨#[0]⟩] ?_; (with_reducible refine (qcf_.calls t103 ⟨#[0]⟩ t105 t106 false _ ?side1 A11.out).mono ?_); (case side1 => exact GV.below hgv (hb_ HB.out)); rintro e w' ⟨rfl, ⟨nd, rfl⟩⟩; refine ⟨_, rfl, ?_⟩)); go_ret2
    exact ⟨_, z3_, z6_, hb_ HB.out⟩
   subst c12; rw [if_pos rfl] at H; by_cases c13 : (t106.size : Int) < 20
   ·rw [if_pos c13] at H; have c13b0 := dt_ c13; have c13b1 : decide (t106.size < 20) = true := decide_eq_true (by omega); clear c13; obtain ⟨rfl, rfl⟩ := pj2_ H; go_wp2_with (first | ((with_reducible refine qb_ (f := 148) rfl ?_); refine gl_ (some 16) func148 #[.string x0_1] ?_; refine cm_ (qbz_.calls k1 x0_1 t102 t103 t104 _ A9.out) ?_; rintro w' ⟨nd, rfl⟩) | ((with_reducible refine qb_ (f := 82) rfl ?_); refine gl_ (some 25) func82 #[.string t103, .string ⟨#[0]⟩] ?_; (with_reducible refine (qcf_.calls t103 ⟨#[0]⟩ t105 t106 true _ ?side1 A11.out).mono ?_); (case side1 => exact GV.below hgv (hb_ HB.out)); rintro e w' ⟨rfl, ⟨nd, rfl⟩⟩; refine ⟨_, rfl, ?_⟩)); go_ret2
    exact ⟨_, z3_, z6_, hb_ HB.out⟩
   rw [if_neg c13] at H; have c13b0 := df_ c13; have c13b1 : decide (t106.size < 20) = false := decide_eq_false (by omega); clear c13; by_cases c14 : 0 ≤ 20; rotate_left
   ·rw [if_neg c14] at H; exact no_ H
   rw [if_pos c14] at H; have c14b0 := eq_true c14; have c14b1 := dt_ c14; clear c14; by_cases c15 : 20 ≤ (t106.size : Int); rotate_left
   ·rw [if_neg c15] at H; exact no_ H
   rw [if_pos c15] at H; have c15b0 := eq_true c15; have c15b1 := dt_ c15; clear c15; obtain ⟨t108, A16, H⟩ := bx_ H; by_cases c17 : x4_1.length < 3518437208883; rotate_left
   ·rw [if_neg c17] at H; exact no_ H
   rw [if_pos c17] at H; have LMc17 := qa_.mk c17; clear c17; obtain ⟨y109, hy109⟩ : ∃ y_ : List (S108), y_ = (x4_1 ++ [(⟨t102, t105, t108⟩ : S108)]) := ⟨_, rfl⟩; replace H : (qbs_.l0 k1 (t106.extract 20 t106.size) y109) = some (r1, r2) := by first | (rw [hy109]; with_reducible exact H) | (have H2_ := (Option.bind_some _ _).symm.trans H; rw [hy109]; with_reducible exact H2_) | (have H2_ := (Option.bind_some _ _).symm.trans H; with_reducible exact H2_) | with_reducible exact H | (rw [hy109]; exact H) | exact H
   have Ny109 := qa_.mk hy109; clear hy109; have c18b0 := eq_true (y0_ : 20 ≤ (t106.size : Int)); have H' := qa_.mk H; clear H; go_wp2_with (first | ((with_reducible refine qb_ (f := 148) rfl ?_); refine gl_ (some 16) func148 #[.string x0_1] ?_; refine cm_ (qbz_.calls k1 x0_1 t102 t103 t104 _ A9.out) ?_; rintro w' ⟨nd, rfl⟩) | ((with_reducible refine qb_ (f := 82) rfl ?_); refine gl_ (some 25) func82 #[.string t103, .string ⟨#[0]⟩] ?_; (with_reducible refine (qcf_.calls t103 ⟨#[0]⟩ t105 t106 true _ ?side1 A11.out).mono ?_); (case side1 => exact GV.below hgv (hb_ HB.out)); rintro e w' ⟨rfl, ⟨nd, rfl⟩⟩; refine ⟨_, rfl, ?_⟩) | ((with_reducible refine qb_ (f := 149) rfl ?_); refine gl_ (some 41) func149 #[.string (t106.extract 0 20)] ?_; refine cm_ (qbj_.calls k1 (t106.extract 0 20) t108 _ A16.out) fun w19 hb => ?_; replace HO_4 := qa_.mk (Kd.R_below (rk_ HO_4.out) hb); replace HB := ah_ HB hb; (try clear hb); (try clear hb2); (try clear hk); (try clear hi)) | ((with_reducible refine qdp_ (b := .append) (xs := #[.tmp 36, .tmp 43]) rfl ?_); (try (refine qcy_ (by rfl) ?_; dsimp only)); at_builtin; refine Kd.R_append k108 (w0 := w) w.heap.size rfl (.tmp 36) (.tmp 43) 104 108 (.agg #[(.int .i64 0), (.string ⟨#[]⟩), (.string ⟨#[]⟩)]) 40 rfl underlying104 info108 rfl (by decide) (by omega) u4 x4_1 (⟨t102, t105, t108⟩ : S108) [.int .i64 t102, .string t105, .string t108] (fun _ => True) (fun _ => False) rfl rfl ?aP (fun _ hk => hk.elim) ?aF ?aO ?aB ?aS ?aL ?_; (case aP => exact k108_mkM _ _ _ (⟨t102, t105, t108⟩ : S108)); (case aB => exact (hb_ HB.out)); (case aF => exact (fun _ _ => trivial)); (case aO => exact (rk_ HO_4.out)); (case aS => exact (qj_ (hb_ HB.out))); (case aL => have := LMc17.out; omega); intro v110 w20 ho hb hg hat; rw [← Ny109.out] at ho; have n0_ := qa_.mk (hb); have n1_ := qa_.mk (ho); clear HB; clear HO_4; have HB := n0_; have HO111 := n1_; clear n0_ n1_; clear ho hb hg hat)); go_roundg k1
   case measure => have := HK1.out; omega
   case rel => exact ⟨(t106.extract 20 t106.size), (y109), z1_, H', ⟨by have := HK1.out; omega⟩, ⟨by (with_reducible repeat (first | apply Kd.R_alloc | apply Kd.R_drewN | apply Kd.R_drew)); exact HO111.out⟩, ⟨hb_ HB.out⟩⟩
def IsS87 (w0 W : World) (g : Nat) (f0 : ByteArray) (f1 : Int) : Prop := W.heap[g]? = some (.cells #[.string f0, .int .i64 f1] 87 (0, 0)) ∧ w0.heap.size ≤ g
theorem IsS87.grown {w0 W : World} {g : Nat} {f0 : ByteArray} {f1 : Int} {W1 : World} {row : Option Nat} (h : IsS87 w0 W g f0 f1) (hw : W.grownBy W1 row) (hne : some g ≠ row) : IsS87 w0 W1 g f0 f1 := by
 obtain ⟨hb, hg⟩ := h; exact ⟨qdd_ hb hw hne, hg⟩
theorem IsS87.fresh {w0 W : World} {g : Nat} {f0 : ByteArray} {f1 : Int} (h : IsS87 w0 W g f0 f1) : ∀ k, W.heap.size ≤ k → k ≠ g := by
 obtain ⟨hb, hg⟩ := h; exact Kd.freshB hb
theorem IsS87.kept {w0 W : World} {g : Nat} {f0 : ByteArray} {f1 : Int} {W1 : World} {S : Nat → Prop} (h : IsS87 w0 W g f0 f1) (hk : Kept W W1 S) (hne : ¬ S g) : IsS87 w0 W1 g f0 f1 := by
 obtain ⟨hb, hg⟩ := h; exact ⟨blk_kept hb hk hne, hg⟩
theorem IsS87.below {w0 W : World} {g : Nat} {f0 : ByteArray} {f1 : Int} {W1 : World} (h : IsS87 w0 W g f0 f1) (hw : Below W.heap.size W W1) : IsS87 w0 W1 g f0 f1 := h.grown (qfu_ hw none) (by simp)
theorem IsS87.alloc {w0 W : World} {g : Nat} {f0 : ByteArray} {f1 : Int} (h : IsS87 w0 W g f0 f1) (o : Obj) : IsS87 w0 (W.alloc o) g f0 f1 := h.below (qaw_ (Below.refl _ _) o)
theorem IsS87.drewN {w0 W : World} {g : Nat} {f0 : ByteArray} {f1 : Int} (h : IsS87 w0 W g f0 f1) (m : Nat) : IsS87 w0 (W.drewN m) g f0 f1 := h
theorem IsS87.drew {w0 W : World} {g : Nat} {f0 : ByteArray} {f1 : Int} (h : IsS87 w0 W g f0 f1) : IsS87 w0 W.drew g f0 f1 := h
theorem IsS87.at_ {w0 W : World} {g : Nat} {f0 : ByteArray} {f1 : Int} {w' : World} {m : Nat} (hq : W.drewN m = w') (h : IsS87 w0 W g f0 f1) : IsS87 w0 w' g f0 f1 := by subst hq; exact IsS87.drewN h m
theorem IsS87.apart {w0 W : World} {g : Nat} {f0 : ByteArray} {f1 : Int} {α : Type} {d : Kd α} {e : Nat} {base : Nat} {ok : Nat → Prop} {v : Value} {xs : List α} (h : IsS87 w0 W g f0 f1) (ho : d.R e W base ok v xs) (ht : ∀ q, q ∈ e :: d.E → q ≠ 87) : d.R e W base (fun k => ok k ∧ k ≠ g) v xs := by
 obtain ⟨hb, hg⟩ := h; exact Kd.R_types ho hb ht
theorem IsS87.own_ne {w0 W : World} {g : Nat} {f0 : ByteArray} {f1 : Int} {α : Type} {d : Kd α} {e : Nat} {base : Nat} {ok : Nat → Prop} {v : Value} {xs : List α} (h : IsS87 w0 W g f0 f1) (ho : d.R e W base ok v xs) (ht : e ≠ 87) : some g ≠ v.ownBlock := by
 obtain ⟨hb, hg⟩ := h; exact Kd.R_ne ho hb ht
theorem IsS87.lt {w0 W : World} {g : Nat} {f0 : ByteArray} {f1 : Int} (h : IsS87 w0 W g f0 f1) : g < W.heap.size := by
 obtain ⟨hb, hg⟩ := h; exact blk_lt hb
theorem IsS87.ge {w0 W : World} {g : Nat} {f0 : ByteArray} {f1 : Int} (h : IsS87 w0 W g f0 f1) : w0.heap.size ≤ g := by
 obtain ⟨hb, hg⟩ := h; exact hg
theorem IsS87.far {w0 W : World} {g : Nat} {f0 : ByteArray} {f1 : Int} {p : Addr} (h : IsS87 w0 W g f0 f1) (hne : g ≠ p.block) (u : Value) : IsS87 w0 (W.setCell p u) g f0 f1 := by
 obtain ⟨hb, hg⟩ := h; exact ⟨blk_far hb hne u, hg⟩
theorem qga_ {W : World} {g : Nat} {f0 : ByteArray} {f1 : Int} (h : W.heap[g]? = some (.cells #[.string f0, .int .i64 f1] 87 (0, 0))) : W.cell? ⟨g, 0, none⟩ = some (.string f0) := (qc_ h 0).trans rfl
theorem IsS87.set_0 {w0 W : World} {g : Nat} {f0 : ByteArray} {f1 : Int} (h : IsS87 w0 W g f0 f1) (x : ByteArray) : IsS87 w0 (W.setCell ⟨g, 0, none⟩ (.string x)) g x f1 := by
 obtain ⟨hb, hg⟩ := h; exact ⟨by simpa using blk_set hb 0 (.string x), hg⟩
theorem qfx_ {W : World} {g : Nat} {f0 : ByteArray} {f1 : Int} (h : W.heap[g]? = some (.cells #[.string f0, .int .i64 f1] 87 (0, 0))) : W.cell? ⟨g, 1, none⟩ = some (.int .i64 f1) := (qc_ h 1).trans rfl
theorem IsS87.set_1 {w0 W : World} {g : Nat} {f0 : ByteArray} {f1 : Int} (h : IsS87 w0 W g f0 f1) (x : Int) : IsS87 w0 (W.setCell ⟨g, 1, none⟩ (.int .i64 x)) g f0 x := by
 obtain ⟨hb, hg⟩ := h; exact ⟨by simpa using blk_set hb 1 (.int .i64 x), hg⟩
theorem IsS87.new (w0 W : World) (f0 : ByteArray) (f1 : Int) (hB : Below w0.heap.size w0 W) : IsS87 w0 (W.alloc (.cells #[.string f0, .int .i64 f1] 87)) W.heap.size f0 f1 := ⟨by simpa using heap_alloc_new W _, hB.size⟩
def qbt_.f (s0_0 : ByteArray) (s0_1 : Int) (a1 : Int) : Option (ByteArray × Int) := if s0_1 = 0 then (some (s0_0, a1)) else (if a1 = 2 then (some (s0_0, a1)) else (some (s0_0, s0_1)))
theorem qbt_.calls (g : Nat) (s0_0 : ByteArray) (s0_1 : Int) (a1 : Int) (r1 : ByteArray) (r2 : Int) (w0 w : World) (hI : IsS87 w0 w g s0_0 s0_1) (hB : Below w0.heap.size w0 w) (h : qbt_.f s0_0 s0_1 a1 = some (r1, r2)) :
  Calls Tryz.prog 74 #[.pointer (some ⟨g, 0, none⟩), .int .i64 a1] w fun e w' => e = .returned (.tuple #[]) ∧ IsS87 w0 w' g r1 r2 ∧ Below w0.heap.size w0 w' ∧ qaj_ w w' g none := by
 have HI0 := qa_.mk hI; have HK := qa_.mk (qaj_.refl w g none); have HL := qa_.mk hB.size; clear hI; have HW0 := qa_.mk hB.size; have HB := qa_.mk hB; clear hB; unfold qbt_.f at h; have H := h; clear h; by_cases c3 : s0_1 = 0
 ·rw [if_pos c3] at H; have c3b0 := et_ c3; have c3b1 := nf_ c3; clear c3; obtain ⟨rfl, rfl⟩ := pj2_ H; obtain ⟨HGz4, hgz4⟩ := HI0.out; have Z4_0 := qga_ HGz4; have Z4_1 := qfx_ HGz4; have F4_0 := qp_ HGz4 0; have F4_1 := qp_ HGz4 1; clear HGz4 hgz4; go_enter func74, ntmps74; go_wp2
  first | go_end0 | ((try simp only [Exit.inBlock, Exit.then]); refine bodyPost_ret (results_none rfl _ _ _) rfl ?_)
  exact ⟨z3_, z10_, z11_, z7_⟩
 rw [if_neg c3] at H; have c3b0 := ef_ c3; have c3b1 := nt_ c3; by_cases c5 : a1 = 2; rotate_left
 ·rw [if_neg c5] at H; have c5b0 := ef_ c5; have c5b1 := nt_ c5; obtain ⟨rfl, rfl⟩ := pj2_ H; obtain ⟨HGz7, hgz7⟩ := HI0.out; have Z7_0 := qga_ HGz7; have Z7_1 := qfx_ HGz7; have F7_0 := qp_ HGz7 0; have F7_1 := qp_ HGz7 1; clear HGz7 hgz7; go_enter func74, ntmps74; go_wp2
  first | go_end0 | ((try simp only [Exit.inBlock, Exit.then]); refine bodyPost_ret (results_none rfl _ _ _) rfl ?_)
  exact ⟨z3_, z10_, z11_, z7_⟩
 rw [if_pos c5] at H; have c5b0 := et_ c5; have c5b1 := nf_ c5; clear c5; obtain ⟨rfl, rfl⟩ := pj2_ H; obtain ⟨HGz6, hgz6⟩ := HI0.out; have Z6_0 := qga_ HGz6; have Z6_1 := qfx_ HGz6; have F6_0 := qp_ HGz6 0; have F6_1 := qp_ HGz6 1; clear HGz6 hgz6; go_enter func74, ntmps74; go_wp2
 first | go_end0 | ((try simp only [Exit.inBlock, Exit.then]); refine bodyPost_ret (results_none rfl _ _ _) rfl ?_)
 exact ⟨z3_, z10_, z11_, z7_⟩
def qbh_.f (s0_0 : ByteArray) (s0_1 : Int) (a1 : ByteArray) : Option (ByteArray × ByteArray × Int) := (qcf_.f s0_0 ⟨#[10]⟩).bind fun bt106 => ((qck_.f bt106.1 a1).bind fun bt109 => (if bt106.2.2 = true then (if bt109.2 = true then (some (bt109.1, bt106.2.1, s0_1)) else ((qbt_.f s0_0 s0_1 2).bind fun bt111 => (some ((⟨#[]⟩ : ByteArray), bt111.1, bt111.2)))) else ((qbt_.f s0_0 s0_1 2).bind fun bt113 => (some ((⟨#[]⟩ : ByteArray), bt113.1, bt113.2)))))
theorem qbh_.calls (g : Nat) (s0_0 : ByteArray) (s0_1 : Int) (a1 : ByteArray) (r1 : ByteArray) (r2 : ByteArray) (r3 : Int) (w0 w : World) (hI : IsS87 w0 w g s0_0 s0_1) (hB : Below w0.heap.size w0 w) (hgv : GV w0) (h : qbh_.f s0_0 s0_1 a1 = some (r1, r2, r3)) :
  Calls Tryz.prog 73 #[.pointer (some ⟨g, 0, none⟩), .string a1] w fun e w' => e = .returned (.string r1) ∧ IsS87 w0 w' g r2 r3 ∧ Below w0.heap.size w0 w' ∧ qaj_ w w' g none := by
 have HI0 := qa_.mk hI; have HK := qa_.mk (qaj_.refl w g none); have HL := qa_.mk hB.size; clear hI; have HW0 := qa_.mk hB.size; have HB := qa_.mk hB; clear hB; unfold qbh_.f at h; have H := h; clear h; obtain ⟨⟨t106, t107, t108⟩, A3, H⟩ := bx_ H; dsimp only at H; obtain ⟨⟨t109, t110⟩, A4, H⟩ := bx_ H; dsimp only at H; by_cases c5 : t108 = true; rotate_left
 ·replace c5 := Bool.eq_false_iff.mpr c5; subst c5; rw [if_neg nft_] at H; obtain ⟨⟨t113, t114⟩, A11, H⟩ := bx_ H; dsimp only at H; obtain ⟨rfl, rfl, rfl⟩ := pj3_ H; obtain ⟨HGz12, hgz12⟩ := HI0.out; have Z12_0 := qga_ HGz12; have Z12_1 := qfx_ HGz12; have F12_0 := qp_ HGz12 0; have F12_1 := qp_ HGz12 1; clear HGz12 hgz12; go_enter func73, ntmps73; go_wp2_with (first | ((with_reducible refine qb_ (f := 82) rfl ?_); refine gl_ (some 15) func82 #[.string s0_0, .string ⟨#[10]⟩] ?_; (with_reducible refine (qcf_.calls s0_0 ⟨#[10]⟩ t106 t107 false _ ?side1 A3.out).mono ?_); (case side1 => exact GV.below hgv z11_); rintro e w' ⟨rfl, ⟨nd, rfl⟩⟩; refine ⟨_, rfl, ?_⟩) | ((with_reducible refine qb_ (f := 142) rfl ?_); refine gl_ (some 22) func142 #[.string t106, .string a1] ?_; refine cm_ (qck_.calls t106 a1 t109 t110 _ A4.out) ?_; rintro w' ⟨nd, rfl⟩) | ((with_reducible refine qb_ (f := 74) rfl ?_); refine gl_ (some 32) func74 #[.pointer (some ⟨g, 0, none⟩), .int .i64 2] ?_; (with_reducible refine (qbt_.calls g s0_0 s0_1 2 t113 t114 w0 _ ?side1 ?side2 A11.out).mono ?_); (case side1 => repeat (first | (with_reducible first | exact HI0.out | apply IsS87.alloc | apply IsS87.drewN | apply IsS87.drew | apply IsS87.set_0 | apply IsS87.set_1) | exact HI0.out)); (case side2 => repeat (first | (with_reducible first | exact HB.out | apply qaw_ | apply qay_ | apply qbu_ | refine qz_ ?_ (IsS87.ge HI0.out)) | exact HB.out)); rintro e w13 ⟨rfl, hi, hb, hk⟩; refine ⟨_, rfl, ?_⟩; replace HK := qa_.mk (qaj_.trans z7_ hk (.inl rfl)); replace HB := qa_.mk (hb); replace HI0 := qa_.mk (hi); (try clear hb); (try clear hb2); (try clear hk); (try clear hi)))
  go_ret
  exact ⟨z3_, z10_, z11_, z7_⟩
 subst c5; rw [if_pos rfl] at H; by_cases c6 : t110 = true
 ·subst c6; rw [if_pos rfl] at H; obtain ⟨rfl, rfl, rfl⟩ := pj3_ H; obtain ⟨HGz7, hgz7⟩ := HI0.out; have Z7_0 := qga_ HGz7; have Z7_1 := qfx_ HGz7; have F7_0 := qp_ HGz7 0; have F7_1 := qp_ HGz7 1; clear HGz7 hgz7; go_enter func73, ntmps73; go_wp2_with (first | ((with_reducible refine qb_ (f := 82) rfl ?_); refine gl_ (some 15) func82 #[.string s0_0, .string ⟨#[10]⟩] ?_; (with_reducible refine (qcf_.calls s0_0 ⟨#[10]⟩ t106 t107 true _ ?side1 A3.out).mono ?_); (case side1 => exact GV.below hgv z11_); rintro e w' ⟨rfl, ⟨nd, rfl⟩⟩; refine ⟨_, rfl, ?_⟩) | ((with_reducible refine qb_ (f := 142) rfl ?_); refine gl_ (some 22) func142 #[.string t106, .string a1] ?_; refine cm_ (qck_.calls t106 a1 t109 true _ A4.out) ?_; rintro w' ⟨nd, rfl⟩)); go_ret
  exact ⟨z3_, z10_, z11_, z7_⟩
 replace c6 := Bool.eq_false_iff.mpr c6; subst c6; rw [if_neg nft_] at H; obtain ⟨⟨t111, t112⟩, A8, H⟩ := bx_ H; dsimp only at H; obtain ⟨rfl, rfl, rfl⟩ := pj3_ H; obtain ⟨HGz9, hgz9⟩ := HI0.out; have Z9_0 := qga_ HGz9; have Z9_1 := qfx_ HGz9; have F9_0 := qp_ HGz9 0; have F9_1 := qp_ HGz9 1; clear HGz9 hgz9; go_enter func73, ntmps73; go_wp2_with (first | ((with_reducible refine qb_ (f := 82) rfl ?_); refine gl_ (some 15) func82 #[.string s0_0, .string ⟨#[10]⟩] ?_; (with_reducible refine (qcf_.calls s0_0 ⟨#[10]⟩ t106 t107 true _ ?side1 A3.out).mono ?_); (case side1 => exact GV.below hgv z11_); rintro e w' ⟨rfl, ⟨nd, rfl⟩⟩; refine ⟨_, rfl, ?_⟩) | ((with_reducible refine qb_ (f := 142) rfl ?_); refine gl_ (some 22) func142 #[.string t106, .string a1] ?_; refine cm_ (qck_.calls t106 a1 t109 false _ A4.out) ?_; rintro w' ⟨nd, rfl⟩) | ((with_reducible refine qb_ (f := 74) rfl ?_); refine gl_ (some 32) func74 #[.pointer (some ⟨g, 0, none⟩), .int .i64 2] ?_; (with_reducible refine (qbt_.calls g s0_0 s0_1 2 t111 t112 w0 _ ?side1 ?side2 A8.out).mono ?_); (case side1 => repeat (first | (with_reducible first | exact HI0.out | apply IsS87.alloc | apply IsS87.drewN | apply IsS87.drew | apply IsS87.set_0 | apply IsS87.set_1) | exact HI0.out)); (case side2 => repeat (first | (with_reducible first | exact HB.out | apply qaw_ | apply qay_ | apply qbu_ | refine qz_ ?_ (IsS87.ge HI0.out)) | exact HB.out)); rintro e w10 ⟨rfl, hi, hb, hk⟩; refine ⟨_, rfl, ?_⟩; replace HK := qa_.mk (qaj_.trans z7_ hk (.inl rfl)); replace HB := qa_.mk (hb); replace HI0 := qa_.mk (hi); (try clear hb); (try clear hb2); (try clear hk); (try clear hi)))
 go_ret
 exact ⟨z3_, z10_, z11_, z7_⟩
def qbq_.f (k : Nat) (s0_0 : ByteArray) (s0_1 : Int) (a1 : ByteArray) : Option (ByteArray × ByteArray × Int) := (qbh_.f s0_0 s0_1 a1).bind fun bt101 => ((qdc_.f k bt101.1).bind fun t104 => (if t104 = true then (some (bt101.1, bt101.2.1, bt101.2.2)) else ((qbt_.f bt101.2.1 bt101.2.2 2).bind fun bt105 => (some (bt101.1, bt105.1, bt105.2)))))
theorem qbq_.mono : ∀ a0 a1 a2 k, LeO (qbq_.f k a0 a1 a2) (qbq_.f (k + 1) a0 a1 a2) := by
 intro a0 a1 a2 k; unfold qbq_.f; have m0_ := @qdc_.mono; exact mz_
theorem qbq_.calls (k : Nat) (g : Nat) (s0_0 : ByteArray) (s0_1 : Int) (a1 : ByteArray) (r1 : ByteArray) (r2 : ByteArray) (r3 : Int) (w0 w : World) (hI : IsS87 w0 w g s0_0 s0_1) (hB : Below w0.heap.size w0 w) (hgv : GV w0) (h : qbq_.f k s0_0 s0_1 a1 = some (r1, r2, r3)) :
  Calls Tryz.prog 70 #[.pointer (some ⟨g, 0, none⟩), .string a1] w fun e w' => e = .returned (.string r1) ∧ IsS87 w0 w' g r2 r3 ∧ Below w0.heap.size w0 w' ∧ qaj_ w w' g none := by
 have HI0 := qa_.mk hI; have HK := qa_.mk (qaj_.refl w g none); have HL := qa_.mk hB.size; clear hI; have HW0 := qa_.mk hB.size; have HB := qa_.mk hB; clear hB; unfold qbq_.f at h; have H := h; clear h; obtain ⟨⟨t101, t102, t103⟩, A3, H⟩ := bx_ H; dsimp only at H; obtain ⟨t104, A4, H⟩ := bx_ H; by_cases c5 : t104 = true
 ·subst c5; rw [if_pos rfl] at H; obtain ⟨rfl, rfl, rfl⟩ := pj3_ H; go_enter func70, ntmps70; go_wp2_with (first | ((with_reducible refine qb_ (f := 73) rfl ?_); refine gl_ (some 8) func73 #[.pointer (some ⟨g, 0, none⟩), .string a1] ?_; (with_reducible refine (qbh_.calls g s0_0 s0_1 a1 t101 t102 t103 w0 _ ?side1 ?side2 ?side3 A3.out).mono ?_); (case side1 => repeat (first | (with_reducible first | exact HI0.out | apply IsS87.alloc | apply IsS87.drewN | apply IsS87.drew | apply IsS87.set_0 | apply IsS87.set_1) | exact HI0.out)); (case side2 => repeat (first | (with_reducible first | exact HB.out | apply qaw_ | apply qay_ | apply qbu_ | refine qz_ ?_ (IsS87.ge HI0.out)) | exact HB.out)); (case side3 => exact hgv); rintro e w6 ⟨rfl, hi, hb, hk⟩; refine ⟨_, rfl, ?_⟩; replace HK := qa_.mk (qaj_.trans z7_ hk (.inl rfl)); replace HB := qa_.mk (hb); replace HI0 := qa_.mk (hi); (try clear hb); (try clear hb2); (try clear hk); (try clear hi)) | ((with_reducible refine qb_ (f := 65) rfl ?_); refine gl_ (some 10) func65 #[.string t101] ?_; refine cm_ (qdc_.calls k t101 true _ A4.out) ?_; rintro w' ⟨nd, rfl⟩)); go_ret
  exact ⟨z3_, z10_, z11_, z7_⟩
 replace c5 := Bool.eq_false_iff.mpr c5; subst c5; rw [if_neg nft_] at H; obtain ⟨⟨t105, t106⟩, A7, H⟩ := bx_ H; dsimp only at H; obtain ⟨rfl, rfl, rfl⟩ := pj3_ H; go_enter func70, ntmps70; go_wp2_with (first | ((with_reducible refine qb_ (f := 73) rfl ?_); refine gl_ (some 8) func73 #[.pointer (some ⟨g, 0, none⟩), .string a1] ?_; (with_reducible refine (qbh_.calls g s0_0 s0_1 a1 t101 t102 t103 w0 _ ?side1 ?side2 ?side3 A3.out).mono ?_); (case side1 => repeat (first | (with_reducible first | exact HI0.out | apply IsS87.alloc | apply IsS87.drewN | apply IsS87.drew | apply IsS87.set_0 | apply IsS87.set_1) | exact HI0.out)); (case side2 => repeat (first | (with_reducible first | exact HB.out | apply qaw_ | apply qay_ | apply qbu_ | refine qz_ ?_ (IsS87.ge HI0.out)) | exact HB.out)); (case side3 => exact hgv); rintro e w8 ⟨rfl, hi, hb, hk⟩; refine ⟨_, rfl, ?_⟩; replace HK := qa_.mk (qaj_.trans z7_ hk (.inl rfl)); replace HB := qa_.mk (hb); replace HI0 := qa_.mk (hi); (try clear hb); (try clear hb2); (try clear hk); (try clear hi)) | ((with_reducible refine qb_ (f := 65) rfl ?_); refine gl_ (some 10) func65 #[.string t101] ?_; refine cm_ (qdc_.calls k t101 false _ A4.out) ?_; rintro w' ⟨nd, rfl⟩) | ((with_reducible refine qb_ (f := 74) rfl ?_); refine gl_ (some 13) func74 #[.pointer (some ⟨g, 0, none⟩), .int .i64 2] ?_; (with_reducible refine (qbt_.calls g t102 t103 2 t105 t106 w0 _ ?side1 ?side2 A7.out).mono ?_); (case side1 => repeat (first | (with_reducible first | exact HI0.out | apply IsS87.alloc | apply IsS87.drewN | apply IsS87.drew | apply IsS87.set_0 | apply IsS87.set_1) | exact HI0.out)); (case side2 => repeat (first | (with_reducible first | exact HB.out | apply qaw_ | apply qay_ | apply qbu_ | refine qz_ ?_ (IsS87.ge HI0.out)) | exact HB.out)); rintro e w9 ⟨rfl, hi, hb, hk⟩; refine ⟨_, rfl, ?_⟩; replace HK := qa_.mk (qaj_.trans z7_ hk (.inl rfl)); replace HB := qa_.mk (hb); replace HI0 := qa_.mk (hi); (try clear hb); (try clear hb2); (try clear hk); (try clear hi)))
 go_ret
 exact ⟨z3_, z10_, z11_, z7_⟩
mutual
def qaf_.j0 : Nat → ByteArray → Bool → Option (Bool)
 | 0, _, _ => none
 | k + 1, x0, x24 => if x24 = true then (some false) else (qaf_.l0 k x0 (x0.size : Int) 0)
def qaf_.l0 : Nat → ByteArray → Int → Int → Option (Bool)
 | 0, _, _, _ => none
 | k + 1, x0, x26, x27 => if x27 < x26 then (if 0 ≤ x27 then (if x27 < (x0.size : Int) then (if (bt x0 x27) < 32 then (some false) else (if (bt x0 x27) = 60 then (some false) else (if (bt x0 x27) = 62 then (some false) else (qaf_.l0 k x0 x26 (wrap64 (x27 + 1)))))) else (none)) else (none)) else (some true)
end
def qaf_.f (k : Nat) (a0 : ByteArray) : Option (Bool) := if (a0.size : Int) < 1 then (qaf_.j0 k a0 true) else (if (a0.size : Int) > 64 then (qaf_.j0 k a0 true) else (if 0 < (a0.size : Int) then (if (bt a0 0) = 32 then (qaf_.j0 k a0 true) else (if 0 ≤ (wrap64 ((a0.size : Int) - 1)) then (if (wrap64 ((a0.size : Int) - 1)) < (a0.size : Int) then (qaf_.j0 k a0 ((bt a0 (wrap64 ((a0.size : Int) - 1))) == 32)) else (none)) else (none))) else (none)))
theorem qaf_.mono_l : ∀ k, (∀ y0 y1, LeO (qaf_.j0 k y0 y1) (qaf_.j0 (k + 1) y0 y1)) ∧ (∀ y0 y1 y2, LeO (qaf_.l0 k y0 y1 y2) (qaf_.l0 (k + 1) y0 y1 y2))
 | 0 => ⟨fun _ _ r h => by simp [qaf_.j0] at h, fun _ _ _ r h => by simp [qaf_.l0] at h⟩
 | k + 1 => by
  obtain ⟨ih0, ih1⟩ := qaf_.mono_l k
  refine ⟨?_, ?_⟩
  ·intro y0 y1
   unfold qaf_.j0
   have m0_ := @ih0
   have m1_ := @ih1
   exact mz_
  ·intro y0 y1 y2
   unfold qaf_.l0
   have m0_ := @ih0
   have m1_ := @ih1
   exact mz_
theorem qaf_.mono : ∀ a0 k, LeO (qaf_.f k a0) (qaf_.f (k + 1) a0) := by
 intro a0 k; obtain ⟨ih0, ih1⟩ := qaf_.mono_l k; unfold qaf_.f; have m0_ := @ih0; have m1_ := @ih1; exact mz_
theorem qaf_.calls (k : Nat) (a0 : ByteArray) (r : Bool) (w : World) (h : qaf_.f k a0 = some r) :
  Calls Tryz.prog 139 #[.string a0] w fun e w' => e = .returned (.bool r) ∧ Drawn0 w w' := by
 unfold qaf_.f at h; have H := h; clear h; have HC2 := qa_.mk H; clear H; go_enter func139, ntmps139; go_upto_region 1 with (fail)
 go_cut [24] (fun v24 wc => ∃ (kq : Nat) (x24_1 : Bool), v24 = .bool x24_1 ∧ qa_ (qaf_.j0 kq a0 x24_1 = some r) ∧ qa_ (kq ≤ k) ∧ Drawn0 w wc)
 case first =>
  have H := HC2.out; clear HC2; by_cases c3 : (a0.size : Int) < 1
  ·rw [if_pos c3] at H; have c3b0 := dt_ c3; have c3b1 : decide (a0.size < 1) = true := decide_eq_true (by omega); clear c3; (first | rw [c3b0] | (simp only [i64_w, i32_w]; rw [c3b0]) | skip); have H' := qa_.mk H; clear H; go_wp2
   go_meet
   case rel => exact ⟨_, (true), z1_, H', ⟨z4_⟩, z2_⟩
  rw [if_neg c3] at H; have c3b0 := df_ c3; have c3b1 : decide (a0.size < 1) = false := decide_eq_false (by omega); clear c3; (first | rw [c3b0] | (simp only [i64_w, i32_w]; rw [c3b0]) | skip); by_cases c4 : (a0.size : Int) > 64
  ·rw [if_pos c4] at H; have c4b0 := dt_ c4; have c4b1 : decide (64 < a0.size) = true := decide_eq_true (by omega); clear c4; have H' := qa_.mk H; clear H; go_wp2
   go_meet
   case rel => exact ⟨_, (true), z1_, H', ⟨z4_⟩, z2_⟩
  rw [if_neg c4] at H; have c4b0 := df_ c4; have c4b1 : decide (64 < a0.size) = false := decide_eq_false (by omega); clear c4; by_cases c5 : 0 < (a0.size : Int); rotate_left
  ·rw [if_neg c5] at H; exact no_ H
  rw [if_pos c5] at H; have c5b0 := dt_ c5; have c5b1 : decide (0 < a0.size) = true := decide_eq_true (by omega); clear c5; by_cases c7 : (bt a0 0) = 32
  ·rw [if_pos c7] at H; have c7b0 := et_ c7; have c7b1 := nf_ c7; clear c7; have H' := qa_.mk H; clear H; have p6 : 0 ≤ (0 : Int) := (by omega); have q6 : 0 < a0.size := (by have : (0 : Int) < (a0.size : Int) := y0_; omega)
   have hx6 : ∀ h : 0 < a0.size, ((a0[0]'h).toNat : Int) = bt a0 0 := bt_at a0 0; clear p6; have qi6 : (0 < (a0.size : Int)) = True := eq_true (y0_); replace q6 := eq_true q6; go_wp2
   go_meet
   case rel => exact ⟨_, (true), z1_, H', ⟨z4_⟩, z2_⟩
  rw [if_neg c7] at H; have c7b0 := ef_ c7; have c7b1 := nt_ c7; obtain ⟨ji8, hji8⟩ : ∃ j_ : Int, (wrap64 ((a0.size : Int) - 1)) = j_ := ⟨_, rfl⟩; replace H : (if 0 ≤ (ji8) then (if (ji8) < (a0.size : Int) then (qaf_.j0 k a0 ((bt a0 (ji8)) == 32)) else (none)) else (none)) = some r := by first | (rw [hji8] at H; exact H) | (simp only [hji8] at H ⊢; exact H)
  have hji8w : (IntKind.i64.wrap ((a0.size : Int) - 1)) = ji8 := (i64_w _).trans hji8; by_cases c9 : 0 ≤ (ji8); rotate_left
  ·rw [if_neg c9] at H; exact no_ H
  rw [if_pos c9] at H; have c9b0 := dt_ c9; clear c9; by_cases c10 : (ji8) < (a0.size : Int); rotate_left
  ·rw [if_neg c10] at H; exact no_ H
  rw [if_pos c10] at H; have c10b0 := dt_ c10; clear c10; have H' := qa_.mk H; clear H; have p6 : 0 ≤ (0 : Int) := (by omega); have q6 : 0 < a0.size := (by have : (0 : Int) < (a0.size : Int) := y0_; omega)
  have hx6 : ∀ h : 0 < a0.size, ((a0[0]'h).toNat : Int) = bt a0 0 := bt_at a0 0; clear p6; have qi6 : (0 < (a0.size : Int)) = True := eq_true (y0_); replace q6 := eq_true q6; have p11 : 0 ≤ ((ji8) : Int) := y0_; have q11 : (ji8) < (a0.size : Int) := y0_; have hx11 := bt_at a0 (ji8); replace p11 := eq_true p11; replace q11 := eq_true q11; go_wp2
  go_meet
  case rel => exact ⟨_, (((bt a0 (ji8)) == 32)), (by first | rfl | (simp; done) | (simp only [← hji8] <;> (first | rfl | simp)) | (simp [*]; done)), H', ⟨z4_⟩, z2_⟩
 case rest =>
  clear HC2; try clear c1
  try clear p1
  try clear q1
  try clear hx1
  try clear p2
  try clear c3
  try clear c3b0
  try clear c3b1
  try clear c4
  try clear c4b0
  try clear c4b1
  try clear c5
  try clear c5b0
  try clear c5b1
  try clear p6
  try clear q6
  try clear hx6
  try clear qi6
  try clear c7
  try clear c7b0
  try clear c7b1
  try clear c9
  try clear c9b0
  try clear c10
  try clear c10b0
  try clear p11
  try clear q11
  try clear hx11
  try clear p11
  try clear p6
  try clear q11
  try clear q6
  obtain ⟨kq, x24_1, rfl, HA, HJ1, ⟨mc1, rfl⟩⟩ := hcut
  cases kq with
  | zero => exact absurd HA.out (by simp [qaf_.j0])
  | succ kj1 =>
   have H := HA.out; clear HA; simp only [qaf_.j0] at H; by_cases c12 : x24_1 = true
   ·subst c12; rw [if_pos rfl] at H; obtain rfl := oi_ H; go_wp2
    go_ret
    exact ⟨z1_, z2_⟩
   replace c12 := Bool.eq_false_iff.mpr c12; subst c12; rw [if_neg nft_] at H; have H' := qa_.mk H; clear H; go_wp2
   go_loopg [27] kj1 (fun kq v27 w' => ∃ (x27_2 : Int), v27 = .int .i64 x27_2 ∧ qa_ (qaf_.l0 kq a0 (a0.size : Int) x27_2 = some r) ∧ qa_ (kq ≤ kj1) ∧ Drawn0 w w')
   case atStart => exact ⟨(0), z1_, H', ⟨Nat.le_refl _⟩, z2_⟩
   case round =>
    clear H'; try clear c1
    try clear p1
    try clear q1
    try clear hx1
    try clear p2
    try clear c3
    try clear c3b0
    try clear c3b1
    try clear c4
    try clear c4b0
    try clear c4b1
    try clear c5
    try clear c5b0
    try clear c5b1
    try clear p6
    try clear q6
    try clear hx6
    try clear qi6
    try clear c7
    try clear c7b0
    try clear c7b1
    try clear c9
    try clear c9b0
    try clear c10
    try clear c10b0
    try clear p11
    try clear q11
    try clear hx11
    try clear c12
    try clear p1
    try clear p11
    try clear p2
    try clear p6
    try clear q1
    try clear q11
    try clear q6
    obtain ⟨x27_2, rfl, HA, HK2, ⟨m2, rfl⟩⟩ := hrel
    cases gk with
    | zero => exact absurd HA.out (by simp [qaf_.l0])
    | succ k2 =>
     have H := HA.out; clear HA; simp only [qaf_.l0] at H; by_cases c13 : x27_2 < (a0.size : Int); rotate_left
     ·rw [if_neg c13] at H; have c13b0 := df_ c13; clear c13; obtain rfl := oi_ H; go_wp2
      go_ret
      exact ⟨z1_, z2_⟩
     rw [if_pos c13] at H; have c13b0 := dt_ c13; clear c13; by_cases c14 : 0 ≤ x27_2; rotate_left
     ·rw [if_neg c14] at H; exact no_ H
     rw [if_pos c14] at H; have c14b0 := dt_ c14; clear c14; by_cases c15 : x27_2 < (a0.size : Int); rotate_left
     ·rw [if_neg c15] at H; exact no_ H
     rw [if_pos c15] at H; have c15b0 := dt_ c15; clear c15; by_cases c17 : (bt a0 x27_2) < 32
     ·rw [if_pos c17] at H; have c17b0 := dt_ c17; clear c17; obtain rfl := oi_ H; have p16 : 0 ≤ (x27_2 : Int) := y0_; have q16 : x27_2 < (a0.size : Int) := y0_; have hx16 := bt_at a0 x27_2; replace p16 := eq_true p16; replace q16 := eq_true q16; go_wp2
      go_ret
      exact ⟨z1_, z2_⟩
     rw [if_neg c17] at H; have c17b0 := df_ c17; clear c17; by_cases c19 : (bt a0 x27_2) = 60
     ·rw [if_pos c19] at H; have c19b0 := et_ c19; have c19b1 := nf_ c19; clear c19; obtain rfl := oi_ H; have p16 : 0 ≤ (x27_2 : Int) := y0_; have q16 : x27_2 < (a0.size : Int) := y0_; have hx16 := bt_at a0 x27_2; replace p16 := eq_true p16; replace q16 := eq_true q16; have p18 : 0 ≤ (x27_2 : Int) := y0_; have q18 : x27_2 < (a0.size : Int) := y0_; have hx18 := bt_at a0 x27_2; replace p18 := eq_true p18; replace q18 := eq_true q18; go_wp2
      go_ret
      exact ⟨z1_, z2_⟩
     rw [if_neg c19] at H; have c19b0 := ef_ c19; have c19b1 := nt_ c19; by_cases c21 : (bt a0 x27_2) = 62
     ·rw [if_pos c21] at H; have c21b0 := et_ c21; have c21b1 := nf_ c21; clear c21; obtain rfl := oi_ H; have p16 : 0 ≤ (x27_2 : Int) := y0_; have q16 : x27_2 < (a0.size : Int) := y0_; have hx16 := bt_at a0 x27_2; replace p16 := eq_true p16; replace q16 := eq_true q16; have p18 : 0 ≤ (x27_2 : Int) := y0_; have q18 : x27_2 < (a0.size : Int) := y0_; have hx18 := bt_at a0 x27_2; replace p18 := eq_true p18; replace q18 := eq_true q18; have p20 : 0 ≤ (x27_2 : Int) := y0_; have q20 : x27_2 < (a0.size : Int) := y0_; have hx20 := bt_at a0 x27_2; replace p20 := eq_true p20; replace q20 := eq_true q20; go_wp2
      go_ret
      exact ⟨z1_, z2_⟩
     rw [if_neg c21] at H; have c21b0 := ef_ c21; have c21b1 := nt_ c21; have H' := qa_.mk H; clear H; have p16 : 0 ≤ (x27_2 : Int) := y0_; have q16 : x27_2 < (a0.size : Int) := y0_; have hx16 := bt_at a0 x27_2; replace p16 := eq_true p16; replace q16 := eq_true q16; have p18 : 0 ≤ (x27_2 : Int) := y0_; have q18 : x27_2 < (a0.size : Int) := y0_; have hx18 := bt_at a0 x27_2; replace p18 := eq_true p18; replace q18 := eq_true q18; have p20 : 0 ≤ (x27_2 : Int) := y0_; have q20 : x27_2 < (a0.size : Int) := y0_; have hx20 := bt_at a0 x27_2; replace p20 := eq_true p20; replace q20 := eq_true q20; go_wp2
     go_roundg k2
     case measure => have := HJ1.out; have := HK2.out; omega
     case rel => exact ⟨(wrap64 (x27_2 + 1)), z1_, H', ⟨by have := HJ1.out; have := HK2.out; omega⟩, z2_⟩
def qbf_.f (k : Nat) (a0_0 : ByteArray) (a0_1 : ByteArray) (a0_2 : Int) (a0_3 : Int) : Option (Bool) := (qaf_.f k a0_0).bind fun t105 => (if t105 = true then ((qaf_.f k a0_1).bind fun t106 => (if t106 = true then (if a0_2 ≥ 0 then (if a0_2 ≤ 1099511627776 then (if a0_3 ≥ (-840) then (some (decide (a0_3 ≤ 840))) else (some false)) else (some false)) else (some false)) else (some false))) else (some false))
theorem qbf_.mono : ∀ a0 a1 a2 a3 k, LeO (qbf_.f k a0 a1 a2 a3) (qbf_.f (k + 1) a0 a1 a2 a3) := by
 intro a0 a1 a2 a3 k; unfold qbf_.f; have m0_ := @qaf_.mono; exact mz_
theorem qbf_.calls (k : Nat) (a0_0 : ByteArray) (a0_1 : ByteArray) (a0_2 : Int) (a0_3 : Int) (r : Bool) (w : World) (h : qbf_.f k a0_0 a0_1 a0_2 a0_3 = some r) :
  Calls Tryz.prog 67 #[.agg #[.string a0_0, .string a0_1, .int .i64 a0_2, .int .i64 a0_3]] w fun e w' => e = .returned (.bool r) ∧ Below w.heap.size w w' := by
 have hu24 := underlying24; have HB := qa_.mk (Below.refl w.heap.size w); unfold qbf_.f at h; have H := h; clear h; obtain ⟨t105, A2, H⟩ := bx_ H; by_cases c3 : t105 = true; rotate_left
 ·replace c3 := Bool.eq_false_iff.mpr c3; subst c3; rw [if_neg nft_] at H; obtain rfl := oi_ H; go_enter func67, ntmps67; go_wp2_with (first | ((with_reducible refine qh_ (N := 1) rfl ?_); refine be_ (cs := #[.string a0_0, .string a0_1, .int .i64 a0_2, .int .i64 a0_3]) (t := 24) ?_; intro g104 hg w19 hbox hb; have K104 := qa_.mk (hbox); have W104 := ag_ hg HB; have E104 := ag_ hg HB; replace HB := ah_ HB hb; clear hb hbox hg; obtain ⟨Z20_0, Z20_1, Z20_2, Z20_3, F20⟩ := bc4 K104.out) | ((with_reducible refine qb_ (f := 139) rfl ?_); refine gl_ (some 5) func139 #[.string a0_0] ?_; refine cm_ (qaf_.calls k a0_0 false _ A2.out) ?_; rintro w' ⟨nd, rfl⟩)); go_ret
  exact ⟨z3_, hs_⟩
 subst c3; rw [if_pos rfl] at H; obtain ⟨t106, A4, H⟩ := bx_ H; by_cases c5 : t106 = true; rotate_left
 ·replace c5 := Bool.eq_false_iff.mpr c5; subst c5; rw [if_neg nft_] at H; obtain rfl := oi_ H; go_enter func67, ntmps67; have tk9_ : True := trivial; have tk10_ : True := trivial; go_wp2_with (first | ((with_reducible refine qh_ (N := 1) rfl ?_); refine be_ (cs := #[.string a0_0, .string a0_1, .int .i64 a0_2, .int .i64 a0_3]) (t := 24) ?_; intro g104 hg w17 hbox hb; have K104 := qa_.mk (hbox); have W104 := ag_ hg HB; have E104 := ag_ hg HB; replace HB := ah_ HB hb; clear hb hbox hg; obtain ⟨Z18_0, Z18_1, Z18_2, Z18_3, F18⟩ := bc4 K104.out) | (have _t := tk9_; (with_reducible refine qb_ (f := 139) rfl ?_); refine gl_ (some 5) func139 #[.string a0_0] ?_; refine cm_ (qaf_.calls k a0_0 true _ A2.out) ?_; rintro w' ⟨nd, rfl⟩; clear tk9_) | (go_at_call 139; have _t := tk10_; (with_reducible refine (qaf_.calls k a0_1 false _ A4.out).mono ?_); rintro e w' ⟨rfl, ⟨nd, rfl⟩⟩; clear tk10_)); go_ret
  exact ⟨z3_, hs_⟩
 subst c5; rw [if_pos rfl] at H; by_cases c6 : a0_2 ≥ 0; rotate_left
 ·rw [if_neg c6] at H; have c6b0 := df_ c6; clear c6; obtain rfl := oi_ H; go_enter func67, ntmps67; have tk7_ : True := trivial; have tk8_ : True := trivial; go_wp2_with (first | ((with_reducible refine qh_ (N := 1) rfl ?_); refine be_ (cs := #[.string a0_0, .string a0_1, .int .i64 a0_2, .int .i64 a0_3]) (t := 24) ?_; intro g104 hg w15 hbox hb; have K104 := qa_.mk (hbox); have W104 := ag_ hg HB; have E104 := ag_ hg HB; replace HB := ah_ HB hb; clear hb hbox hg; obtain ⟨Z16_0, Z16_1, Z16_2, Z16_3, F16⟩ := bc4 K104.out) | (have _t := tk7_; (with_reducible refine qb_ (f := 139) rfl ?_); refine gl_ (some 5) func139 #[.string a0_0] ?_; refine cm_ (qaf_.calls k a0_0 true _ A2.out) ?_; rintro w' ⟨nd, rfl⟩; clear tk7_) | (go_at_call 139; have _t := tk8_; (with_reducible refine (qaf_.calls k a0_1 true _ A4.out).mono ?_); rintro e w' ⟨rfl, ⟨nd, rfl⟩⟩; clear tk8_)); go_ret
  exact ⟨z3_, hs_⟩
 rw [if_pos c6] at H; have c6b0 := dt_ c6; clear c6; by_cases c7 : a0_2 ≤ 1099511627776; rotate_left
 ·rw [if_neg c7] at H; have c7b0 := df_ c7; clear c7; obtain rfl := oi_ H; go_enter func67, ntmps67; have tk5_ : True := trivial; have tk6_ : True := trivial; go_wp2_with (first | ((with_reducible refine qh_ (N := 1) rfl ?_); refine be_ (cs := #[.string a0_0, .string a0_1, .int .i64 a0_2, .int .i64 a0_3]) (t := 24) ?_; intro g104 hg w13 hbox hb; have K104 := qa_.mk (hbox); have W104 := ag_ hg HB; have E104 := ag_ hg HB; replace HB := ah_ HB hb; clear hb hbox hg; obtain ⟨Z14_0, Z14_1, Z14_2, Z14_3, F14⟩ := bc4 K104.out) | (have _t := tk5_; (with_reducible refine qb_ (f := 139) rfl ?_); refine gl_ (some 5) func139 #[.string a0_0] ?_; refine cm_ (qaf_.calls k a0_0 true _ A2.out) ?_; rintro w' ⟨nd, rfl⟩; clear tk5_) | (go_at_call 139; have _t := tk6_; (with_reducible refine (qaf_.calls k a0_1 true _ A4.out).mono ?_); rintro e w' ⟨rfl, ⟨nd, rfl⟩⟩; clear tk6_)); go_ret
  exact ⟨z3_, hs_⟩
 rw [if_pos c7] at H; have c7b0 := dt_ c7; clear c7; by_cases c8 : a0_3 ≥ (-840)
 ·rw [if_pos c8] at H; have c8b0 := dt_ c8; clear c8; obtain rfl := oi_ H; go_enter func67, ntmps67; have tk1_ : True := trivial; have tk2_ : True := trivial; go_wp2_with (first | ((with_reducible refine qh_ (N := 1) rfl ?_); refine be_ (cs := #[.string a0_0, .string a0_1, .int .i64 a0_2, .int .i64 a0_3]) (t := 24) ?_; intro g104 hg w9 hbox hb; have K104 := qa_.mk (hbox); have W104 := ag_ hg HB; have E104 := ag_ hg HB; replace HB := ah_ HB hb; clear hb hbox hg; obtain ⟨Z10_0, Z10_1, Z10_2, Z10_3, F10⟩ := bc4 K104.out) | (have _t := tk1_; (with_reducible refine qb_ (f := 139) rfl ?_); refine gl_ (some 5) func139 #[.string a0_0] ?_; refine cm_ (qaf_.calls k a0_0 true _ A2.out) ?_; rintro w' ⟨nd, rfl⟩; clear tk1_) | (go_at_call 139; have _t := tk2_; (with_reducible refine (qaf_.calls k a0_1 true _ A4.out).mono ?_); rintro e w' ⟨rfl, ⟨nd, rfl⟩⟩; clear tk2_)); go_ret
  exact ⟨z3_, hs_⟩
 rw [if_neg c8] at H; have c8b0 := df_ c8; clear c8; obtain rfl := oi_ H; go_enter func67, ntmps67; have tk3_ : True := trivial; have tk4_ : True := trivial; go_wp2_with (first | ((with_reducible refine qh_ (N := 1) rfl ?_); refine be_ (cs := #[.string a0_0, .string a0_1, .int .i64 a0_2, .int .i64 a0_3]) (t := 24) ?_; intro g104 hg w11 hbox hb; have K104 := qa_.mk (hbox); have W104 := ag_ hg HB; have E104 := ag_ hg HB; replace HB := ah_ HB hb; clear hb hbox hg; obtain ⟨Z12_0, Z12_1, Z12_2, Z12_3, F12⟩ := bc4 K104.out) | (have _t := tk3_; (with_reducible refine qb_ (f := 139) rfl ?_); refine gl_ (some 5) func139 #[.string a0_0] ?_; refine cm_ (qaf_.calls k a0_0 true _ A2.out) ?_; rintro w' ⟨nd, rfl⟩; clear tk3_) | (go_at_call 139; have _t := tk4_; (with_reducible refine (qaf_.calls k a0_1 true _ A4.out).mono ?_); rintro e w' ⟨rfl, ⟨nd, rfl⟩⟩; clear tk4_)); go_ret
 exact ⟨z3_, hs_⟩
mutual
def qan_.j0 : Nat → ByteArray → Bool → Option (Int × Bool)
 | 0, _, _ => none
 | k + 1, x0, x27 => if x27 = true then (some (0, false)) else (qan_.l0 k x0 (x0.size : Int) 0)
def qan_.l0 : Nat → ByteArray → Int → Int → Option (Int × Bool)
 | 0, _, _, _ => none
 | k + 1, x0, x29, x30 => if x30 < x29 then (if 0 ≤ x30 then (if x30 < (x0.size : Int) then (if (bt x0 x30) < 48 then (some (0, false)) else (if (bt x0 x30) > 57 then (some (0, false)) else (qan_.l0 k x0 x29 (wrap64 (x30 + 1))))) else (none)) else (none)) else ((qcn_.f x0).bind fun bt101 => (if bt101.2.isNone = true then (some (bt101.1, true)) else (some (bt101.1, false))))
end
def qan_.f (k : Nat) (a0 : ByteArray) (a1 : Int) : Option (Int × Bool) := if (a0.size : Int) < 1 then (qan_.j0 k a0 true) else (if (a0.size : Int) > a1 then (qan_.j0 k a0 true) else (if (a0.size : Int) > 1 then (if 0 < (a0.size : Int) then (qan_.j0 k a0 ((bt a0 0) == 48)) else (none)) else (qan_.j0 k a0 false)))
theorem qan_.mono_l : ∀ k, (∀ y0 y1, LeO (qan_.j0 k y0 y1) (qan_.j0 (k + 1) y0 y1)) ∧ (∀ y0 y1 y2, LeO (qan_.l0 k y0 y1 y2) (qan_.l0 (k + 1) y0 y1 y2))
 | 0 => ⟨fun _ _ r h => by simp [qan_.j0] at h, fun _ _ _ r h => by simp [qan_.l0] at h⟩
 | k + 1 => by
  obtain ⟨ih0, ih1⟩ := qan_.mono_l k
  refine ⟨?_, ?_⟩
  ·intro y0 y1
   unfold qan_.j0
   have m0_ := @ih0
   have m1_ := @ih1
   exact mz_
  ·intro y0 y1 y2
   unfold qan_.l0
   have m0_ := @ih0
   have m1_ := @ih1
   exact mz_
theorem qan_.mono : ∀ a0 a1 k, LeO (qan_.f k a0 a1) (qan_.f (k + 1) a0 a1) := by
 intro a0 a1 k; obtain ⟨ih0, ih1⟩ := qan_.mono_l k; unfold qan_.f; have m0_ := @ih0; have m1_ := @ih1; exact mz_
theorem qan_.calls (k : Nat) (a0 : ByteArray) (a1 : Int) (r1 : Int) (r2 : Bool) (w : World) (h : qan_.f k a0 a1 = some (r1, r2)) :
  Calls Tryz.prog 83 #[.string a0, .int .i64 a1] w fun e w' => e = .returned (.tuple #[.int .i64 r1, .bool r2]) ∧ Below w.heap.size w w' := by
 have hu117 := underlying117; have HB := qa_.mk (Below.refl w.heap.size w); unfold qan_.f at h; have H := h; clear h; have HC3 := qa_.mk H; clear H; go_enter func83, ntmps83; go_upto_region 1 with (fail)
 repeat (go_quiet (fail); go_upto_region 1 with (fail))
 go_cut [27] (fun v27 wc => ∃ (kq : Nat) (x27_2 : Bool), v27 = .bool x27_2 ∧ qa_ (qan_.j0 kq a0 x27_2 = some (r1, r2)) ∧ qa_ (kq ≤ k) ∧ qa_ (Below w.heap.size w wc))
 case first =>
  have H := HC3.out; clear HC3; by_cases c4 : (a0.size : Int) < 1
  ·rw [if_pos c4] at H; have c4b0 := dt_ c4; have c4b1 : decide (a0.size < 1) = true := decide_eq_true (by omega); clear c4; (first | rw [c4b0] | (simp only [i64_w, i32_w]; rw [c4b0]) | skip); have H' := qa_.mk H; clear H; go_wp2
   repeat (go_quiet (fail); try go_wp2)
   go_meet
   case rel => exact ⟨_, (true), z1_, H', ⟨z4_⟩, ⟨hb_ HB.out⟩⟩
  rw [if_neg c4] at H; have c4b0 := df_ c4; have c4b1 : decide (a0.size < 1) = false := decide_eq_false (by omega); clear c4; (first | rw [c4b0] | (simp only [i64_w, i32_w]; rw [c4b0]) | skip); by_cases c5 : (a0.size : Int) > a1
  ·rw [if_pos c5] at H; have c5b0 := dt_ c5; clear c5; have H' := qa_.mk H; clear H; go_wp2
   repeat (go_quiet (fail); try go_wp2)
   go_meet
   case rel => exact ⟨_, (true), z1_, H', ⟨z4_⟩, ⟨hb_ HB.out⟩⟩
  rw [if_neg c5] at H; have c5b0 := df_ c5; clear c5; by_cases c6 : (a0.size : Int) > 1; rotate_left
  ·rw [if_neg c6] at H; have c6b0 := df_ c6; have c6b1 : decide (1 < a0.size) = false := decide_eq_false (by omega); clear c6; have H' := qa_.mk H; clear H; go_wp2
   repeat (go_quiet (fail); try go_wp2)
   go_meet
   case rel => exact ⟨_, (false), z1_, H', ⟨z4_⟩, ⟨hb_ HB.out⟩⟩
  rw [if_pos c6] at H; have c6b0 := dt_ c6; have c6b1 : decide (1 < a0.size) = true := decide_eq_true (by omega); clear c6; by_cases c7 : 0 < (a0.size : Int); rotate_left
  ·rw [if_neg c7] at H; exact no_ H
  rw [if_pos c7] at H; have c7b0 := dt_ c7; have c7b1 : decide (0 < a0.size) = true := decide_eq_true (by omega); clear c7; have H' := qa_.mk H; clear H; have p8 : 0 ≤ (0 : Int) := (by omega); have q8 : 0 < a0.size := (by have : (0 : Int) < (a0.size : Int) := y0_; omega)
  have hx8 : ∀ h : 0 < a0.size, ((a0[0]'h).toNat : Int) = bt a0 0 := bt_at a0 0; clear p8; have qi8 : (0 < (a0.size : Int)) = True := eq_true (y0_); replace q8 := eq_true q8; go_wp2
  repeat (go_quiet (fail); try go_wp2)
  go_meet
  case rel => exact ⟨_, (((bt a0 0) == 48)), z1_, H', ⟨z4_⟩, ⟨hb_ HB.out⟩⟩
 case rest =>
  clear HC3; try clear p2
  try clear c4
  try clear c4b0
  try clear c4b1
  try clear c5
  try clear c5b0
  try clear c6
  try clear c6b0
  try clear c6b1
  try clear c7
  try clear c7b0
  try clear c7b1
  try clear c8
  try clear p8
  try clear q8
  try clear hx8
  try clear qi8
  try clear p8
  try clear q8
  obtain ⟨kq, x27_2, rfl, HA, HJ2, HB⟩ := hcut
  cases kq with
  | zero => exact absurd HA.out (by simp [qan_.j0])
  | succ kj2 =>
   have H := HA.out; clear HA; simp only [qan_.j0] at H; by_cases c9 : x27_2 = true
   ·subst c9; rw [if_pos rfl] at H; obtain ⟨rfl, rfl⟩ := pj2_ H; go_wp2
    repeat (go_quiet (fail); try go_wp2)
    go_ret2
    exact ⟨z3_, hb_ HB.out⟩
   replace c9 := Bool.eq_false_iff.mpr c9; subst c9; rw [if_neg nft_] at H; have H' := qa_.mk H; clear H; go_wp2
   repeat (go_quiet (fail); try go_wp2)
   go_loopg [30] kj2 (fun kq v30 w' => ∃ (x30_2 : Int), v30 = .int .i64 x30_2 ∧ qa_ (qan_.l0 kq a0 (a0.size : Int) x30_2 = some (r1, r2)) ∧ qa_ (kq ≤ kj2) ∧ qa_ (Below w.heap.size w w'))
   case atStart => exact ⟨(0), z1_, H', ⟨Nat.le_refl _⟩, ⟨hb_ HB.out⟩⟩
   case round =>
    clear H'; try clear p2
    try clear c4
    try clear c4b0
    try clear c4b1
    try clear c5
    try clear c5b0
    try clear c6
    try clear c6b0
    try clear c6b1
    try clear c7
    try clear c7b0
    try clear c7b1
    try clear c8
    try clear p8
    try clear q8
    try clear hx8
    try clear qi8
    try clear c9
    try clear p2
    try clear p8
    try clear q8
    obtain ⟨x30_2, rfl, HA, HK2, HB⟩ := hrel
    cases gk with
    | zero => exact absurd HA.out (by simp [qan_.l0])
    | succ k2 =>
     have H := HA.out; clear HA; simp only [qan_.l0] at H; by_cases c10 : x30_2 < (a0.size : Int); rotate_left
     ·rw [if_neg c10] at H; have c10b0 := df_ c10; clear c10; obtain ⟨⟨t101, t102⟩, A17, H⟩ := bx_ H; dsimp only at H; rcases t102 with _ | q103
      ·have H1 : (some (t101, true)) = some (r1, r2) := by rw [if_pos (show (none : Option Int).isNone = true by rfl)] at H; exact H
       clear H; have H := H1; clear H1; try simp only [qbo_, qbp_]
       obtain ⟨rfl, rfl⟩ := pj2_ H; go_wp2_with (first | (go_at_call 145; (with_reducible refine (qcn_.calls a0 t101 none _ A17.out).mono ?_); rintro e w18 ⟨rfl, hb⟩; replace HB := ah_ HB hb; (try clear hb); (try clear hb2); (try clear hk); (try clear hi); (try simp only [qbo_, qbp_])))
       repeat (go_quiet (first | (go_at_call 145; (with_reducible refine (qcn_.calls a0 t101 none _ A17.out).mono ?_); rintro e w18 ⟨rfl, hb⟩; replace HB := ah_ HB hb; (try clear hb); (try clear hb2); (try clear hk); (try clear hi); (try simp only [qbo_, qbp_]))); try go_wp2_with (first | (go_at_call 145; (with_reducible refine (qcn_.calls a0 t101 none _ A17.out).mono ?_); rintro e w18 ⟨rfl, hb⟩; replace HB := ah_ HB hb; (try clear hb); (try clear hb2); (try clear hk); (try clear hi); (try simp only [qbo_, qbp_]))))
       go_ret2
       exact ⟨z3_, hb_ HB.out⟩
      ·have H1 : (some (t101, false)) = some (r1, r2) := by rw [if_neg (show ¬ (some q103).isNone = true by simp)] at H; exact H
       clear H; have H := H1; clear H1; try simp only [qbo_, qbp_]
       obtain ⟨rfl, rfl⟩ := pj2_ H; go_wp2_with (first | (go_at_call 145; (with_reducible refine (qcn_.calls a0 t101 (some q103) _ A17.out).mono ?_); rintro e w19 ⟨rfl, hb⟩; replace HB := ah_ HB hb; (try clear hb); (try clear hb2); (try clear hk); (try clear hi); (try simp only [qbo_, qbp_])))
       repeat (go_quiet (first | (go_at_call 145; (with_reducible refine (qcn_.calls a0 t101 (some q103) _ A17.out).mono ?_); rintro e w19 ⟨rfl, hb⟩; replace HB := ah_ HB hb; (try clear hb); (try clear hb2); (try clear hk); (try clear hi); (try simp only [qbo_, qbp_]))); try go_wp2_with (first | (go_at_call 145; (with_reducible refine (qcn_.calls a0 t101 (some q103) _ A17.out).mono ?_); rintro e w19 ⟨rfl, hb⟩; replace HB := ah_ HB hb; (try clear hb); (try clear hb2); (try clear hk); (try clear hi); (try simp only [qbo_, qbp_]))))
       go_ret2
       exact ⟨z3_, hb_ HB.out⟩
     rw [if_pos c10] at H; have c10b0 := dt_ c10; clear c10; by_cases c11 : 0 ≤ x30_2; rotate_left
     ·rw [if_neg c11] at H; exact no_ H
     rw [if_pos c11] at H; have c11b0 := dt_ c11; clear c11; by_cases c12 : x30_2 < (a0.size : Int); rotate_left
     ·rw [if_neg c12] at H; exact no_ H
     rw [if_pos c12] at H; have c12b0 := dt_ c12; clear c12; by_cases c14 : (bt a0 x30_2) < 48
     ·rw [if_pos c14] at H; have c14b0 := dt_ c14; clear c14; obtain ⟨rfl, rfl⟩ := pj2_ H; have p13 : 0 ≤ (x30_2 : Int) := y0_; have q13 : x30_2 < (a0.size : Int) := y0_; have hx13 := bt_at a0 x30_2; replace p13 := eq_true p13; replace q13 := eq_true q13; go_wp2
      repeat (go_quiet (fail); try go_wp2)
      go_ret2
      exact ⟨z3_, hb_ HB.out⟩
     rw [if_neg c14] at H; have c14b0 := df_ c14; clear c14; by_cases c16 : (bt a0 x30_2) > 57
     ·rw [if_pos c16] at H; have c16b0 := dt_ c16; clear c16; obtain ⟨rfl, rfl⟩ := pj2_ H; have p13 : 0 ≤ (x30_2 : Int) := y0_; have q13 : x30_2 < (a0.size : Int) := y0_; have hx13 := bt_at a0 x30_2; replace p13 := eq_true p13; replace q13 := eq_true q13; have p15 : 0 ≤ (x30_2 : Int) := y0_; have q15 : x30_2 < (a0.size : Int) := y0_; have hx15 := bt_at a0 x30_2; replace p15 := eq_true p15; replace q15 := eq_true q15; go_wp2
      repeat (go_quiet (fail); try go_wp2)
      go_ret2
      exact ⟨z3_, hb_ HB.out⟩
     rw [if_neg c16] at H; have c16b0 := df_ c16; clear c16; have H' := qa_.mk H; clear H; have p13 : 0 ≤ (x30_2 : Int) := y0_; have q13 : x30_2 < (a0.size : Int) := y0_; have hx13 := bt_at a0 x30_2; replace p13 := eq_true p13; replace q13 := eq_true q13; have p15 : 0 ≤ (x30_2 : Int) := y0_; have q15 : x30_2 < (a0.size : Int) := y0_; have hx15 := bt_at a0 x30_2; replace p15 := eq_true p15; replace q15 := eq_true q15; go_wp2
     repeat (go_quiet (fail); try go_wp2)
     go_roundg k2
     case measure => have := HJ2.out; have := HK2.out; omega
     case rel => exact ⟨(wrap64 (x30_2 + 1)), z1_, H', ⟨by have := HJ2.out; have := HK2.out; omega⟩, ⟨hb_ HB.out⟩⟩
mutual
def qav_.j0 : Nat → ByteArray → Bool → Option (Int × Bool)
 | 0, _, _ => none
 | k + 1, x0, x25 => if x25 = true then (some (0, false)) else (qav_.l0 k x0 1)
def qav_.l0 : Nat → ByteArray → Int → Option (Int × Bool)
 | 0, _, _ => none
 | k + 1, x0, x4 => if x4 < 5 then (if 0 ≤ x4 then (if x4 < (x0.size : Int) then (if (bt x0 x4) < 48 then (some (0, false)) else (if (bt x0 x4) > 57 then (some (0, false)) else (qav_.l0 k x0 (wrap64 (x4 + 1))))) else (none)) else (none)) else (if 1 ≤ 3 then (if 3 ≤ (x0.size : Int) then ((qcn_.f (x0.extract 1 3)).bind fun bt104 => ((qcn_.f (x0.extract 3 x0.size)).bind fun bt106 => (if bt106.1 ≥ 60 then (some (0, false)) else (if 0 < (x0.size : Int) then (if (bt x0 0) = 45 then (some (wrap64 ((wrap64 ((-60) * bt104.1)) - bt106.1), true)) else (some (wrap64 ((wrap64 (60 * bt104.1)) + bt106.1), true))) else (none))))) else (none)) else (none))
end
def qav_.f (k : Nat) (a0 : ByteArray) : Option (Int × Bool) := if (a0.size : Int) = 5 then (if 0 < (a0.size : Int) then (if (bt a0 0) = 43 then (qav_.j0 k a0 (a0.toList == ([45, 48, 48, 48, 48] : List UInt8))) else (if (bt a0 0) = 45 then (qav_.j0 k a0 (a0.toList == ([45, 48, 48, 48, 48] : List UInt8))) else (qav_.j0 k a0 true))) else (none)) else (qav_.j0 k a0 true)
theorem qav_.mono_l : ∀ k, (∀ y0 y1, LeO (qav_.j0 k y0 y1) (qav_.j0 (k + 1) y0 y1)) ∧ (∀ y0 y1, LeO (qav_.l0 k y0 y1) (qav_.l0 (k + 1) y0 y1))
 | 0 => ⟨fun _ _ r h => by simp [qav_.j0] at h, fun _ _ r h => by simp [qav_.l0] at h⟩
 | k + 1 => by
  obtain ⟨ih0, ih1⟩ := qav_.mono_l k
  refine ⟨?_, ?_⟩
  ·intro y0 y1
   unfold qav_.j0
   have m0_ := @ih0
   have m1_ := @ih1
   exact mz_
  ·intro y0 y1
   unfold qav_.l0
   have m0_ := @ih0
   have m1_ := @ih1
   exact mz_
theorem qav_.mono : ∀ a0 k, LeO (qav_.f k a0) (qav_.f (k + 1) a0) := by
 intro a0 k; obtain ⟨ih0, ih1⟩ := qav_.mono_l k; unfold qav_.f; have m0_ := @ih0; have m1_ := @ih1; exact mz_
theorem qav_.calls (k : Nat) (a0 : ByteArray) (r1 : Int) (r2 : Bool) (w : World) (h : qav_.f k a0 = some (r1, r2)) :
  Calls Tryz.prog 84 #[.string a0] w fun e w' => e = .returned (.tuple #[.int .i64 r1, .bool r2]) ∧ Below w.heap.size w w' := by
 have HB := qa_.mk (Below.refl w.heap.size w); unfold qav_.f at h; have H := h; clear h; have HC2 := qa_.mk H; clear H; go_enter func84, ntmps84; go_upto_region 1 with (fail)
 go_cut [25] (fun v25 wc => ∃ (kq : Nat) (x25_1 : Bool), v25 = .bool x25_1 ∧ qa_ (qav_.j0 kq a0 x25_1 = some (r1, r2)) ∧ qa_ (kq ≤ k) ∧ qa_ (Below w.heap.size w wc))
 case first =>
  have H := HC2.out; clear HC2; by_cases c3 : (a0.size : Int) = 5; rotate_left
  ·rw [if_neg c3] at H; have c3b0 := ef_ c3; have c3b1 := nt_ c3; (first | rw [c3b0] | (simp only [i64_w, i32_w]; rw [c3b0]) | skip); have H' := qa_.mk H; clear H; go_wp2
   go_meet
   case rel => exact ⟨_, (true), z1_, H', ⟨z4_⟩, ⟨hb_ HB.out⟩⟩
  rw [if_pos c3] at H; have c3b0 := et_ c3; have c3b1 := nf_ c3; clear c3; (first | rw [c3b0] | (simp only [i64_w, i32_w]; rw [c3b0]) | skip); by_cases c4 : 0 < (a0.size : Int); rotate_left
  ·rw [if_neg c4] at H; exact no_ H
  rw [if_pos c4] at H; have c4b0 := dt_ c4; have c4b1 : decide (0 < a0.size) = true := decide_eq_true (by omega); clear c4; by_cases c6 : (bt a0 0) = 43
  ·rw [if_pos c6] at H; have c6b0 := et_ c6; have c6b1 := nf_ c6; clear c6; have H' := qa_.mk H; clear H; have p5 : 0 ≤ (0 : Int) := (by omega); have q5 : 0 < a0.size := (by have : (0 : Int) < (a0.size : Int) := y0_; omega)
   have hx5 : ∀ h : 0 < a0.size, ((a0[0]'h).toNat : Int) = bt a0 0 := bt_at a0 0; clear p5; have qi5 : (0 < (a0.size : Int)) = True := eq_true (y0_); replace q5 := eq_true q5; go_wp2
   go_meet
   case rel => exact ⟨_, ((a0.toList == ([45, 48, 48, 48, 48] : List UInt8))), z1_, H', ⟨z4_⟩, ⟨hb_ HB.out⟩⟩
  rw [if_neg c6] at H; have c6b0 := ef_ c6; have c6b1 := nt_ c6; by_cases c8 : (bt a0 0) = 45; rotate_left
  ·rw [if_neg c8] at H; have c8b0 := ef_ c8; have c8b1 := nt_ c8; have H' := qa_.mk H; clear H; have p5 : 0 ≤ (0 : Int) := (by omega); have q5 : 0 < a0.size := (by have : (0 : Int) < (a0.size : Int) := y0_; omega)
   have hx5 : ∀ h : 0 < a0.size, ((a0[0]'h).toNat : Int) = bt a0 0 := bt_at a0 0; clear p5; have qi5 : (0 < (a0.size : Int)) = True := eq_true (y0_); replace q5 := eq_true q5; have p7 : 0 ≤ (0 : Int) := (by omega); have q7 : 0 < a0.size := (by have : (0 : Int) < (a0.size : Int) := y0_; omega)
   have hx7 : ∀ h : 0 < a0.size, ((a0[0]'h).toNat : Int) = bt a0 0 := bt_at a0 0; clear p7; have qi7 : (0 < (a0.size : Int)) = True := eq_true (y0_); replace q7 := eq_true q7; go_wp2
   go_meet
   case rel => exact ⟨_, (true), z1_, H', ⟨z4_⟩, ⟨hb_ HB.out⟩⟩
  rw [if_pos c8] at H; have c8b0 := et_ c8; have c8b1 := nf_ c8; clear c8; have H' := qa_.mk H; clear H; have p5 : 0 ≤ (0 : Int) := (by omega); have q5 : 0 < a0.size := (by have : (0 : Int) < (a0.size : Int) := y0_; omega)
  have hx5 : ∀ h : 0 < a0.size, ((a0[0]'h).toNat : Int) = bt a0 0 := bt_at a0 0; clear p5; have qi5 : (0 < (a0.size : Int)) = True := eq_true (y0_); replace q5 := eq_true q5; have p7 : 0 ≤ (0 : Int) := (by omega); have q7 : 0 < a0.size := (by have : (0 : Int) < (a0.size : Int) := y0_; omega)
  have hx7 : ∀ h : 0 < a0.size, ((a0[0]'h).toNat : Int) = bt a0 0 := bt_at a0 0; clear p7; have qi7 : (0 < (a0.size : Int)) = True := eq_true (y0_); replace q7 := eq_true q7; go_wp2
  go_meet
  case rel => exact ⟨_, ((a0.toList == ([45, 48, 48, 48, 48] : List UInt8))), z1_, H', ⟨z4_⟩, ⟨hb_ HB.out⟩⟩
 case rest =>
  clear HC2; try clear p2
  try clear c3
  try clear c3b0
  try clear c3b1
  try clear c4
  try clear c4b0
  try clear c4b1
  try clear p5
  try clear q5
  try clear hx5
  try clear qi5
  try clear c6
  try clear c6b0
  try clear c6b1
  try clear p7
  try clear q7
  try clear hx7
  try clear qi7
  try clear c8
  try clear c8b0
  try clear c8b1
  try clear p5
  try clear p7
  try clear q5
  try clear q7
  obtain ⟨kq, x25_1, rfl, HA, HJ1, HB⟩ := hcut
  cases kq with
  | zero => exact absurd HA.out (by simp [qav_.j0])
  | succ kj1 =>
   have H := HA.out; clear HA; simp only [qav_.j0] at H; by_cases c9 : x25_1 = true
   ·subst c9; rw [if_pos rfl] at H; obtain ⟨rfl, rfl⟩ := pj2_ H; go_wp2
    go_ret2
    exact ⟨z3_, hb_ HB.out⟩
   replace c9 := Bool.eq_false_iff.mpr c9; subst c9; rw [if_neg nft_] at H; have H' := qa_.mk H; clear H; go_wp2
   go_loopg [4] kj1 (fun kq v4 w' => ∃ (x4_2 : Int), v4 = .int .i64 x4_2 ∧ qa_ (qav_.l0 kq a0 x4_2 = some (r1, r2)) ∧ qa_ (kq ≤ kj1) ∧ qa_ (Below w.heap.size w w'))
   case atStart => exact ⟨(1), z1_, H', ⟨Nat.le_refl _⟩, ⟨hb_ HB.out⟩⟩
   case round =>
    clear H'; try clear p2
    try clear c3
    try clear c3b0
    try clear c3b1
    try clear c4
    try clear c4b0
    try clear c4b1
    try clear p5
    try clear q5
    try clear hx5
    try clear qi5
    try clear c6
    try clear c6b0
    try clear c6b1
    try clear p7
    try clear q7
    try clear hx7
    try clear qi7
    try clear c8
    try clear c8b0
    try clear c8b1
    try clear c9
    try clear p2
    try clear p5
    try clear p7
    try clear q5
    try clear q7
    obtain ⟨x4_2, rfl, HA, HK2, HB⟩ := hrel
    cases gk with
    | zero => exact absurd HA.out (by simp [qav_.l0])
    | succ k2 =>
     have H := HA.out; clear HA; simp only [qav_.l0] at H; by_cases c10 : x4_2 < 5
     ·rw [if_pos c10] at H; have c10b0 := dt_ c10; clear c10; by_cases c11 : 0 ≤ x4_2; rotate_left
      ·rw [if_neg c11] at H; exact no_ H
      rw [if_pos c11] at H; have c11b0 := dt_ c11; clear c11; by_cases c12 : x4_2 < (a0.size : Int); rotate_left
      ·rw [if_neg c12] at H; exact no_ H
      rw [if_pos c12] at H; have c12b0 := dt_ c12; clear c12; by_cases c14 : (bt a0 x4_2) < 48
      ·rw [if_pos c14] at H; have c14b0 := dt_ c14; clear c14; obtain ⟨rfl, rfl⟩ := pj2_ H; have p13 : 0 ≤ (x4_2 : Int) := y0_; have q13 : x4_2 < (a0.size : Int) := y0_; have hx13 := bt_at a0 x4_2; replace p13 := eq_true p13; replace q13 := eq_true q13; go_wp2
       go_ret2
       exact ⟨z3_, hb_ HB.out⟩
      rw [if_neg c14] at H; have c14b0 := df_ c14; clear c14; by_cases c16 : (bt a0 x4_2) > 57
      ·rw [if_pos c16] at H; have c16b0 := dt_ c16; clear c16; obtain ⟨rfl, rfl⟩ := pj2_ H; have p13 : 0 ≤ (x4_2 : Int) := y0_; have q13 : x4_2 < (a0.size : Int) := y0_; have hx13 := bt_at a0 x4_2; replace p13 := eq_true p13; replace q13 := eq_true q13; have p15 : 0 ≤ (x4_2 : Int) := y0_; have q15 : x4_2 < (a0.size : Int) := y0_; have hx15 := bt_at a0 x4_2; replace p15 := eq_true p15; replace q15 := eq_true q15; go_wp2
       go_ret2
       exact ⟨z3_, hb_ HB.out⟩
      rw [if_neg c16] at H; have c16b0 := df_ c16; clear c16; have H' := qa_.mk H; clear H; have p13 : 0 ≤ (x4_2 : Int) := y0_; have q13 : x4_2 < (a0.size : Int) := y0_; have hx13 := bt_at a0 x4_2; replace p13 := eq_true p13; replace q13 := eq_true q13; have p15 : 0 ≤ (x4_2 : Int) := y0_; have q15 : x4_2 < (a0.size : Int) := y0_; have hx15 := bt_at a0 x4_2; replace p15 := eq_true p15; replace q15 := eq_true q15; go_wp2
      go_roundg k2
      case measure => have := HJ1.out; have := HK2.out; omega
      case rel => exact ⟨(wrap64 (x4_2 + 1)), z1_, H', ⟨by have := HJ1.out; have := HK2.out; omega⟩, ⟨hb_ HB.out⟩⟩
     rw [if_neg c10] at H; have c10b0 := df_ c10; clear c10; by_cases c17 : 1 ≤ 3; rotate_left
     ·rw [if_neg c17] at H; exact no_ H
     rw [if_pos c17] at H; have c17b0 := eq_true c17; have c17b1 := dt_ c17; clear c17; by_cases c18 : 3 ≤ (a0.size : Int); rotate_left
     ·rw [if_neg c18] at H; exact no_ H
     rw [if_pos c18] at H; have c18b0 := eq_true c18; have c18b1 := dt_ c18; clear c18; obtain ⟨⟨t104, t105⟩, A19, H⟩ := bx_ H; dsimp only at H; have c20b0 := eq_true (y0_ : 3 ≤ (a0.size : Int)); obtain ⟨⟨t106, t107⟩, A21, H⟩ := bx_ H; dsimp only at H; by_cases c22 : t106 ≥ 60
     ·rw [if_pos c22] at H; have c22b0 := dt_ c22; clear c22; obtain ⟨rfl, rfl⟩ := pj2_ H; have tk1_ : True := trivial; have tk2_ : True := trivial; go_wp2_with (first | (have _t := tk1_; (with_reducible refine qb_ (f := 145) rfl ?_); refine gl_ (some 43) func145 #[.string (a0.extract 1 3)] ?_; refine cm_ (qcn_.calls (a0.extract 1 3) t104 t105 _ A19.out) fun w23 hb => ?_; replace HB := ah_ HB hb; (try clear hb); (try clear hb2); (try clear hk); (try clear hi); (try simp only [qbo_, qbp_]); clear tk1_) | (have _t := tk2_; (with_reducible refine qb_ (f := 145) rfl ?_); refine gl_ (some 49) func145 #[.string (a0.extract 3 a0.size)] ?_; refine cm_ (qcn_.calls (a0.extract 3 a0.size) t106 t107 _ A21.out) fun w24 hb => ?_; replace HB := ah_ HB hb; (try clear hb); (try clear hb2); (try clear hk); (try clear hi); (try simp only [qbo_, qbp_]); clear tk2_)); go_ret2
      exact ⟨z3_, hb_ HB.out⟩
     rw [if_neg c22] at H; have c22b0 := df_ c22; clear c22; by_cases c25 : 0 < (a0.size : Int); rotate_left
     ·rw [if_neg c25] at H; exact no_ H
     rw [if_pos c25] at H; have c25b0 := dt_ c25; have c25b1 : decide (0 < a0.size) = true := decide_eq_true (by omega); clear c25; by_cases c27 : (bt a0 0) = 45; rotate_left
     ·rw [if_neg c27] at H; have c27b0 := ef_ c27; have c27b1 := nt_ c27; obtain ⟨rfl, rfl⟩ := pj2_ H; have tk5_ : True := trivial; have tk6_ : True := trivial; go_wp2_with (first | (have _t := tk5_; (with_reducible refine qb_ (f := 145) rfl ?_); refine gl_ (some 43) func145 #[.string (a0.extract 1 3)] ?_; refine cm_ (qcn_.calls (a0.extract 1 3) t104 t105 _ A19.out) fun w30 hb => ?_; replace HB := ah_ HB hb; (try clear hb); (try clear hb2); (try clear hk); (try clear hi); (try simp only [qbo_, qbp_]); clear tk5_) | (have _t := tk6_; (with_reducible refine qb_ (f := 145) rfl ?_); refine gl_ (some 49) func145 #[.string (a0.extract 3 a0.size)] ?_; refine cm_ (qcn_.calls (a0.extract 3 a0.size) t106 t107 _ A21.out) fun w31 hb => ?_; replace HB := ah_ HB hb; (try clear hb); (try clear hb2); (try clear hk); (try clear hi); (try simp only [qbo_, qbp_]); have p26 : 0 ≤ (0 : Int) := (by omega); have q26 : 0 < a0.size := (by have : (0 : Int) < (a0.size : Int) := y0_; omega); have hx26 : ∀ h : 0 < a0.size, ((a0[0]'h).toNat : Int) = bt a0 0 := bt_at a0 0; clear p26; have qi26 : (0 < (a0.size : Int)) = True := eq_true (y0_); replace q26 := eq_true q26; clear tk6_)); go_ret2
      exact ⟨z3_, hb_ HB.out⟩
     rw [if_pos c27] at H; have c27b0 := et_ c27; have c27b1 := nf_ c27; clear c27; obtain ⟨rfl, rfl⟩ := pj2_ H; have tk3_ : True := trivial; have tk4_ : True := trivial; go_wp2_with (first | (have _t := tk3_; (with_reducible refine qb_ (f := 145) rfl ?_); refine gl_ (some 43) func145 #[.string (a0.extract 1 3)] ?_; refine cm_ (qcn_.calls (a0.extract 1 3) t104 t105 _ A19.out) fun w28 hb => ?_; replace HB := ah_ HB hb; (try clear hb); (try clear hb2); (try clear hk); (try clear hi); (try simp only [qbo_, qbp_]); clear tk3_) | (have _t := tk4_; (with_reducible refine qb_ (f := 145) rfl ?_); refine gl_ (some 49) func145 #[.string (a0.extract 3 a0.size)] ?_; refine cm_ (qcn_.calls (a0.extract 3 a0.size) t106 t107 _ A21.out) fun w29 hb => ?_; replace HB := ah_ HB hb; (try clear hb); (try clear hb2); (try clear hk); (try clear hi); (try simp only [qbo_, qbp_]); have p26 : 0 ≤ (0 : Int) := (by omega); have q26 : 0 < a0.size := (by have : (0 : Int) < (a0.size : Int) := y0_; omega); have hx26 : ∀ h : 0 < a0.size, ((a0[0]'h).toNat : Int) = bt a0 0 := bt_at a0 0; clear p26; have qi26 : (0 < (a0.size : Int)) = True := eq_true (y0_); replace q26 := eq_true q26; clear tk4_)); go_ret2
     exact ⟨z3_, hb_ HB.out⟩
def qao_.j0 : Nat → ByteArray → ByteArray → Int → Int → Bool → Option (ByteArray × ByteArray × Int × Int × Int)
 | 0, _, _, _, _, _ => none
 | k + 1, x4, x7, x12, x14, x68 => if x68 = true then (some ((⟨#[]⟩ : ByteArray), (⟨#[]⟩ : ByteArray), 0, 0, 2)) else ((qbf_.f k x4 x7 x12 x14).bind fun t124 => (if t124 = true then (some (x4, x7, x12, x14, 0)) else (some ((⟨#[]⟩ : ByteArray), (⟨#[]⟩ : ByteArray), 0, 0, 1))))
def qao_.f (k : Nat) (a0 : ByteArray) : Option (ByteArray × ByteArray × Int × Int × Int) := (qcf_.f a0 ⟨#[32, 60]⟩).bind fun bt109 => ((qcf_.f bt109.2.1 ⟨#[62, 32]⟩).bind fun bt112 => ((qcf_.f bt112.2.1 ⟨#[32]⟩).bind fun bt115 => ((qan_.f k bt115.1 18).bind fun bt118 => ((qav_.f k bt115.2.1).bind fun bt120 => (if bt109.2.2 = true then (if bt112.2.2 = true then (if bt115.2.2 = true then (if bt118.2 = true then (if bt120.2 = true then (if bt109.1.size + bt112.1.size ≤ 9223372036854775807 then ((qdj_.f (bt109.1 ++ bt112.1) ⟨#[60, 62]⟩).bind fun t122 => (qao_.j0 k bt109.1 bt112.1 bt118.1 bt120.1 t122)) else (none)) else (qao_.j0 k bt109.1 bt112.1 bt118.1 bt120.1 true)) else (qao_.j0 k bt109.1 bt112.1 bt118.1 bt120.1 true)) else (qao_.j0 k bt109.1 bt112.1 bt118.1 bt120.1 true)) else (qao_.j0 k bt109.1 bt112.1 bt118.1 bt120.1 true)) else (qao_.j0 k bt109.1 bt112.1 bt118.1 bt120.1 true))))))
theorem qao_.mono_l : ∀ k, (∀ y0 y1 y2 y3 y4, LeO (qao_.j0 k y0 y1 y2 y3 y4) (qao_.j0 (k + 1) y0 y1 y2 y3 y4))
 | 0 => fun _ _ _ _ _ r h => by simp [qao_.j0] at h
 | k + 1 => by
  have ih0 := qao_.mono_l k
  ·intro y0 y1 y2 y3 y4
   unfold qao_.j0
   have m0_ := @ih0
   have m1_ := @qan_.mono
   have m2_ := @qbf_.mono
   have m3_ := @qav_.mono
   exact mz_
theorem qao_.mono : ∀ a0 k, LeO (qao_.f k a0) (qao_.f (k + 1) a0) := by
 intro a0 k; have ih0 := qao_.mono_l k; unfold qao_.f; have m0_ := @ih0; have m1_ := @qan_.mono; have m2_ := @qbf_.mono; have m3_ := @qav_.mono; exact mz_
theorem qao_.calls (k : Nat) (a0 : ByteArray) (r1 : ByteArray) (r2 : ByteArray) (r3 : Int) (r4 : Int) (r5 : Int) (w : World) (hgv : GV w) (h : qao_.f k a0 = some (r1, r2, r3, r4, r5)) :
  Calls Tryz.prog 29 #[.string a0] w fun e w' => e = .returned (.tuple #[.agg #[.string r1, .string r2, .int .i64 r3, .int .i64 r4], .int .i64 r5]) ∧ Below w.heap.size w w' := by
 have hu24 := underlying24; have HB := qa_.mk (Below.refl w.heap.size w); unfold qao_.f at h; have H := h; clear h; obtain ⟨⟨t109, t110, t111⟩, A2, H⟩ := bx_ H; dsimp only at H; obtain ⟨⟨t112, t113, t114⟩, A3, H⟩ := bx_ H; dsimp only at H; obtain ⟨⟨t115, t116, t117⟩, A4, H⟩ := bx_ H; dsimp only at H; obtain ⟨⟨t118, t119⟩, A5, H⟩ := bx_ H; dsimp only at H; obtain ⟨⟨t120, t121⟩, A6, H⟩ := bx_ H; dsimp only at H; have HC7 := qa_.mk H; clear H; go_enter func29, ntmps29; go_upto_region 6 with (first | ((with_reducible refine qh_ (N := 2) rfl ?_); refine be_ (cs := #[.string ⟨#[]⟩, .string ⟨#[]⟩, .int .i64 0, .int .i64 0]) (t := 24) ?_; intro g108 hg w8 hbox hb; have K108 := qa_.mk (hbox); have W108 := ag_ hg HB; have E108 := ag_ hg HB; replace HB := ah_ HB hb; clear hb hbox hg) | ((with_reducible refine qb_ (f := 82) rfl ?_); refine gl_ (some 19) func82 #[.string a0, .string ⟨#[32, 60]⟩] ?_; (with_reducible refine (qcf_.calls a0 ⟨#[32, 60]⟩ t109 t110 t111 _ ?side1 A2.out).mono ?_); (case side1 => exact GV.below hgv (hs_)); rintro e w' ⟨rfl, ⟨nd, rfl⟩⟩; refine ⟨_, rfl, ?_⟩) | ((with_reducible refine qb_ (f := 82) rfl ?_); refine gl_ (some 25) func82 #[.string t110, .string ⟨#[62, 32]⟩] ?_; (with_reducible refine (qcf_.calls t110 ⟨#[62, 32]⟩ t112 t113 t114 _ ?side1 A3.out).mono ?_); (case side1 => exact GV.below hgv (hs_)); rintro e w' ⟨rfl, ⟨nd, rfl⟩⟩; refine ⟨_, rfl, ?_⟩) | ((with_reducible refine qb_ (f := 82) rfl ?_); refine gl_ (some 31) func82 #[.string t113, .string ⟨#[32]⟩] ?_; (with_reducible refine (qcf_.calls t113 ⟨#[32]⟩ t115 t116 t117 _ ?side1 A4.out).mono ?_); (case side1 => exact GV.below hgv (hs_)); rintro e w' ⟨rfl, ⟨nd, rfl⟩⟩; refine ⟨_, rfl, ?_⟩) | ((with_reducible refine qb_ (f := 83) rfl ?_); refine gl_ (some 37) func83 #[.string t115, .int .i64 18] ?_; refine cm_ (qan_.calls k t115 18 t118 t119 _ A5.out) fun w9 hb => ?_; replace K108 := ab_ K108 hb; replace HB := hr_ hb; (try clear hb); (try clear hb2); (try clear hk); (try clear hi)) | ((with_reducible refine qb_ (f := 84) rfl ?_); refine gl_ (some 42) func84 #[.string t116] ?_; refine cm_ (qav_.calls k t116 t120 t121 _ A6.out) fun w10 hb => ?_; replace K108 := ab_ K108 hb; replace HB := hr_ hb; (try clear hb); (try clear hb2); (try clear hk); (try clear hi)))
 (try simp only [Act.put, List.setIfInBounds_toArray, List.set_cons_zero, List.set_cons_succ])
 go_cut [68] (fun v68 wc => ∃ (kq : Nat) (x68_6 : Bool), v68 = .bool x68_6 ∧ qa_ (qao_.j0 kq t109 t112 t118 t120 x68_6 = some (r1, r2, r3, r4, r5)) ∧ qa_ (kq ≤ k) ∧ qa_ (wc.heap[g108]? = some (.cells #[.string ⟨#[]⟩, .string ⟨#[]⟩, .int .i64 0, .int .i64 0] 24 (0, 0))) ∧ qa_ (Below w.heap.size w wc))
 case first =>
  have H := HC7.out; clear HC7; by_cases c11 : t111 = true; rotate_left
  ·replace c11 := Bool.eq_false_iff.mpr c11; subst c11; rw [if_neg nft_] at H; have H' := qa_.mk H; clear H; go_wp2
   go_meet
   case rel => exact ⟨_, (true), z1_, H', ⟨z4_⟩, ⟨bk_ K108.out⟩, ⟨hs_⟩⟩
  subst c11; rw [if_pos rfl] at H; by_cases c12 : t114 = true; rotate_left
  ·replace c12 := Bool.eq_false_iff.mpr c12; subst c12; rw [if_neg nft_] at H; have H' := qa_.mk H; clear H; go_wp2
   go_meet
   case rel => exact ⟨_, (true), z1_, H', ⟨z4_⟩, ⟨bk_ K108.out⟩, ⟨hs_⟩⟩
  subst c12; rw [if_pos rfl] at H; by_cases c13 : t117 = true; rotate_left
  ·replace c13 := Bool.eq_false_iff.mpr c13; subst c13; rw [if_neg nft_] at H; have H' := qa_.mk H; clear H; go_wp2
   go_meet
   case rel => exact ⟨_, (true), z1_, H', ⟨z4_⟩, ⟨bk_ K108.out⟩, ⟨hs_⟩⟩
  subst c13; rw [if_pos rfl] at H; by_cases c14 : t119 = true; rotate_left
  ·replace c14 := Bool.eq_false_iff.mpr c14; subst c14; rw [if_neg nft_] at H; have H' := qa_.mk H; clear H; go_wp2
   go_meet
   case rel => exact ⟨_, (true), z1_, H', ⟨z4_⟩, ⟨bk_ K108.out⟩, ⟨hs_⟩⟩
  subst c14; rw [if_pos rfl] at H; by_cases c15 : t121 = true; rotate_left
  ·replace c15 := Bool.eq_false_iff.mpr c15; subst c15; rw [if_neg nft_] at H; have H' := qa_.mk H; clear H; go_wp2
   go_meet
   case rel => exact ⟨_, (true), z1_, H', ⟨z4_⟩, ⟨bk_ K108.out⟩, ⟨hs_⟩⟩
  subst c15; rw [if_pos rfl] at H; by_cases c16 : t109.size + t112.size ≤ 9223372036854775807; rotate_left
  ·rw [if_neg c16] at H; exact no_ H
  rw [if_pos c16] at H; have c16b0 := eq_true c16; have c16b1 := dt_ c16; try have c16b2 := nl_ c16
  obtain ⟨t122, A17, H⟩ := bx_ H; have H' := qa_.mk H; clear H; go_wp2_with (first | (go_at_call 85; (with_reducible refine (qdj_.calls (t109 ++ t112) ⟨#[60, 62]⟩ t122 _ A17.out).mono ?_); rintro e w18 ⟨rfl, hb⟩; replace K108 := ab_ K108 hb; replace HB := hr_ hb; (try clear hb); (try clear hb2); (try clear hk); (try clear hi)))
  go_meet
  case rel => exact ⟨_, (t122), z1_, H', ⟨z4_⟩, ⟨bk_ K108.out⟩, ⟨hs_⟩⟩
 case rest =>
  clear HC7; try clear c1
  try clear c2
  try clear p2
  try clear c8
  try clear c11
  try clear c12
  try clear c13
  try clear c14
  try clear c15
  try clear c16
  try clear c16b0
  try clear c16b1
  try clear c16b2
  obtain ⟨kq, x68_6, rfl, HA, HJ6, K108, HB⟩ := hcut
  cases kq with
  | zero => exact absurd HA.out (by simp [qao_.j0])
  | succ kj6 =>
   have H := HA.out; clear HA; simp only [qao_.j0] at H; by_cases c19 : x68_6 = true
   ·subst c19; rw [if_pos rfl] at H; obtain ⟨rfl, rfl, rfl, rfl, rfl⟩ := pj5_ H; obtain ⟨Z20_0, Z20_1, Z20_2, Z20_3, F20⟩ := bc4 K108.out; go_wp2
    refine bodyPost_ret (qcq_ rfl _ _ g108 24 #[.string ⟨#[]⟩, .string ⟨#[]⟩, .int .i64 0, .int .i64 0] (0, 0) _ rfl (by have b_ := K108; exact zb_) underlying24 rfl (by kernel_rfl)) rfl ?_; exact ⟨z3_, hs_⟩
   replace c19 := Bool.eq_false_iff.mpr c19; subst c19; rw [if_neg nft_] at H; obtain ⟨t124, A21, H⟩ := bx_ H; by_cases c22 : t124 = true; rotate_left
   ·replace c22 := Bool.eq_false_iff.mpr c22; subst c22; rw [if_neg nft_] at H; obtain ⟨rfl, rfl, rfl, rfl, rfl⟩ := pj5_ H; go_wp2_with (first | ((with_reducible refine qh_ (N := 16) rfl ?_); refine be_ (cs := #[.string ⟨#[]⟩, .string ⟨#[]⟩, .int .i64 0, .int .i64 0]) (t := 24) ?_; intro g123 hg w29 hbox hb; have K123 := qa_.mk (hbox); have W123 := qa_.mk ((by rw [hg]; exact (qj_ (hs_)) : w.heap.size ≤ g123)); have E123 := qa_.mk ((by rw [hg]; exact (qj_ (hs_)) : w.heap.size ≤ g123)); replace HB := hr_ hb; have N108_123 := qa_.mk (nl2_ hg K108.out); have N123_108 := qa_.mk (ng2_ hg K108.out); replace K108 := ab_ K108 hb; clear hb hbox hg; have hnb30 := N123_108.out; have hnc30 := N108_123.out; obtain ⟨Z31_0, Z31_1, Z31_2, Z31_3, F31⟩ := bc4 K123.out) | ((with_reducible refine qb_ (f := 67) rfl ?_); refine gl_ (some 76) func67 #[.agg #[.string t109, .string t112, .int .i64 t118, .int .i64 t120]] ?_; refine cm_ (qbf_.calls kj6 t109 t112 t118 t120 false _ A21.out) fun w32 hb => ?_; replace K108 := qa_.mk (qbk_ (g := g108) (o := .cells #[.string ⟨#[]⟩, .string ⟨#[]⟩, .int .i64 0, .int .i64 0] 24 (0, 0)) (by have b_ := K108; have f_ := N108_123; exact zb_) hb); replace K123 := qa_.mk (qbk_ (g := g123) (o := .cells #[.string t109, .string t112, .int .i64 t118, .int .i64 t120] 24 (0, 0)) (by have b_ := K123; exact zb_) hb); replace HB := hr_ hb; (try clear hb); (try clear hb2); (try clear hk); (try clear hi); obtain ⟨Z33_0, Z33_1, Z33_2, Z33_3, F33⟩ := bc4 K108.out)); refine bodyPost_ret (qcq_ rfl _ _ g108 24 #[.string ⟨#[]⟩, .string ⟨#[]⟩, .int .i64 0, .int .i64 0] (0, 0) _ rfl (by have b_ := K108; exact zb_) underlying24 rfl (by kernel_rfl)) rfl ?_; exact ⟨z3_, hs_⟩
   subst c22; rw [if_pos rfl] at H; obtain ⟨rfl, rfl, rfl, rfl, rfl⟩ := pj5_ H; go_wp2_with (first | ((with_reducible refine qh_ (N := 16) rfl ?_); refine be_ (cs := #[.string ⟨#[]⟩, .string ⟨#[]⟩, .int .i64 0, .int .i64 0]) (t := 24) ?_; intro g123 hg w23 hbox hb; have K123 := qa_.mk (hbox); have W123 := qa_.mk ((by rw [hg]; exact (qj_ (hs_)) : w.heap.size ≤ g123)); have E123 := qa_.mk ((by rw [hg]; exact (qj_ (hs_)) : w.heap.size ≤ g123)); replace HB := hr_ hb; have N108_123 := qa_.mk (nl2_ hg K108.out); have N123_108 := qa_.mk (ng2_ hg K108.out); replace K108 := ab_ K108 hb; clear hb hbox hg; have hnb24 := N123_108.out; have hnc24 := N108_123.out; obtain ⟨Z25_0, Z25_1, Z25_2, Z25_3, F25⟩ := bc4 K123.out) | ((with_reducible refine qb_ (f := 67) rfl ?_); refine gl_ (some 76) func67 #[.agg #[.string t109, .string t112, .int .i64 t118, .int .i64 t120]] ?_; refine cm_ (qbf_.calls kj6 t109 t112 t118 t120 true _ A21.out) fun w26 hb => ?_; replace K108 := qa_.mk (qbk_ (g := g108) (o := .cells #[.string ⟨#[]⟩, .string ⟨#[]⟩, .int .i64 0, .int .i64 0] 24 (0, 0)) (by have b_ := K108; have f_ := N108_123; exact zb_) hb); replace K123 := qa_.mk (qbk_ (g := g123) (o := .cells #[.string t109, .string t112, .int .i64 t118, .int .i64 t120] 24 (0, 0)) (by have b_ := K123; exact zb_) hb); replace HB := hr_ hb; (try clear hb); (try clear hb2); (try clear hk); (try clear hi); obtain ⟨Z27_0, Z27_1, Z27_2, Z27_3, F27⟩ := bc4 K123.out; obtain ⟨Z28_0, Z28_1, Z28_2, Z28_3, F28⟩ := bc4 K108.out)); refine bodyPost_ret (qcq_ rfl _ _ g108 24 #[.string t109, .string t112, .int .i64 t118, .int .i64 t120] (0, 0) _ rfl (by have b_ := K108; exact zb_) underlying24 rfl (by kernel_rfl)) rfl ?_; exact ⟨z3_, hs_⟩
def qbg_.f (k : Nat) (s0_0 : ByteArray) (s0_1 : Int) (a1 : ByteArray) : Option (ByteArray × ByteArray × Int × Int × ByteArray × Int) := (qbh_.f s0_0 s0_1 a1).bind fun bt108 => ((qao_.f k bt108.1).bind fun bt111 => (if bt111.2.2.2.2 = 0 then (some (bt111.1, bt111.2.1, bt111.2.2.1, bt111.2.2.2.1, bt108.2.1, bt108.2.2)) else ((qbt_.f bt108.2.1 bt108.2.2 bt111.2.2.2.2).bind fun bt117 => (some (bt111.1, bt111.2.1, bt111.2.2.1, bt111.2.2.2.1, bt117.1, bt117.2)))))
theorem qbg_.mono : ∀ a0 a1 a2 k, LeO (qbg_.f k a0 a1 a2) (qbg_.f (k + 1) a0 a1 a2) := by
 intro a0 a1 a2 k; unfold qbg_.f; have m0_ := @qao_.mono; exact mz_
theorem qbg_.calls (k : Nat) (g : Nat) (s0_0 : ByteArray) (s0_1 : Int) (a1 : ByteArray) (r1 : ByteArray) (r2 : ByteArray) (r3 : Int) (r4 : Int) (r5 : ByteArray) (r6 : Int) (w0 w : World) (hI : IsS87 w0 w g s0_0 s0_1) (hB : Below w0.heap.size w0 w) (hgv : GV w0) (h : qbg_.f k s0_0 s0_1 a1 = some (r1, r2, r3, r4, r5, r6)) :
  Calls Tryz.prog 72 #[.pointer (some ⟨g, 0, none⟩), .string a1] w fun e w' => e = .returned (.agg #[.string r1, .string r2, .int .i64 r3, .int .i64 r4]) ∧ IsS87 w0 w' g r5 r6 ∧ Below w0.heap.size w0 w' ∧ qaj_ w w' g none := by
 have hu24 := underlying24; have HI0 := qa_.mk hI; have HK := qa_.mk (qaj_.refl w g none); have HL := qa_.mk hB.size; clear hI; have HW0 := qa_.mk hB.size; have HB := qa_.mk hB; clear hB; unfold qbg_.f at h; have H := h; clear h; obtain ⟨⟨t108, t109, t110⟩, A3, H⟩ := bx_ H; dsimp only at H; obtain ⟨⟨t111, t112, t113, t114, t115⟩, A4, H⟩ := bx_ H; dsimp only at H; by_cases c5 : t115 = 0
 ·rw [if_pos c5] at H; have c5b0 := et_ c5; have c5b1 := nf_ c5; clear c5; obtain ⟨rfl, rfl, rfl, rfl, rfl, rfl⟩ := pj6_ H; go_enter func72, ntmps72; go_wp2_with (first | ((with_reducible refine qh_ (N := 4) rfl ?_); refine be_ (cs := #[.string ⟨#[]⟩, .string ⟨#[]⟩, .int .i64 0, .int .i64 0]) (t := 24) ?_; intro g107 hg w6 hbox hb; replace HB := qa_.mk (qdi_ z11_ hb); have K107 := qa_.mk (hbox); have W107 := qa_.mk ((by rw [hg]; exact (qfj_ (w := w) (g := g) (row := none) z7_) : w.heap.size ≤ g107)); have E107 := qa_.mk ((Nat.le_trans HW0.out (by rw [hg]; exact (qfj_ (w := w) (g := g) (row := none) z7_) : w.heap.size ≤ g107) : w0.heap.size ≤ g107)); replace HK := qa_.mk (qaj_.trans z7_ (qaj_.of_below hb g none) (.inl rfl)); have N0_107 := qa_.mk ((by rw [hg]; exact Nat.ne_of_lt (IsS87.lt (show IsS87 w0 _ g s0_0 s0_1 from z10_)) : g ≠ g107)); have N107_0 := qa_.mk ((by rw [hg]; exact Nat.ne_of_gt (IsS87.lt (show IsS87 w0 _ g s0_0 s0_1 from z10_)) : g107 ≠ g)); replace HI0 := qa_.mk (IsS87.below z10_ hb); clear hb hbox hg) | ((with_reducible refine qb_ (f := 73) rfl ?_); refine gl_ (some 10) func73 #[.pointer (some ⟨g, 0, none⟩), .string a1] ?_; (with_reducible refine (qbh_.calls g s0_0 s0_1 a1 t108 t109 t110 w0 _ ?side1 ?side2 ?side3 A3.out).mono ?_); (case side1 => repeat (first | (with_reducible first | exact HI0.out | apply IsS87.alloc | apply IsS87.drewN | apply IsS87.drew | apply IsS87.set_0 | apply IsS87.set_1 | refine IsS87.far ?_ N0_107.out _) | exact HI0.out)); (case side2 => repeat (first | (with_reducible first | exact HB.out | apply qaw_ | apply qay_ | apply qbu_ | refine qz_ ?_ (IsS87.ge HI0.out) | refine qz_ ?_ E107.out) | exact HB.out)); (case side3 => exact hgv); rintro e w7 ⟨rfl, hi, hb, hk⟩; refine ⟨_, rfl, ?_⟩; replace K107 := qa_.mk (qaj_.blk hk (g' := g107) (o := .cells #[.string ⟨#[]⟩, .string ⟨#[]⟩, .int .i64 0, .int .i64 0] 24 (0, 0)) (bk_ K107.out) N107_0.out (by simp)); replace HK := qa_.mk (qaj_.trans z13_ hk (.inl rfl)); replace HB := qa_.mk (hb); replace HI0 := qa_.mk (hi); (try clear hb); (try clear hb2); (try clear hk); (try clear hi)) | ((with_reducible refine qb_ (f := 29) rfl ?_); refine gl_ (some 11) func29 #[.string t108] ?_; (with_reducible refine (qao_.calls k t108 t111 t112 t113 t114 t115 _ ?side1 A4.out).mono ?_); (case side1 => exact GV.below hgv z22_); rintro e w8 ⟨rfl, hb⟩; refine ⟨_, rfl, ?_⟩; replace K107 := ab_ K107 hb; replace HK := qa_.mk (qaj_.trans z13_ (qaj_.of_below hb g none) (.inl rfl)); replace HB := qa_.mk (qdi_ z22_ hb); replace HI0 := qa_.mk (IsS87.below z18_ hb); (try clear hb); (try clear hb2); (try clear hk); (try clear hi)) | ((with_reducible refine qh_ (N := 5) rfl ?_); refine be_ (cs := #[.string ⟨#[]⟩, .string ⟨#[]⟩, .int .i64 0, .int .i64 0]) (t := 24) ?_; intro g116 hg w9 hbox hb; replace HB := qa_.mk (qdi_ z22_ hb); have K116 := qa_.mk (hbox); have W116 := qa_.mk ((by rw [hg]; exact (qfj_ (w := w) (g := g) (row := none) z13_) : w.heap.size ≤ g116)); have E116 := qa_.mk ((Nat.le_trans HW0.out (by rw [hg]; exact (qfj_ (w := w) (g := g) (row := none) z13_) : w.heap.size ≤ g116) : w0.heap.size ≤ g116)); replace HK := qa_.mk (qaj_.trans z13_ (qaj_.of_below hb g none) (.inl rfl)); have N107_116 := qa_.mk (nl2_ hg K107.out); have N116_107 := qa_.mk (ng2_ hg K107.out); replace K107 := ab_ K107 hb; have N0_116 := qa_.mk ((by rw [hg]; exact Nat.ne_of_lt (IsS87.lt (show IsS87 w0 _ g t109 t110 from z18_)) : g ≠ g116)); have N116_0 := qa_.mk ((by rw [hg]; exact Nat.ne_of_gt (IsS87.lt (show IsS87 w0 _ g t109 t110 from z18_)) : g116 ≠ g)); replace HI0 := qa_.mk (IsS87.below z18_ hb); clear hb hbox hg; have hnb10 := N116_107.out; have hnc10 := N107_116.out; have hnb11 := N116_0.out; have hnc11 := N0_116.out; obtain ⟨Z12_0, Z12_1, Z12_2, Z12_3, F12⟩ := bc4 K116.out; have hnb13 := N107_0.out; have hnc13 := N0_107.out; obtain ⟨Z14_0, Z14_1, Z14_2, Z14_3, F14⟩ := bc4 K107.out))
  refine bodyPost_ret (results_cell_row rfl _ _ g107 24 #[.string t111, .string t112, .int .i64 t113, .int .i64 t114] (0, 0) _ rfl (by have b_ := K107; have f_ := N107_116; exact zb_) underlying24 rfl (by kernel_rfl)) rfl ?_; exact ⟨z3_, by repeat (first | (with_reducible first | exact HI0.out | apply IsS87.alloc | apply IsS87.drewN | apply IsS87.drew | apply IsS87.set_0 | apply IsS87.set_1 | refine IsS87.far ?_ N0_107.out _ | refine IsS87.far ?_ N0_116.out _) | exact HI0.out), by repeat (first | (with_reducible first | exact HB.out | apply qaw_ | apply qay_ | apply qbu_ | refine qz_ ?_ (IsS87.ge HI0.out) | refine qz_ ?_ E107.out | refine qz_ ?_ E116.out) | exact HB.out), z33_⟩
 rw [if_neg c5] at H; have c5b0 := ef_ c5; have c5b1 := nt_ c5; obtain ⟨⟨t117, t118⟩, A15, H⟩ := bx_ H; dsimp only at H; obtain ⟨rfl, rfl, rfl, rfl, rfl, rfl⟩ := pj6_ H; go_enter func72, ntmps72; go_wp2_with (first | ((with_reducible refine qh_ (N := 4) rfl ?_); refine be_ (cs := #[.string ⟨#[]⟩, .string ⟨#[]⟩, .int .i64 0, .int .i64 0]) (t := 24) ?_; intro g107 hg w16 hbox hb; replace HB := qa_.mk (qdi_ z11_ hb); have K107 := qa_.mk (hbox); have W107 := qa_.mk ((by rw [hg]; exact (qfj_ (w := w) (g := g) (row := none) z7_) : w.heap.size ≤ g107)); have E107 := qa_.mk ((Nat.le_trans HW0.out (by rw [hg]; exact (qfj_ (w := w) (g := g) (row := none) z7_) : w.heap.size ≤ g107) : w0.heap.size ≤ g107)); replace HK := qa_.mk (qaj_.trans z7_ (qaj_.of_below hb g none) (.inl rfl)); have N0_107 := qa_.mk ((by rw [hg]; exact Nat.ne_of_lt (IsS87.lt (show IsS87 w0 _ g s0_0 s0_1 from z10_)) : g ≠ g107)); have N107_0 := qa_.mk ((by rw [hg]; exact Nat.ne_of_gt (IsS87.lt (show IsS87 w0 _ g s0_0 s0_1 from z10_)) : g107 ≠ g)); replace HI0 := qa_.mk (IsS87.below z10_ hb); clear hb hbox hg) | ((with_reducible refine qb_ (f := 73) rfl ?_); refine gl_ (some 10) func73 #[.pointer (some ⟨g, 0, none⟩), .string a1] ?_; (with_reducible refine (qbh_.calls g s0_0 s0_1 a1 t108 t109 t110 w0 _ ?side1 ?side2 ?side3 A3.out).mono ?_); (case side1 => repeat (first | (with_reducible first | exact HI0.out | apply IsS87.alloc | apply IsS87.drewN | apply IsS87.drew | apply IsS87.set_0 | apply IsS87.set_1 | refine IsS87.far ?_ N0_107.out _) | exact HI0.out)); (case side2 => repeat (first | (with_reducible first | exact HB.out | apply qaw_ | apply qay_ | apply qbu_ | refine qz_ ?_ (IsS87.ge HI0.out) | refine qz_ ?_ E107.out) | exact HB.out)); (case side3 => exact hgv); rintro e w17 ⟨rfl, hi, hb, hk⟩; refine ⟨_, rfl, ?_⟩; replace K107 := qa_.mk (qaj_.blk hk (g' := g107) (o := .cells #[.string ⟨#[]⟩, .string ⟨#[]⟩, .int .i64 0, .int .i64 0] 24 (0, 0)) (bk_ K107.out) N107_0.out (by simp)); replace HK := qa_.mk (qaj_.trans z13_ hk (.inl rfl)); replace HB := qa_.mk (hb); replace HI0 := qa_.mk (hi); (try clear hb); (try clear hb2); (try clear hk); (try clear hi)) | ((with_reducible refine qb_ (f := 29) rfl ?_); refine gl_ (some 11) func29 #[.string t108] ?_; (with_reducible refine (qao_.calls k t108 t111 t112 t113 t114 t115 _ ?side1 A4.out).mono ?_); (case side1 => exact GV.below hgv z22_); rintro e w18 ⟨rfl, hb⟩; refine ⟨_, rfl, ?_⟩; replace K107 := ab_ K107 hb; replace HK := qa_.mk (qaj_.trans z13_ (qaj_.of_below hb g none) (.inl rfl)); replace HB := qa_.mk (qdi_ z22_ hb); replace HI0 := qa_.mk (IsS87.below z18_ hb); (try clear hb); (try clear hb2); (try clear hk); (try clear hi)) | ((with_reducible refine qh_ (N := 5) rfl ?_); refine be_ (cs := #[.string ⟨#[]⟩, .string ⟨#[]⟩, .int .i64 0, .int .i64 0]) (t := 24) ?_; intro g116 hg w19 hbox hb; replace HB := qa_.mk (qdi_ z22_ hb); have K116 := qa_.mk (hbox); have W116 := qa_.mk ((by rw [hg]; exact (qfj_ (w := w) (g := g) (row := none) z13_) : w.heap.size ≤ g116)); have E116 := qa_.mk ((Nat.le_trans HW0.out (by rw [hg]; exact (qfj_ (w := w) (g := g) (row := none) z13_) : w.heap.size ≤ g116) : w0.heap.size ≤ g116)); replace HK := qa_.mk (qaj_.trans z13_ (qaj_.of_below hb g none) (.inl rfl)); have N107_116 := qa_.mk (nl2_ hg K107.out); have N116_107 := qa_.mk (ng2_ hg K107.out); replace K107 := ab_ K107 hb; have N0_116 := qa_.mk ((by rw [hg]; exact Nat.ne_of_lt (IsS87.lt (show IsS87 w0 _ g t109 t110 from z18_)) : g ≠ g116)); have N116_0 := qa_.mk ((by rw [hg]; exact Nat.ne_of_gt (IsS87.lt (show IsS87 w0 _ g t109 t110 from z18_)) : g116 ≠ g)); replace HI0 := qa_.mk (IsS87.below z18_ hb); clear hb hbox hg; have hnb20 := N116_107.out; have hnc20 := N107_116.out; have hnb21 := N116_0.out; have hnc21 := N0_116.out; obtain ⟨Z22_0, Z22_1, Z22_2, Z22_3, F22⟩ := bc4 K116.out) | ((with_reducible refine qb_ (f := 74) rfl ?_); refine gl_ (some 18) func74 #[.pointer (some ⟨g, 0, none⟩), .int .i64 t115] ?_; (with_reducible refine (qbt_.calls g t109 t110 t115 t117 t118 w0 _ ?side1 ?side2 A15.out).mono ?_); (case side1 => repeat (first | (with_reducible first | exact HI0.out | apply IsS87.alloc | apply IsS87.drewN | apply IsS87.drew | apply IsS87.set_0 | apply IsS87.set_1 | refine IsS87.far ?_ N0_107.out _ | refine IsS87.far ?_ N0_116.out _) | exact HI0.out)); (case side2 => repeat (first | (with_reducible first | exact HB.out | apply qaw_ | apply qay_ | apply qbu_ | refine qz_ ?_ (IsS87.ge HI0.out) | refine qz_ ?_ E107.out | refine qz_ ?_ E116.out) | exact HB.out)); rintro e w23 ⟨rfl, hi, hb, hk⟩; refine ⟨_, rfl, ?_⟩; replace K107 := qa_.mk (qaj_.blk hk (g' := g107) (o := .cells #[.string ⟨#[]⟩, .string ⟨#[]⟩, .int .i64 0, .int .i64 0] 24 (0, 0)) (by have b_ := K107; have f_ := N107_116; exact zb_) N107_0.out (by simp)); replace K116 := qa_.mk (qaj_.blk hk (g' := g116) (o := .cells #[.string t111, .string t112, .int .i64 t113, .int .i64 t114] 24 (0, 0)) (by have b_ := K116; exact zb_) N116_0.out (by simp)); replace HK := qa_.mk (qaj_.trans z33_ hk (.inl rfl)); replace HB := qa_.mk (hb); replace HI0 := qa_.mk (hi); (try clear hb); (try clear hb2); (try clear hk); (try clear hi); obtain ⟨Z24_0, Z24_1, Z24_2, Z24_3, F24⟩ := bc4 K116.out; have hnb25 := N107_0.out; have hnc25 := N0_107.out; obtain ⟨Z26_0, Z26_1, Z26_2, Z26_3, F26⟩ := bc4 K107.out))
 refine bodyPost_ret (results_cell_row rfl _ _ g107 24 #[.string t111, .string t112, .int .i64 t113, .int .i64 t114] (0, 0) _ rfl (by have b_ := K107; exact zb_) underlying24 rfl (by kernel_rfl)) rfl ?_; exact ⟨z3_, by repeat (first | (with_reducible first | exact HI0.out | apply IsS87.alloc | apply IsS87.drewN | apply IsS87.drew | apply IsS87.set_0 | apply IsS87.set_1 | refine IsS87.far ?_ N0_107.out _ | refine IsS87.far ?_ N0_116.out _) | exact HI0.out), by repeat (first | (with_reducible first | exact HB.out | apply qaw_ | apply qay_ | apply qbu_ | refine qz_ ?_ (IsS87.ge HI0.out) | refine qz_ ?_ E107.out | refine qz_ ?_ E116.out) | exact HB.out), z33_⟩
variable {P : Program} {ops : Array Oper} {Q : Exit → Act → World → Prop}
theorem goesF_ {rest : List Oper} {oi : Oper} {a : Act} {w : World} (N : Option Tmp) (hd : oi.dst = N) (hg : oi.guard = none) {t : Tmp} {g : Nat} {lb : Array Value} {os : Array Operand} {ts : Array TypeId}
    (eg : ∀ args w, (callFunc g args).run P w = .ok (.enter g args) w) (args : Array Value)
    (hop : oi.op = .call { callee := .value (.tmp t), args := os, argTypes := ts }) (hf : a.eval (.tmp t) = .func (.func g) #[] lb) (hargs : os.map a.eval = args) (all : Array Value) (hall : args ++ lb = all)
    (h : Calls P g all w fun e w' => ∃ v, e = .returned v ∧ wpList P ops Q rest (a.put N v) w') : wpList P ops Q (oi :: rest) a w := by
  refine wpList_plain hg fun K hK => ?_
  have hrun : (execOp a.eval oi).run P w = .ok (.enter g all) w := by
    unfold execOp
    simp [hop, resolve, Deferred.ofValue, invoke, hf, hargs, eg, hall]
  unfold Oper.wp
  rw [hrun, Oper.upon_enter]
  refine h.mono fun e w'' hh => ?_
  obtain ⟨v, rfl, hk⟩ := hh
  subst hd
  exact hK _ _ hk
theorem goesT_ {oi : Oper} {N : Option Tmp} {a : Act} {w : World} {K : Act → World → Prop} {f : FuncId} {fn : Func} {t : Tmp} {os : Array Operand} {ts : Array TypeId} (hf : P.funcs[f]? = some fn) (hname : (fn.name == "runtime.NumGoroutine") = false) (hb : fn.body.isSome = true) (args : Array Value)
    (hw : Region.wanted oi (yielded ops a.tmps) = true) (hN : oi.dst = N) (hop : oi.op = .call { callee := .value (.tmp t), args := os, argTypes := ts }) (hfv : a.eval (.tmp t) = .func (.func f) #[] #[]) (hargs : os.map a.eval = args)
    (h : Calls P f args w fun e w' => ∃ v, e = .returned v ∧ K (a.put N v) w') : if Region.wanted oi (yielded ops a.tmps) = true then Oper.wp P oi a w K Q else K (a.put N undef) w := by
  refine call_ f args hw hN ?_ h
  have he := qfb_ hf hname hb args w
  unfold execOp
  simp [hop, resolve, Deferred.ofValue, invoke, hfv, hargs, he]
def qs_.l0 : Nat → List ByteArray → (ByteArray → Option (Bool)) → Int → Int → Option (Int)
 | 0, _, _, _, _ => none
 | k + 1, x0, x1, x7, x8 => if x8 < x7 then (if 0 ≤ x8 then (if x8 < (x0.length : Int) then ((x1 (rdOf ByteArray.empty x0 x8)).bind fun t188 => (if t188 = true then (some x8) else (qs_.l0 k x0 x1 x7 (wrap64 (x8 + 1))))) else (none)) else (none)) else (some (-1))
def qs_.f (k : Nat) (l0 : List ByteArray) (a1 : (ByteArray → Option (Bool))) : Option (Int) := qs_.l0 k l0 a1 (l0.length : Int) 0
theorem qs_.mono_l : ∀ k, (∀ y0 y1 y2 y3, LeO (qs_.l0 k y0 y1 y2 y3) (qs_.l0 (k + 1) y0 y1 y2 y3))
 | 0 => fun _ _ _ _ r h => by simp [qs_.l0] at h
 | k + 1 => by
  have ih0 := qs_.mono_l k
  ·intro y0 y1 y2 y3
   unfold qs_.l0
   have m0_ := @ih0
   exact mz_
theorem qs_.mono : ∀ a0 a1 k, LeO (qs_.f k a0 a1) (qs_.f (k + 1) a0 a1) := by
 intro a0 a1 k; have ih0 := qs_.mono_l k; unfold qs_.f; have m0_ := @ih0; exact mz_
theorem qs_.calls (k : Nat) (A0 : Option Addr) (c0 : Nat) (l0 : List ByteArray) (G1_ : Nat) (B1_ : Array Value) (a1 : (ByteArray → Option (Bool))) (r : Int) (w : World) (hr0 : Kd.C Kd.string w A0 l0.length l0) (hc0 : l0.length ≤ c0) (eg1_ : ∀ args w, (callFunc G1_ args).run Tryz.prog w = .ok (.enter G1_ args) w) (hq1_ : ∀ (z0 : ByteArray) (zr0 : Bool) (W_ : World), Below w.heap.size w W_ → a1 z0 = some zr0 → Calls Tryz.prog G1_ (#[.string z0] ++ B1_) W_ fun e w' => e = .returned (.bool zr0) ∧ Below W_.heap.size W_ w') (h : qs_.f k l0 a1 = some r) :
  Calls Tryz.prog 138 #[.slice A0 l0.length c0, .func (.func G1_) #[] B1_] w fun e w' => e = .returned (.int .i64 r) ∧ Below w.heap.size w w' := by
 have HR0 := qa_.mk hr0; have HC0 := qa_.mk hc0; clear hr0 hc0; have HB := qa_.mk (Below.refl w.heap.size w); unfold qs_.f at h; have H := h; clear h; have H' := qa_.mk H; clear H; go_enter func138, ntmps138; go_wp2
 go_loopg [8] k (fun kq v8 w' => ∃ (x8_1 : Int), v8 = .int .i64 x8_1 ∧ qa_ (qs_.l0 kq l0 a1 (l0.length : Int) x8_1 = some r) ∧ qa_ (kq ≤ k) ∧ qa_ (Below w.heap.size w w'))
 case atStart => exact ⟨(0), z1_, H', ⟨Nat.le_refl _⟩, ⟨hb_ HB.out⟩⟩
 case round =>
  clear H'; try clear c1
  try clear p2
  obtain ⟨x8_1, rfl, HA, HK1, HB⟩ := hrel
  cases gk with
  | zero => exact absurd HA.out (by simp [qs_.l0])
  | succ k1 =>
   have H := HA.out; clear HA; simp only [qs_.l0] at H; by_cases c3 : x8_1 < (l0.length : Int); rotate_left
   ·rw [if_neg c3] at H; have c3b0 := df_ c3; clear c3; obtain rfl := oi_ H; go_wp2
    go_ret
    exact ⟨z3_, hb_ HB.out⟩
   rw [if_pos c3] at H; have c3b0 := dt_ c3; clear c3; by_cases c4 : 0 ≤ x8_1; rotate_left
   ·rw [if_neg c4] at H; exact no_ H
   rw [if_pos c4] at H; have c4b0 := dt_ c4; clear c4; by_cases c5 : x8_1 < (l0.length : Int); rotate_left
   ·rw [if_neg c5] at H; exact no_ H
   rw [if_pos c5] at H; have c5b0 := dt_ c5; clear c5; obtain ⟨t188, A6, H⟩ := bx_ H; by_cases c7 : t188 = true
   ·subst c7; rw [if_pos rfl] at H; obtain rfl := oi_ H; have p187 : 0 ≤ (x8_1 : Int) := y0_; have q187 : x8_1 < (l0.length : Int) := y0_; obtain ⟨ad187, e187, hx187_0⟩ := Kd.at_string HR0.out x8_1 p187 q187
    cases e187
    replace hx187_0 := (HB.out.cell (World.block_lt_of_cell? w _ hx187_0)).trans hx187_0; replace p187 := eq_true p187; replace q187 := eq_true q187; go_wp2_with (first | (refine goesF_ (some 16) rfl rfl (g := G1_) (lb := B1_) eg1_ #[.string (rdOf ByteArray.empty l0 x8_1)] rfl rfl z8_ (#[.string (rdOf ByteArray.empty l0 x8_1)] ++ B1_) (by first | rfl | simp) ?_; (refine (hq1_ (rdOf ByteArray.empty l0 x8_1) true _  ?side1 A6.out).mono ?_); (case side1 => repeat (first | (with_reducible first | exact HB.out | apply qaw_ | apply qay_ | apply qbu_) | exact HB.out)); rintro e w8 ⟨rfl, hb⟩; refine ⟨_, rfl, ?_⟩; replace HB := ah_ HB hb; (try clear hb); (try clear hb2); (try clear hk); (try clear hi)))
    go_ret
    exact ⟨z3_, hb_ HB.out⟩
   replace c7 := Bool.eq_false_iff.mpr c7; subst c7; rw [if_neg nft_] at H; have H' := qa_.mk H; clear H; have p187 : 0 ≤ (x8_1 : Int) := y0_; have q187 : x8_1 < (l0.length : Int) := y0_; obtain ⟨ad187, e187, hx187_0⟩ := Kd.at_string HR0.out x8_1 p187 q187
   cases e187
   replace hx187_0 := (HB.out.cell (World.block_lt_of_cell? w _ hx187_0)).trans hx187_0; replace p187 := eq_true p187; replace q187 := eq_true q187; go_wp2_with (first | (refine goesF_ (some 16) rfl rfl (g := G1_) (lb := B1_) eg1_ #[.string (rdOf ByteArray.empty l0 x8_1)] rfl rfl z8_ (#[.string (rdOf ByteArray.empty l0 x8_1)] ++ B1_) (by first | rfl | simp) ?_; (refine (hq1_ (rdOf ByteArray.empty l0 x8_1) false _  ?side1 A6.out).mono ?_); (case side1 => repeat (first | (with_reducible first | exact HB.out | apply qaw_ | apply qay_ | apply qbu_) | exact HB.out)); rintro e w9 ⟨rfl, hb⟩; refine ⟨_, rfl, ?_⟩; replace HB := ah_ HB hb; (try clear hb); (try clear hb2); (try clear hk); (try clear hi)))
   go_roundg k1
   case measure => have := HK1.out; omega
   case rel => exact ⟨(wrap64 (x8_1 + 1)), z1_, H', ⟨by have := HK1.out; omega⟩, ⟨hb_ HB.out⟩⟩
def qam_.f (k : Nat) (l0 : List ByteArray) (a1 : (ByteArray → Option (Bool))) : Option (Bool) := (qs_.f k l0 a1).bind fun t189 => (some (decide (t189 ≥ 0)))
theorem qam_.mono : ∀ a0 a1 k, LeO (qam_.f k a0 a1) (qam_.f (k + 1) a0 a1) := by
 intro a0 a1 k; unfold qam_.f; have m0_ := @qs_.mono; exact mz_
theorem qam_.calls (k : Nat) (A0 : Option Addr) (c0 : Nat) (l0 : List ByteArray) (G1_ : Nat) (B1_ : Array Value) (a1 : (ByteArray → Option (Bool))) (r : Bool) (w : World) (hr0 : Kd.C Kd.string w A0 l0.length l0) (hc0 : l0.length ≤ c0) (eg1_ : ∀ args w, (callFunc G1_ args).run Tryz.prog w = .ok (.enter G1_ args) w) (hq1_ : ∀ (z0 : ByteArray) (zr0 : Bool) (W_ : World), Below w.heap.size w W_ → a1 z0 = some zr0 → Calls Tryz.prog G1_ (#[.string z0] ++ B1_) W_ fun e w' => e = .returned (.bool zr0) ∧ Below W_.heap.size W_ w') (h : qam_.f k l0 a1 = some r) :
  Calls Tryz.prog 66 #[.slice A0 l0.length c0, .func (.func G1_) #[] B1_] w fun e w' => e = .returned (.bool r) ∧ Below w.heap.size w w' := by
 have HR0 := qa_.mk hr0; have HC0 := qa_.mk hc0; clear hr0 hc0; have HB := qa_.mk (Below.refl w.heap.size w); unfold qam_.f at h; have H := h; clear h; obtain ⟨t189, A3, H⟩ := bx_ H; obtain rfl := oi_ H; go_enter func66, ntmps66; go_wp2_with (first | ((with_reducible refine qb_ (f := 138) rfl ?_); refine gl_ (some 7) func138 #[.slice A0 l0.length c0, .func (.func G1_) #[] B1_] ?_; (with_reducible refine (qs_.calls k _ _ l0 G1_ B1_ a1 t189 _ ?side1 ?side2 ?side3 ?side4 A3.out).mono ?_); (case side1 => repeat (first | exact HR0.out | (with_reducible refine Kd.C_alloc ?_ _) | (with_reducible refine Kd.C_drewN ?_ _) | (with_reducible refine Kd.C_drew ?_))); (case side2 => exact HC0.out); (case side3 => exact eg1_); (case side4 => intro z0_ z1_ W_ hB_ h_; exact hq1_ z0_ z1_ _ (Below.trans (hb_ HB.out) (hB_.mono (qj_ (hb_ HB.out)))) h_); rintro e w4 ⟨rfl, hb⟩; refine ⟨_, rfl, ?_⟩; replace HB := ah_ HB hb; (try clear hb); (try clear hb2); (try clear hk); (try clear hi)))
 go_ret
 exact ⟨z3_, hb_ HB.out⟩
end
end Go.Proofs.YtbhfbbfjdklfgaaGreatDoor.Q

