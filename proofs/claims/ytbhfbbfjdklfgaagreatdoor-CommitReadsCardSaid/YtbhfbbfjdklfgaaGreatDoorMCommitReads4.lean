/- The law CommitReads holds: for every input it returns true, and each argument reads afterwards as it read before. -/
import Derived.Test.YtbhfbbfjdklfgaaGreatDoorMCommitReads3
set_option linter.unusedVariables false
set_option linter.unusedSimpArgs false
set_option maxHeartbeats 8000000
set_option maxRecDepth 100000
namespace Go.Proofs.YtbhfbbfjdklfgaaGreatDoor.Q
open Go.Proofs.Tryz Go.RowKit Go.Proofs.YtbhfbbfjdklfgaaGreatDoorW.PrintWords Go.Proofs.YtbhfbbfjdklfgaaGreatDoorW.PrintLast Go.Proofs.YtbhfbbfjdklfgaaGreatDoorW.PrintMore
attribute [local go_sem] qec_ qef_ qen_ qeo_ qdt_ qdu_ qdz_ qee_
def qbc_.l0 : Nat → ByteArray → Int → Int → Option (Bool)
 | 0, _, _, _ => none
 | k + 1, x0, x5, x6 => if x6 < x5 then (if 0 ≤ x6 then (if x6 < (x0.size : Int) then (if (bt x0 x6) ≤ 32 then (some false) else (qbc_.l0 k x0 x5 (wrap64 (x6 + 1)))) else (none)) else (none)) else (if (x0.size : Int) ≥ 1 then (some (decide ((x0.size : Int) ≤ 64))) else (some false))
def qbc_.f (k : Nat) (a0 : ByteArray) : Option (Bool) := qbc_.l0 k a0 (a0.size : Int) 0
theorem qbc_.mono_l : ∀ k, (∀ y0 y1 y2, LeO (qbc_.l0 k y0 y1 y2) (qbc_.l0 (k + 1) y0 y1 y2))
 | 0 => fun _ _ _ r h => by simp [qbc_.l0] at h
 | k + 1 => by
  have ih0 := qbc_.mono_l k
  ·intro y0 y1 y2
   unfold qbc_.l0
   have m0_ := @ih0
   exact mz_
theorem qbc_.mono : ∀ a0 k, LeO (qbc_.f k a0) (qbc_.f (k + 1) a0) := by
 intro a0 k; have ih0 := qbc_.mono_l k; unfold qbc_.f; have m0_ := @ih0; exact mz_
theorem qbc_.calls (k : Nat) (a0 : ByteArray) (r : Bool) (w : World) (h : qbc_.f k a0 = some r) :
  Calls Tryz.prog 81 #[.string a0] w fun e w' => e = .returned (.bool r) ∧ Drawn0 w w' := by
 unfold qbc_.f at h; have H := h; clear h; have H' := qa_.mk H; clear H; go_enter func81, ntmps81; go_wp2
 go_loopg [6] k (fun kq v6 w' => ∃ (x6_1 : Int), v6 = .int .i64 x6_1 ∧ qa_ (qbc_.l0 kq a0 (a0.size : Int) x6_1 = some r) ∧ qa_ (kq ≤ k) ∧ Drawn0 w w')
 case atStart => exact ⟨(0), z1_, H', ⟨Nat.le_refl _⟩, z2_⟩
 case round =>
  clear H'; obtain ⟨x6_1, rfl, HA, HK1, ⟨m1, rfl⟩⟩ := hrel
  cases gk with
  | zero => exact absurd HA.out (by simp [qbc_.l0])
  | succ k1 =>
   have H := HA.out; clear HA; simp only [qbc_.l0] at H; by_cases c2 : x6_1 < (a0.size : Int); rotate_left
   ·rw [if_neg c2] at H; have c2b0 := df_ c2; clear c2; by_cases c7 : (a0.size : Int) ≥ 1
    ·rw [if_pos c7] at H; have c7b0 := dt_ c7; have c7b1 : decide (1 ≤ a0.size) = true := decide_eq_true (by omega); clear c7; obtain rfl := oi_ H; go_wp2
     go_ret
     exact ⟨z1_, z2_⟩
    rw [if_neg c7] at H; have c7b0 := df_ c7; have c7b1 : decide (1 ≤ a0.size) = false := decide_eq_false (by omega); clear c7; obtain rfl := oi_ H; go_wp2
    go_ret
    exact ⟨z1_, z2_⟩
   rw [if_pos c2] at H; have c2b0 := dt_ c2; clear c2; by_cases c3 : 0 ≤ x6_1; rotate_left
   ·rw [if_neg c3] at H; exact no_ H
   rw [if_pos c3] at H; have c3b0 := dt_ c3; clear c3; by_cases c4 : x6_1 < (a0.size : Int); rotate_left
   ·rw [if_neg c4] at H; exact no_ H
   rw [if_pos c4] at H; have c4b0 := dt_ c4; clear c4; by_cases c6 : (bt a0 x6_1) ≤ 32
   ·rw [if_pos c6] at H; have c6b0 := dt_ c6; clear c6; obtain rfl := oi_ H; have p5 : 0 ≤ (x6_1 : Int) := y0_; have q5 : x6_1 < (a0.size : Int) := y0_; have hx5 := bt_at a0 x6_1; replace p5 := eq_true p5; replace q5 := eq_true q5; go_wp2
    go_ret
    exact ⟨z1_, z2_⟩
   rw [if_neg c6] at H; have c6b0 := df_ c6; clear c6; have H' := qa_.mk H; clear H; have p5 : 0 ≤ (x6_1 : Int) := y0_; have q5 : x6_1 < (a0.size : Int) := y0_; have hx5 := bt_at a0 x6_1; replace p5 := eq_true p5; replace q5 := eq_true q5; go_wp2
   go_roundg k1
   case measure => have := HK1.out; omega
   case rel => exact ⟨(wrap64 (x6_1 + 1)), z1_, H', ⟨by have := HK1.out; omega⟩, z2_⟩
theorem kinds_size : (Tryz.prog.info? 148).map (·.size) = some 8 := by kernel_rfl
theorem kinds_calls (w : World) : Calls Tryz.prog 143 #[] w fun e w' => e = .returned (.agg #[.int .i64 1, .string ⟨#[98, 108, 111, 98]⟩, .int .i64 2, .string ⟨#[116, 114, 101, 101]⟩, .int .i64 3, .string ⟨#[99, 111, 109, 109, 105, 116]⟩, .int .i64 4, .string ⟨#[116, 97, 103]⟩]) ∧ Below w.heap.size w w' := by
  have HB := qa_.mk (Below.refl w.heap.size w)
  have huk := underlying148
  have huk2 := underlying147
  go_enter func143, ntmps143
  go_wp2_with ((with_reducible refine qk_ (N := 0) rfl ?_); refine qfh_ ?hg (N := 0) ?hd (cs := #[.int .i64 0, .string ⟨#[]⟩, .int .i64 0, .string ⟨#[]⟩, .int .i64 0, .string ⟨#[]⟩, .int .i64 0, .string ⟨#[]⟩]) (t := 148) ?hr ?_; (case hd => rfl); (case hg => rfl); (case hr => first | (go_simp; done) | (go_simp; rfl)); intro gb hg w3 hbox hb; have HB3 := qa_.mk (qc_ HB.out hb); have BK := qa_.mk hbox; have GE := qa_.mk (show w.heap.size ≤ gb by rw [hg]; exact Nat.le_refl _); clear hb hbox hg; have hcz0 : w3.cell? ⟨gb, 0, none⟩ = some (.int .i64 0) := (qd_ BK.out 0).trans rfl; have hfz0 := ql_ BK.out 0; have hcz1 : w3.cell? ⟨gb, 1, none⟩ = some (.string ⟨#[]⟩) := (qd_ BK.out 1).trans rfl; have hfz1 := ql_ BK.out 1; have hcz2 : w3.cell? ⟨gb, 2, none⟩ = some (.int .i64 0) := (qd_ BK.out 2).trans rfl; have hfz2 := ql_ BK.out 2; have hcz3 : w3.cell? ⟨gb, 3, none⟩ = some (.string ⟨#[]⟩) := (qd_ BK.out 3).trans rfl; have hfz3 := ql_ BK.out 3; have hcz4 : w3.cell? ⟨gb, 4, none⟩ = some (.int .i64 0) := (qd_ BK.out 4).trans rfl; have hfz4 := ql_ BK.out 4; have hcz5 : w3.cell? ⟨gb, 5, none⟩ = some (.string ⟨#[]⟩) := (qd_ BK.out 5).trans rfl; have hfz5 := ql_ BK.out 5; have hcz6 : w3.cell? ⟨gb, 6, none⟩ = some (.int .i64 0) := (qd_ BK.out 6).trans rfl; have hfz6 := ql_ BK.out 6; have hcz7 : w3.cell? ⟨gb, 7, none⟩ = some (.string ⟨#[]⟩) := (qd_ BK.out 7).trans rfl; have hfz7 := ql_ BK.out 7)
  clear hcz0 hcz1 hcz2 hcz3 hcz4 hcz5 hcz6 hcz7 hfz0 hfz1 hfz2 hfz3 hfz4 hfz5 hfz6 hfz7
  have hh := (qfb_ (cs := #[.int .i64 1, .string ⟨#[98, 108, 111, 98]⟩, .int .i64 2, .string ⟨#[116, 114, 101, 101]⟩, .int .i64 3, .string ⟨#[99, 111, 109, 109, 105, 116]⟩, .int .i64 4, .string ⟨#[]⟩]) (cs' := #[.int .i64 1, .string ⟨#[98, 108, 111, 98]⟩, .int .i64 2, .string ⟨#[116, 114, 101, 101]⟩, .int .i64 3, .string ⟨#[99, 111, 109, 109, 105, 116]⟩, .int .i64 4, .string ⟨#[116, 97, 103]⟩]) (qfb_ (cs := #[.int .i64 1, .string ⟨#[98, 108, 111, 98]⟩, .int .i64 2, .string ⟨#[116, 114, 101, 101]⟩, .int .i64 3, .string ⟨#[99, 111, 109, 109, 105, 116]⟩, .int .i64 0, .string ⟨#[]⟩]) (cs' := #[.int .i64 1, .string ⟨#[98, 108, 111, 98]⟩, .int .i64 2, .string ⟨#[116, 114, 101, 101]⟩, .int .i64 3, .string ⟨#[99, 111, 109, 109, 105, 116]⟩, .int .i64 4, .string ⟨#[]⟩]) (qfb_ (cs := #[.int .i64 1, .string ⟨#[98, 108, 111, 98]⟩, .int .i64 2, .string ⟨#[116, 114, 101, 101]⟩, .int .i64 3, .string ⟨#[]⟩, .int .i64 0, .string ⟨#[]⟩]) (cs' := #[.int .i64 1, .string ⟨#[98, 108, 111, 98]⟩, .int .i64 2, .string ⟨#[116, 114, 101, 101]⟩, .int .i64 3, .string ⟨#[99, 111, 109, 109, 105, 116]⟩, .int .i64 0, .string ⟨#[]⟩]) (qfb_ (cs := #[.int .i64 1, .string ⟨#[98, 108, 111, 98]⟩, .int .i64 2, .string ⟨#[116, 114, 101, 101]⟩, .int .i64 0, .string ⟨#[]⟩, .int .i64 0, .string ⟨#[]⟩]) (cs' := #[.int .i64 1, .string ⟨#[98, 108, 111, 98]⟩, .int .i64 2, .string ⟨#[116, 114, 101, 101]⟩, .int .i64 3, .string ⟨#[]⟩, .int .i64 0, .string ⟨#[]⟩]) (qfb_ (cs := #[.int .i64 1, .string ⟨#[98, 108, 111, 98]⟩, .int .i64 2, .string ⟨#[]⟩, .int .i64 0, .string ⟨#[]⟩, .int .i64 0, .string ⟨#[]⟩]) (cs' := #[.int .i64 1, .string ⟨#[98, 108, 111, 98]⟩, .int .i64 2, .string ⟨#[116, 114, 101, 101]⟩, .int .i64 0, .string ⟨#[]⟩, .int .i64 0, .string ⟨#[]⟩]) (qfb_ (cs := #[.int .i64 1, .string ⟨#[98, 108, 111, 98]⟩, .int .i64 0, .string ⟨#[]⟩, .int .i64 0, .string ⟨#[]⟩, .int .i64 0, .string ⟨#[]⟩]) (cs' := #[.int .i64 1, .string ⟨#[98, 108, 111, 98]⟩, .int .i64 2, .string ⟨#[]⟩, .int .i64 0, .string ⟨#[]⟩, .int .i64 0, .string ⟨#[]⟩]) (qfb_ (cs := #[.int .i64 1, .string ⟨#[]⟩, .int .i64 0, .string ⟨#[]⟩, .int .i64 0, .string ⟨#[]⟩, .int .i64 0, .string ⟨#[]⟩]) (cs' := #[.int .i64 1, .string ⟨#[98, 108, 111, 98]⟩, .int .i64 0, .string ⟨#[]⟩, .int .i64 0, .string ⟨#[]⟩, .int .i64 0, .string ⟨#[]⟩]) (qfb_ (cs := #[.int .i64 0, .string ⟨#[]⟩, .int .i64 0, .string ⟨#[]⟩, .int .i64 0, .string ⟨#[]⟩, .int .i64 0, .string ⟨#[]⟩]) (cs' := #[.int .i64 1, .string ⟨#[]⟩, .int .i64 0, .string ⟨#[]⟩, .int .i64 0, .string ⟨#[]⟩, .int .i64 0, .string ⟨#[]⟩]) BK.out 0 (.int .i64 1) rfl) 1 (.string ⟨#[98, 108, 111, 98]⟩) rfl) 2 (.int .i64 2) rfl) 3 (.string ⟨#[116, 114, 101, 101]⟩) rfl) 4 (.int .i64 3) rfl) 5 (.string ⟨#[99, 111, 109, 109, 105, 116]⟩) rfl) 6 (.int .i64 4) rfl) 7 (.string ⟨#[116, 97, 103]⟩) rfl)
  refine bodyPost_ret (results_cell_row rfl _ _ gb 148 #[.int .i64 1, .string ⟨#[98, 108, 111, 98]⟩, .int .i64 2, .string ⟨#[116, 114, 101, 101]⟩, .int .i64 3, .string ⟨#[99, 111, 109, 109, 105, 116]⟩, .int .i64 4, .string ⟨#[116, 97, 103]⟩] (0, 0) _ rfl hh huk rfl kinds_size) rfl ?_
  exact ⟨rfl, (qt_ (qt_ (qt_ (qt_ (qt_ (qt_ (qt_ (qt_ HB3.out GE.out) GE.out) GE.out) GE.out) GE.out) GE.out) GE.out) GE.out)⟩
def kindW : Nat → ByteArray
  | 0 => ⟨#[98, 108, 111, 98]⟩
  | 1 => ⟨#[116, 114, 101, 101]⟩
  | 2 => ⟨#[99, 111, 109, 109, 105, 116]⟩
  | _ => ⟨#[116, 97, 103]⟩
def wordF (n : Int) : Nat → Nat → ByteArray
  | 0, _ => ⟨#[]⟩
  | d + 1, i => if ((i : Int) + 1) = n then kindW i else wordF n d (i + 1)
def kindF (s : ByteArray) : Nat → Nat → Int
  | 0, _ => 0
  | d + 1, i => if (kindW i).toList = s.toList then (i : Int) + 1 else kindF s d (i + 1)
def qcu_.f (a0 : Int) : Option ByteArray := some (wordF a0 4 0)
def qet_.f (a0 : ByteArray) : Option Int := some (kindF a0 4 0)
def kindsV : Value := .agg #[.int .i64 1, .string ⟨#[98, 108, 111, 98]⟩, .int .i64 2, .string ⟨#[116, 114, 101, 101]⟩, .int .i64 3, .string ⟨#[99, 111, 109, 109, 105, 116]⟩, .int .i64 4, .string ⟨#[116, 97, 103]⟩]
theorem kinds_index (x : Int) (h0 : 0 ≤ x) (h5 : x < 4) (W : World) : (Instr.index 148 kindsV (.int .i64 x)).run Tryz.prog W = .ok (.agg #[.int .i64 (x + 1), .string (kindW x.toNat)]) W := by
  have hu := underlying148
  have hz := Tryz.sizeOf147
  have ha := Tryz.isAgg147
  have : x = 0 ∨ x = 1 ∨ x = 2 ∨ x = 3 := by omega
  rcases this with rfl | rfl | rfl | rfl <;> simp [Instr.index, kindsV, kindW, asIntOf, run_underlying hu, hz, Go.part, ha] <;> rfl
theorem qcu_.calls (a0 : Int) (r : ByteArray) (w : World) (h : qcu_.f a0 = some r) :
    Calls Tryz.prog 79 #[.int .i64 a0] w fun e w' => e = .returned (.string r) ∧ Below w.heap.size w w' := by
  have H' := qa_.mk (show wordF a0 4 0 = r from Option.some.inj h)
  have hu47 := underlying147
  clear h
  go_enter func79, ntmps79
  go_wp2_with (go_at_call 143; (with_reducible refine (kinds_calls _).mono ?_); rintro e w1 ⟨rfl, hb⟩; have HB := qa_.mk hb; clear hb)
  go_loopg [6] 4 (fun g v6 wr => ∃ (i : Nat) (x : Int), v6 = .int .i64 x ∧ qa_ (x = (i : Int) ∧ i + g = 4) ∧ qa_ (Below w.heap.size w wr) ∧ qa_ (wordF a0 g i = r))
  case atStart => exact ⟨0, 0, rfl, ⟨rfl, rfl⟩, HB, H'⟩
  case round =>
    clear H' HB
    obtain ⟨i, x, rfl, HX, HB, H⟩ := hrel
    cases gk with
    | zero =>
      have h5 : decide (x < 4) = false := by have := HX.out; exact decide_eq_false (by omega)
      have H0 := H.out
      rw [wordF] at H0
      subst H0
      clear H
      go_wp2
      go_ret
      exact ⟨rfl, HB.out⟩
    | succ g =>
      have H0 := H.out
      rw [wordF] at H0
      have h5 : decide (x < 4) = true := by have := HX.out; exact decide_eq_true (by omega)
      have hw1 : IntKind.i64.wrap (x + 1) = x + 1 := by have := HX.out; rw [IntKind.wrap_i64]; omega
      have hx0 := kinds_index x (by have := HX.out; omega) (by have := HX.out; omega)
      unfold kindsV at hx0
      obtain ⟨q, hq⟩ : ∃ q, q = kindW x.toNat := ⟨_, rfl⟩
      have HQ := qa_.mk hq
      rw [← hq] at hx0
      clear hq H
      by_cases hz : x + 1 = a0
      · have hz1 : (x + 1 == a0) = true := by simpa using hz
        rw [if_pos (by have := HX.out; omega)] at H0
        have e : q = r := by rw [HQ.out, ← H0, show x.toNat = i by have := HX.out; omega]
        subst e
        clear hz H0
        go_wp2_with ((with_reducible refine qk_ (N := 4) rfl ?_); refine qfh_ ?hg (N := 4) ?hd (cs := #[.int .i64 0, .string ⟨#[]⟩]) (t := 147) ?hr ?_; (case hd => rfl); (case hg => rfl); (case hr => first | (go_simp; done) | (go_simp; rfl)); intro gb hg w6 hbox hb2; have HB6 := qa_.mk (qc_ HB.out hb2); have E6 := qa_.mk (show w.heap.size ≤ gb by rw [hg]; exact HB.out.size); have K6 := qa_.mk hbox; clear hb2 hbox hg; have hcz0 : w6.cell? ⟨gb, 0, none⟩ = some (.int .i64 0) := (qd_ K6.out 0).trans rfl; have hcz1 : w6.cell? ⟨gb, 1, none⟩ = some (.string (⟨#[]⟩ : ByteArray)) := (qd_ K6.out 1).trans rfl; have hfz0 := ql_ K6.out 0; have hfz1 := ql_ K6.out 1)
        go_ret
        exact ⟨rfl, qt_ (qt_ HB6.out E6.out) E6.out⟩
      · have hz1 : (x + 1 == a0) = false := by simpa using hz
        rw [if_neg (by have := HX.out; omega)] at H0
        have HN := qa_.mk H0
        clear hz H0
        go_wp2_with ((with_reducible refine qk_ (N := 4) rfl ?_); refine qfh_ ?hg (N := 4) ?hd (cs := #[.int .i64 0, .string ⟨#[]⟩]) (t := 147) ?hr ?_; (case hd => rfl); (case hg => rfl); (case hr => first | (go_simp; done) | (go_simp; rfl)); intro gb hg w6 hbox hb2; have HB6 := qa_.mk (qc_ HB.out hb2); have E6 := qa_.mk (show w.heap.size ≤ gb by rw [hg]; exact HB.out.size); have K6 := qa_.mk hbox; clear hb2 hbox hg; have hcz0 : w6.cell? ⟨gb, 0, none⟩ = some (.int .i64 0) := (qd_ K6.out 0).trans rfl; have hcz1 : w6.cell? ⟨gb, 1, none⟩ = some (.string (⟨#[]⟩ : ByteArray)) := (qd_ K6.out 1).trans rfl; have hfz0 := ql_ K6.out 0; have hfz1 := ql_ K6.out 1)
        go_roundg g
        case measure => omega
        case rel => exact ⟨i + 1, x + 1, rfl, ⟨by have := HX.out; omega, by have := HX.out; omega⟩, ⟨qt_ (qt_ HB6.out E6.out) E6.out⟩, HN⟩
theorem qet_.calls (a0 : ByteArray) (r : Int) (w : World) (h : qet_.f a0 = some r) :
    Calls Tryz.prog 77 #[.string a0] w fun e w' => e = .returned (.int .i64 r) ∧ Below w.heap.size w w' := by
  have H' := qa_.mk (show kindF a0 4 0 = r from Option.some.inj h)
  have hu47 := underlying147
  clear h
  go_enter func77, ntmps77
  go_wp2_with (go_at_call 143; (with_reducible refine (kinds_calls _).mono ?_); rintro e w1 ⟨rfl, hb⟩; have HB := qa_.mk hb; clear hb)
  go_loopg [6] 4 (fun g v6 wr => ∃ (i : Nat) (x : Int), v6 = .int .i64 x ∧ qa_ (x = (i : Int) ∧ i + g = 4) ∧ qa_ (Below w.heap.size w wr) ∧ qa_ (kindF a0 g i = r))
  case atStart => exact ⟨0, 0, rfl, ⟨rfl, rfl⟩, HB, H'⟩
  case round =>
    clear H' HB
    obtain ⟨i, x, rfl, HX, HB, H⟩ := hrel
    cases gk with
    | zero =>
      have h5 : decide (x < 4) = false := by have := HX.out; exact decide_eq_false (by omega)
      have H0 := H.out
      rw [kindF] at H0
      subst H0
      clear H
      go_wp2
      go_ret
      exact ⟨rfl, HB.out⟩
    | succ g =>
      have H0 := H.out
      rw [kindF] at H0
      have h5 : decide (x < 4) = true := by have := HX.out; exact decide_eq_true (by omega)
      have hw1 : IntKind.i64.wrap (x + 1) = x + 1 := by have := HX.out; rw [IntKind.wrap_i64]; omega
      have hx0 := kinds_index x (by have := HX.out; omega) (by have := HX.out; omega)
      unfold kindsV at hx0
      obtain ⟨q, hq⟩ : ∃ q, q = kindW i := ⟨_, rfl⟩
      have HQ := qa_.mk hq
      rw [show x.toNat = i by have := HX.out; omega, ← hq] at hx0
      rw [← hq] at H0
      clear hq H
      by_cases hz : q.toList = a0.toList
      · have hz1 : (q.toList == a0.toList) = true := by simpa using hz
        rw [if_pos hz] at H0
        have e : x + 1 = r := by have := HX.out; omega
        subst e
        clear hz H0
        go_wp2_with ((with_reducible refine qk_ (N := 4) rfl ?_); refine qfh_ ?hg (N := 4) ?hd (cs := #[.int .i64 0, .string ⟨#[]⟩]) (t := 147) ?hr ?_; (case hd => rfl); (case hg => rfl); (case hr => first | (go_simp; done) | (go_simp; rfl)); intro gb hg w6 hbox hb2; have HB6 := qa_.mk (qc_ HB.out hb2); have E6 := qa_.mk (show w.heap.size ≤ gb by rw [hg]; exact HB.out.size); have K6 := qa_.mk hbox; clear hb2 hbox hg; have hcz0 : w6.cell? ⟨gb, 0, none⟩ = some (.int .i64 0) := (qd_ K6.out 0).trans rfl; have hcz1 : w6.cell? ⟨gb, 1, none⟩ = some (.string (⟨#[]⟩ : ByteArray)) := (qd_ K6.out 1).trans rfl; have hfz0 := ql_ K6.out 0; have hfz1 := ql_ K6.out 1)
        go_ret
        exact ⟨rfl, qt_ (qt_ HB6.out E6.out) E6.out⟩
      · have hz1 : (q.toList == a0.toList) = false := by simpa using hz
        rw [if_neg hz] at H0
        have HN := qa_.mk H0
        clear hz H0
        go_wp2_with ((with_reducible refine qk_ (N := 4) rfl ?_); refine qfh_ ?hg (N := 4) ?hd (cs := #[.int .i64 0, .string ⟨#[]⟩]) (t := 147) ?hr ?_; (case hd => rfl); (case hg => rfl); (case hr => first | (go_simp; done) | (go_simp; rfl)); intro gb hg w6 hbox hb2; have HB6 := qa_.mk (qc_ HB.out hb2); have E6 := qa_.mk (show w.heap.size ≤ gb by rw [hg]; exact HB.out.size); have K6 := qa_.mk hbox; clear hb2 hbox hg; have hcz0 : w6.cell? ⟨gb, 0, none⟩ = some (.int .i64 0) := (qd_ K6.out 0).trans rfl; have hcz1 : w6.cell? ⟨gb, 1, none⟩ = some (.string (⟨#[]⟩ : ByteArray)) := (qd_ K6.out 1).trans rfl; have hfz0 := ql_ K6.out 0; have hfz1 := ql_ K6.out 1)
        go_roundg g
        case measure => omega
        case rel => exact ⟨i + 1, x + 1, rfl, ⟨by have := HX.out; omega, by have := HX.out; omega⟩, ⟨qt_ (qt_ HB6.out E6.out) E6.out⟩, HN⟩
def qak_.j0 : Nat → Bool → ByteArray → Int → ByteArray → ByteArray → ByteArray → Int → Int → ByteArray → Option (Int)
 | 0, _, _, _, _, _, _, _, _, _ => none
 | k + 1, x29, x141000, x141001, x141002, x141003, x141004, x141005, x141006, x141007 => if x29 = true then (some 1) else (if (x141007.size : Int) > 4096 then (some 4) else (some 0))
def qak_.f (k : Nat) (a0_0 : ByteArray) (a0_1 : Int) (a0_2 : ByteArray) (a0_3 : ByteArray) (a0_4 : ByteArray) (a0_5 : Int) (a0_6 : Int) (a0_7 : ByteArray) : Option (Int) := (qck_.f k a0_0).bind fun t141 => (if t141 = true then ((qcu_.f a0_1).bind fun t142 => (if t142.toList = ([] : List UInt8) then (qak_.j0 k true a0_0 a0_1 a0_2 a0_3 a0_4 a0_5 a0_6 a0_7) else ((qbc_.f k a0_2).bind fun t143 => (if t143 = true then ((qax_.f k a0_3 a0_4 a0_5 a0_6).bind fun t144 => (if t144 = true then ((qci_.f a0_7 ⟨#[0]⟩).bind fun t145 => (qak_.j0 k t145 a0_0 a0_1 a0_2 a0_3 a0_4 a0_5 a0_6 a0_7)) else (qak_.j0 k true a0_0 a0_1 a0_2 a0_3 a0_4 a0_5 a0_6 a0_7))) else (qak_.j0 k true a0_0 a0_1 a0_2 a0_3 a0_4 a0_5 a0_6 a0_7))))) else (qak_.j0 k true a0_0 a0_1 a0_2 a0_3 a0_4 a0_5 a0_6 a0_7))
theorem qak_.mono_l : ∀ k, (∀ y0 y1 y2 y3 y4 y5 y6 y7 y8, LeO (qak_.j0 k y0 y1 y2 y3 y4 y5 y6 y7 y8) (qak_.j0 (k + 1) y0 y1 y2 y3 y4 y5 y6 y7 y8))
 | 0 => fun _ _ _ _ _ _ _ _ _ r h => by simp [qak_.j0] at h
 | k + 1 => by
  have ih0 := qak_.mono_l k
  ·intro y0 y1 y2 y3 y4 y5 y6 y7 y8
   unfold qak_.j0
   have m0_ := @ih0
   have m1_ := @qax_.mono
   have m2_ := @qbc_.mono
   have m3_ := @qck_.mono
   exact mz_
theorem qak_.mono : ∀ a0 a1 a2 a3 a4 a5 a6 a7 k, LeO (qak_.f k a0 a1 a2 a3 a4 a5 a6 a7) (qak_.f (k + 1) a0 a1 a2 a3 a4 a5 a6 a7) := by
 intro a0 a1 a2 a3 a4 a5 a6 a7 k; have ih0 := qak_.mono_l k; unfold qak_.f; have m0_ := @ih0; have m1_ := @qax_.mono; have m2_ := @qbc_.mono; have m3_ := @qck_.mono; exact mz_
theorem qak_.calls (k : Nat) (a0_0 : ByteArray) (a0_1 : Int) (a0_2 : ByteArray) (a0_3 : ByteArray) (a0_4 : ByteArray) (a0_5 : Int) (a0_6 : Int) (a0_7 : ByteArray) (r : Int) (w : World) (hgv : GV w) (h : qak_.f k a0_0 a0_1 a0_2 a0_3 a0_4 a0_5 a0_6 a0_7 = some r) :
  Calls Tryz.prog 27 #[.agg #[.string a0_0, .int .i64 a0_1, .string a0_2, .string a0_3, .string a0_4, .int .i64 a0_5, .int .i64 a0_6, .string a0_7]] w fun e w' => e = .returned (.int .i64 r) ∧ Below w.heap.size w w' := by
 have hu37 := underlying37; have hu24 := underlying24; have HB := qa_.mk (Below.refl w.heap.size w); unfold qak_.f at h; have H := h; clear h; have HC2 := qa_.mk H; clear H; go_enter func27, ntmps27; go_upto_region 1 with (first | ((with_reducible refine qk_ (N := 1) rfl ?_); refine be_ (cs := #[.string a0_0, .int .i64 a0_1, .string a0_2, .string a0_3, .string a0_4, .int .i64 a0_5, .int .i64 a0_6, .string a0_7]) (t := 37) ?_; intro g140 hg w3 hbox hb; have K140 := qa_.mk (hbox); have W140 := ag_ hg HB; have E140 := ag_ hg HB; replace HB := ah_ HB hb; clear hb hbox hg)); (try simp only [Act.put, List.setIfInBounds_toArray, List.set_cons_zero, List.set_cons_succ])
 go_cut [29] (fun v29 wc => ∃ (kq : Nat) (x29_1 : Bool), v29 = .bool x29_1 ∧ qa_ (qak_.j0 kq x29_1 a0_0 a0_1 a0_2 a0_3 a0_4 a0_5 a0_6 a0_7 = some r) ∧ qa_ (kq ≤ k) ∧ qa_ (wc.heap[g140]? = some (.cells #[.string a0_0, .int .i64 a0_1, .string a0_2, .string a0_3, .string a0_4, .int .i64 a0_5, .int .i64 a0_6, .string a0_7] 37 (0, 0))) ∧ qa_ (Below w.heap.size w wc))
 case first =>
  have H := HC2.out; clear HC2; obtain ⟨t141, A4, H⟩ := bx_ H; by_cases c5 : t141 = true; rotate_left
  ·replace c5 := Bool.eq_false_iff.mpr c5; subst c5; rw [if_neg nft_] at H; have H' := qa_.mk H; clear H; obtain ⟨Z27_0, Z27_1, Z27_2, Z27_3, Z27_4, Z27_5, Z27_6, Z27_7, F27⟩ := bc8 K140.out; go_wp2_with (first | ((with_reducible refine qb_ (f := 65) rfl ?_); refine gl_ (some 5) func65 #[.string a0_0] ?_; refine cm_ (qck_.calls k a0_0 false _ A4.out) ?_; rintro w' ⟨nd, rfl⟩)); go_meet
   case rel => exact ⟨_, (true), z1_, H', ⟨z4_⟩, ⟨bk_ K140.out⟩, ⟨hs_⟩⟩
  subst c5; rw [if_pos rfl] at H; obtain ⟨t142, A6, H⟩ := bx_ H; by_cases c7 : t142.toList = ([] : List UInt8)
  ·rw [if_pos c7] at H; have c7b0 := et_ c7; have c7b1 := nf_ c7; clear c7; (first | rw [c7b0] | (simp only [i64_w, i32_w]; rw [c7b0]) | skip); have H' := qa_.mk H; clear H; obtain ⟨Z8_0, Z8_1, Z8_2, Z8_3, Z8_4, Z8_5, Z8_6, Z8_7, F8⟩ := bc8 K140.out; go_wp2_with (first | ((with_reducible refine qb_ (f := 65) rfl ?_); refine gl_ (some 5) func65 #[.string a0_0] ?_; refine cm_ (qck_.calls k a0_0 true _ A4.out) ?_; rintro w' ⟨nd, rfl⟩) | (go_at_call 79; (with_reducible refine (qcu_.calls a0_1 t142 _ A6.out).mono ?_); rintro e w9 ⟨rfl, hb⟩; replace K140 := ab_ K140 hb; replace HB := qa_.mk (qc_ (hs_) hb); (try clear hb); (try clear hb2); (try clear hk); (try clear hi)))
   go_meet
   case rel => exact ⟨_, (true), z1_, H', ⟨z4_⟩, ⟨bk_ K140.out⟩, ⟨hs_⟩⟩
  rw [if_neg c7] at H; have c7b0 := ef_ c7; have c7b1 := nt_ c7; (first | rw [c7b0] | (simp only [i64_w, i32_w]; rw [c7b0]) | skip); obtain ⟨t143, A10, H⟩ := bx_ H; by_cases c11 : t143 = true; rotate_left
  ·replace c11 := Bool.eq_false_iff.mpr c11; subst c11; rw [if_neg nft_] at H; have H' := qa_.mk H; clear H; obtain ⟨Z24_0, Z24_1, Z24_2, Z24_3, Z24_4, Z24_5, Z24_6, Z24_7, F24⟩ := bc8 K140.out; go_wp2_with (first | ((with_reducible refine qb_ (f := 65) rfl ?_); refine gl_ (some 5) func65 #[.string a0_0] ?_; refine cm_ (qck_.calls k a0_0 true _ A4.out) ?_; rintro w' ⟨nd, rfl⟩) | (go_at_call 79; (with_reducible refine (qcu_.calls a0_1 t142 _ A6.out).mono ?_); rintro e w25 ⟨rfl, hb⟩; replace K140 := ab_ K140 hb; replace HB := qa_.mk (qc_ (hs_) hb); (try clear hb); (try clear hb2); (try clear hk); (try clear hi); obtain ⟨Z26_0, Z26_1, Z26_2, Z26_3, Z26_4, Z26_5, Z26_6, Z26_7, F26⟩ := bc8 K140.out) | (go_at_call 81; (with_reducible refine (qbc_.calls k a0_2 false _ A10.out).mono ?_); rintro e w' ⟨rfl, ⟨nd, rfl⟩⟩)); go_meet
   case rel => exact ⟨_, (true), z1_, H', ⟨z4_⟩, ⟨bk_ K140.out⟩, ⟨hs_⟩⟩
  subst c11; rw [if_pos rfl] at H; obtain ⟨t144, A12, H⟩ := bx_ H; by_cases c13 : t144 = true; rotate_left
  ·replace c13 := Bool.eq_false_iff.mpr c13; subst c13; rw [if_neg nft_] at H; have H' := qa_.mk H; clear H; obtain ⟨Z20_0, Z20_1, Z20_2, Z20_3, Z20_4, Z20_5, Z20_6, Z20_7, F20⟩ := bc8 K140.out; go_wp2_with (first | ((with_reducible refine qb_ (f := 65) rfl ?_); refine gl_ (some 5) func65 #[.string a0_0] ?_; refine cm_ (qck_.calls k a0_0 true _ A4.out) ?_; rintro w' ⟨nd, rfl⟩) | (go_at_call 79; (with_reducible refine (qcu_.calls a0_1 t142 _ A6.out).mono ?_); rintro e w21 ⟨rfl, hb⟩; replace K140 := ab_ K140 hb; replace HB := qa_.mk (qc_ (hs_) hb); (try clear hb); (try clear hb2); (try clear hk); (try clear hi); obtain ⟨Z22_0, Z22_1, Z22_2, Z22_3, Z22_4, Z22_5, Z22_6, Z22_7, F22⟩ := bc8 K140.out) | (go_at_call 81; (with_reducible refine (qbc_.calls k a0_2 true _ A10.out).mono ?_); rintro e w' ⟨rfl, ⟨nd, rfl⟩⟩) | (go_at_call 67; (with_reducible refine (qax_.calls k a0_3 a0_4 a0_5 a0_6 false _ A12.out).mono ?_); rintro e w23 ⟨rfl, hb⟩; replace K140 := ab_ K140 hb; replace HB := qa_.mk (qc_ (hs_) hb); (try clear hb); (try clear hb2); (try clear hk); (try clear hi)))
   go_meet
   case rel => exact ⟨_, (true), z1_, H', ⟨z4_⟩, ⟨bk_ K140.out⟩, ⟨hs_⟩⟩
  subst c13; rw [if_pos rfl] at H; obtain ⟨t145, A14, H⟩ := bx_ H; have H' := qa_.mk H; clear H; obtain ⟨Z15_0, Z15_1, Z15_2, Z15_3, Z15_4, Z15_5, Z15_6, Z15_7, F15⟩ := bc8 K140.out; go_wp2_with (first | ((with_reducible refine qb_ (f := 65) rfl ?_); refine gl_ (some 5) func65 #[.string a0_0] ?_; refine cm_ (qck_.calls k a0_0 true _ A4.out) ?_; rintro w' ⟨nd, rfl⟩) | (go_at_call 79; (with_reducible refine (qcu_.calls a0_1 t142 _ A6.out).mono ?_); rintro e w16 ⟨rfl, hb⟩; replace K140 := ab_ K140 hb; replace HB := qa_.mk (qc_ (hs_) hb); (try clear hb); (try clear hb2); (try clear hk); (try clear hi); obtain ⟨Z17_0, Z17_1, Z17_2, Z17_3, Z17_4, Z17_5, Z17_6, Z17_7, F17⟩ := bc8 K140.out) | (go_at_call 81; (with_reducible refine (qbc_.calls k a0_2 true _ A10.out).mono ?_); rintro e w' ⟨rfl, ⟨nd, rfl⟩⟩) | (go_at_call 67; (with_reducible refine (qax_.calls k a0_3 a0_4 a0_5 a0_6 true _ A12.out).mono ?_); rintro e w18 ⟨rfl, hb⟩; replace K140 := ab_ K140 hb; replace HB := qa_.mk (qc_ (hs_) hb); (try clear hb); (try clear hb2); (try clear hk); (try clear hi); obtain ⟨Z19_0, Z19_1, Z19_2, Z19_3, Z19_4, Z19_5, Z19_6, Z19_7, F19⟩ := bc8 K140.out) | (go_at_call 68; (with_reducible refine (qci_.calls a0_7 ⟨#[0]⟩ t145 _ ?side1 A14.out).mono ?_); (case side1 => exact GV.below hgv (hs_)); rintro e w' ⟨rfl, ⟨nd, rfl⟩⟩)); go_meet
  case rel => exact ⟨_, (t145), z1_, H', ⟨z4_⟩, ⟨bk_ K140.out⟩, ⟨hs_⟩⟩
 case rest =>
  clear HC2; try clear c1
  try clear c2
  try clear p2
  try clear c5
  try clear c6
  try clear c7
  try clear c7b0
  try clear c7b1
  try clear c11
  try clear c13
  try clear c27
  try clear Z15_0 Z15_1 Z15_2 Z15_3 Z15_4 Z15_5 Z15_6 Z15_7
  try clear Z17_0 Z17_1 Z17_2 Z17_3 Z17_4 Z17_5 Z17_6 Z17_7
  try clear Z19_0 Z19_1 Z19_2 Z19_3 Z19_4 Z19_5 Z19_6 Z19_7
  try clear Z20_0 Z20_1 Z20_2 Z20_3 Z20_4 Z20_5 Z20_6 Z20_7
  try clear Z22_0 Z22_1 Z22_2 Z22_3 Z22_4 Z22_5 Z22_6 Z22_7
  try clear Z24_0 Z24_1 Z24_2 Z24_3 Z24_4 Z24_5 Z24_6 Z24_7
  try clear Z26_0 Z26_1 Z26_2 Z26_3 Z26_4 Z26_5 Z26_6 Z26_7
  try clear Z27_0 Z27_1 Z27_2 Z27_3 Z27_4 Z27_5 Z27_6 Z27_7
  try clear Z8_0 Z8_1 Z8_2 Z8_3 Z8_4 Z8_5 Z8_6 Z8_7
  try clear F15
  try clear F17
  try clear F19
  try clear F20
  try clear F22
  try clear F24
  try clear F26
  try clear F27
  try clear F8
  obtain ⟨kq, x29_1, rfl, HA, HJ1, K140, HB⟩ := hcut
  cases kq with
  | zero => exact absurd HA.out (by simp [qak_.j0])
  | succ kj1 =>
   have H := HA.out; clear HA; simp only [qak_.j0] at H; by_cases c28 : x29_1 = true
   ·subst c28; rw [if_pos rfl] at H; obtain rfl := oi_ H; go_wp2
    go_ret
    exact ⟨z3_, hs_⟩
   replace c28 := Bool.eq_false_iff.mpr c28; subst c28; rw [if_neg nft_] at H; by_cases c29 : (a0_7.size : Int) > 4096
   ·rw [if_pos c29] at H; have c29b0 := dt_ c29; have c29b1 : decide (4096 < a0_7.size) = true := decide_eq_true (by omega); clear c29; obtain rfl := oi_ H; obtain ⟨Z30_0, Z30_1, Z30_2, Z30_3, Z30_4, Z30_5, Z30_6, Z30_7, F30⟩ := bc8 K140.out; go_wp2
    go_ret
    exact ⟨z3_, hs_⟩
   rw [if_neg c29] at H; have c29b0 := df_ c29; have c29b1 : decide (4096 < a0_7.size) = false := decide_eq_false (by omega); clear c29; obtain rfl := oi_ H; obtain ⟨Z31_0, Z31_1, Z31_2, Z31_3, Z31_4, Z31_5, Z31_6, Z31_7, F31⟩ := bc8 K140.out; go_wp2
   go_ret
   exact ⟨z3_, hs_⟩
def qbo_.f (k : Nat) (a0_0 : ByteArray) (a0_1 : Int) (a0_2 : ByteArray) (a0_3 : ByteArray) (a0_4 : ByteArray) (a0_5 : Int) (a0_6 : Int) (a0_7 : ByteArray) : Option (ByteArray × Int) := (qak_.f k a0_0 a0_1 a0_2 a0_3 a0_4 a0_5 a0_6 a0_7).bind fun t120 => (if t120 = 0 then (if 7 + a0_0.size ≤ 9223372036854775807 then (if ((⟨#[111, 98, 106, 101, 99, 116, 32]⟩ : ByteArray) ++ a0_0).size + 6 ≤ 9223372036854775807 then ((qcu_.f a0_1).bind fun t121 => (if (((⟨#[111, 98, 106, 101, 99, 116, 32]⟩ : ByteArray) ++ a0_0) ++ (⟨#[10, 116, 121, 112, 101, 32]⟩ : ByteArray)).size + t121.size ≤ 9223372036854775807 then (if ((((⟨#[111, 98, 106, 101, 99, 116, 32]⟩ : ByteArray) ++ a0_0) ++ (⟨#[10, 116, 121, 112, 101, 32]⟩ : ByteArray)) ++ t121).size + 5 ≤ 9223372036854775807 then (if (((((⟨#[111, 98, 106, 101, 99, 116, 32]⟩ : ByteArray) ++ a0_0) ++ (⟨#[10, 116, 121, 112, 101, 32]⟩ : ByteArray)) ++ t121) ++ (⟨#[10, 116, 97, 103, 32]⟩ : ByteArray)).size + a0_2.size ≤ 9223372036854775807 then (if ((((((⟨#[111, 98, 106, 101, 99, 116, 32]⟩ : ByteArray) ++ a0_0) ++ (⟨#[10, 116, 121, 112, 101, 32]⟩ : ByteArray)) ++ t121) ++ (⟨#[10, 116, 97, 103, 32]⟩ : ByteArray)) ++ a0_2).size + 8 ≤ 9223372036854775807 then ((qcf_.f a0_3 a0_4 a0_5 a0_6).bind fun t122 => (if (((((((⟨#[111, 98, 106, 101, 99, 116, 32]⟩ : ByteArray) ++ a0_0) ++ (⟨#[10, 116, 121, 112, 101, 32]⟩ : ByteArray)) ++ t121) ++ (⟨#[10, 116, 97, 103, 32]⟩ : ByteArray)) ++ a0_2) ++ (⟨#[10, 116, 97, 103, 103, 101, 114, 32]⟩ : ByteArray)).size + t122.size ≤ 9223372036854775807 then (if ((((((((⟨#[111, 98, 106, 101, 99, 116, 32]⟩ : ByteArray) ++ a0_0) ++ (⟨#[10, 116, 121, 112, 101, 32]⟩ : ByteArray)) ++ t121) ++ (⟨#[10, 116, 97, 103, 32]⟩ : ByteArray)) ++ a0_2) ++ (⟨#[10, 116, 97, 103, 103, 101, 114, 32]⟩ : ByteArray)) ++ t122).size + 2 ≤ 9223372036854775807 then (if (((((((((⟨#[111, 98, 106, 101, 99, 116, 32]⟩ : ByteArray) ++ a0_0) ++ (⟨#[10, 116, 121, 112, 101, 32]⟩ : ByteArray)) ++ t121) ++ (⟨#[10, 116, 97, 103, 32]⟩ : ByteArray)) ++ a0_2) ++ (⟨#[10, 116, 97, 103, 103, 101, 114, 32]⟩ : ByteArray)) ++ t122) ++ (⟨#[10, 10]⟩ : ByteArray)).size + a0_7.size ≤ 9223372036854775807 then (some ((((((((((⟨#[111, 98, 106, 101, 99, 116, 32]⟩ : ByteArray) ++ a0_0) ++ (⟨#[10, 116, 121, 112, 101, 32]⟩ : ByteArray)) ++ t121) ++ (⟨#[10, 116, 97, 103, 32]⟩ : ByteArray)) ++ a0_2) ++ (⟨#[10, 116, 97, 103, 103, 101, 114, 32]⟩ : ByteArray)) ++ t122) ++ (⟨#[10, 10]⟩ : ByteArray)) ++ a0_7, 0)) else (none)) else (none)) else (none))) else (none)) else (none)) else (none)) else (none))) else (none)) else (none)) else (some ((⟨#[]⟩ : ByteArray), t120)))
theorem qbo_.mono : ∀ a0 a1 a2 a3 a4 a5 a6 a7 k, LeO (qbo_.f k a0 a1 a2 a3 a4 a5 a6 a7) (qbo_.f (k + 1) a0 a1 a2 a3 a4 a5 a6 a7) := by
 intro a0 a1 a2 a3 a4 a5 a6 a7 k; unfold qbo_.f; have m0_ := @qak_.mono; exact mz_
def qbo_.T4 : Bool × List (List Nat × List Nat) := (true, [([], []), ([0], [0]), ([1], [1]), ([2], [2]), ([], []), ([4], [4]), ([5], [5]), ([3, 6], [3, 6]), ([7], [7]), ([], []), ([9], [9]), ([8, 10], [8, 10]), ([11], [11]), ([], []), ([13], [13]), ([14, 6], [14]), ([12, 15], [12, 15]), ([16], [16]), ([], []), ([18], [18]), ([17, 19], [17, 19]), ([20, 15, 0, 1, 2, 3, 4, 5, 6, 7, 8, 9, 10, 11, 12, 13, 14, 15, 16, 17, 18, 19, 20], [20]), ([21, 0, 1, 2, 3, 4, 5, 6, 7, 8, 9, 10, 11, 12, 13, 14, 15, 16, 17, 18, 19, 20, 21], [])])
def qbo_.B4 : List Nat := [0, 1, 3, 7, 0, 16, 48, 127, 255, 0, 512, 2047, 4095, 0, 8192, 24688, 65535, 131071, 0, 262144, 1048575, 2097151, 4194303]
theorem qbo_.tab4 : rtab .any (opsOf Tryz.f25 4) = qbo_.T4 := by kernel_rfl
theorem qbo_.bits4 : qdi_ qbo_.T4.2 qbo_.B4 = true := by kernel_rfl
theorem qbo_.calls (k : Nat) (a0_0 : ByteArray) (a0_1 : Int) (a0_2 : ByteArray) (a0_3 : ByteArray) (a0_4 : ByteArray) (a0_5 : Int) (a0_6 : Int) (a0_7 : ByteArray) (r1 : ByteArray) (r2 : Int) (w : World) (hgv : GV w) (h : qbo_.f k a0_0 a0_1 a0_2 a0_3 a0_4 a0_5 a0_6 a0_7 = some (r1, r2)) :
  Calls Tryz.prog 25 #[.agg #[.string a0_0, .int .i64 a0_1, .string a0_2, .string a0_3, .string a0_4, .int .i64 a0_5, .int .i64 a0_6, .string a0_7]] w fun e w' => e = .returned (.tuple #[.string r1, .int .i64 r2]) ∧ Below w.heap.size w w' := by
 have hu37 := underlying37; have hu24 := underlying24; have HB := qa_.mk (Below.refl w.heap.size w); unfold qbo_.f at h; have H := h; clear h; obtain ⟨t120, A2, H⟩ := bx_ H; by_cases c3 : t120 = 0; rotate_left
 ·rw [if_neg c3] at H; have c3b0 := ef_ c3; have c3b1 := nt_ c3; obtain ⟨rfl, rfl⟩ := pj2_ H; go_enter func25, ntmps25; go_wp2_with (first | ((with_reducible refine qk_ (N := 1) rfl ?_); refine be_ (cs := #[.string a0_0, .int .i64 a0_1, .string a0_2, .string a0_3, .string a0_4, .int .i64 a0_5, .int .i64 a0_6, .string a0_7]) (t := 37) ?_; intro g119 hg w21 hbox hb; have K119 := qa_.mk (hbox); have W119 := ag_ hg HB; have E119 := ag_ hg HB; replace HB := ah_ HB hb; clear hb hbox hg; obtain ⟨Z22_0, Z22_1, Z22_2, Z22_3, Z22_4, Z22_5, Z22_6, Z22_7, F22⟩ := bc8 K119.out) | ((with_reducible refine qb_ (f := 27) rfl ?_); refine gl_ (some 6) func27 #[.agg #[.string a0_0, .int .i64 a0_1, .string a0_2, .string a0_3, .string a0_4, .int .i64 a0_5, .int .i64 a0_6, .string a0_7]] ?_; (with_reducible refine (qak_.calls k a0_0 a0_1 a0_2 a0_3 a0_4 a0_5 a0_6 a0_7 t120 _ ?side1 A2.out).mono ?_); (case side1 => exact GV.below hgv (hs_)); rintro e w23 ⟨rfl, hb⟩; refine ⟨_, rfl, ?_⟩; replace K119 := ab_ K119 hb; replace HB := qa_.mk (qc_ (hs_) hb); (try clear hb); (try clear hb2); (try clear hk); (try clear hi)))
  go_ret2
  exact ⟨z3_, hs_⟩
 rw [if_pos c3] at H; have c3b0 := et_ c3; have c3b1 := nf_ c3; clear c3; by_cases c4 : 7 + a0_0.size ≤ 9223372036854775807; rotate_left
 ·rw [if_neg c4] at H; exact no_ H
 rw [if_pos c4] at H; have c4b0 := eq_true c4; have c4b1 := dt_ c4; try have c4b2 := nl_ c4
 by_cases c5 : ((⟨#[111, 98, 106, 101, 99, 116, 32]⟩ : ByteArray) ++ a0_0).size + 6 ≤ 9223372036854775807; rotate_left
 ·rw [if_neg c5] at H; exact no_ H
 rw [if_pos c5] at H; have c5b0 := eq_true c5; have c5b1 := dt_ c5; try have c5b3 : (9223372036854775807 < 7 + a0_0.size + 6) = False := have h_ := c5; ns_
 try have c5b2 := nl_ c5
 obtain ⟨t121, A6, H⟩ := bx_ H; by_cases c7 : (((⟨#[111, 98, 106, 101, 99, 116, 32]⟩ : ByteArray) ++ a0_0) ++ (⟨#[10, 116, 121, 112, 101, 32]⟩ : ByteArray)).size + t121.size ≤ 9223372036854775807; rotate_left
 ·rw [if_neg c7] at H; exact no_ H
 rw [if_pos c7] at H; have c7b0 := eq_true c7; have c7b1 := dt_ c7; try have c7b3 : (9223372036854775807 < 7 + a0_0.size + 6 + t121.size) = False := have h_ := c7; ns_
 try have c7b2 := nl_ c7
 by_cases c8 : ((((⟨#[111, 98, 106, 101, 99, 116, 32]⟩ : ByteArray) ++ a0_0) ++ (⟨#[10, 116, 121, 112, 101, 32]⟩ : ByteArray)) ++ t121).size + 5 ≤ 9223372036854775807; rotate_left
 ·rw [if_neg c8] at H; exact no_ H
 rw [if_pos c8] at H; have c8b0 := eq_true c8; have c8b1 := dt_ c8; try have c8b3 : (9223372036854775807 < 7 + a0_0.size + 6 + t121.size + 5) = False := have h_ := c8; ns_
 try have c8b2 := nl_ c8
 by_cases c9 : (((((⟨#[111, 98, 106, 101, 99, 116, 32]⟩ : ByteArray) ++ a0_0) ++ (⟨#[10, 116, 121, 112, 101, 32]⟩ : ByteArray)) ++ t121) ++ (⟨#[10, 116, 97, 103, 32]⟩ : ByteArray)).size + a0_2.size ≤ 9223372036854775807; rotate_left
 ·rw [if_neg c9] at H; exact no_ H
 rw [if_pos c9] at H; have c9b0 := eq_true c9; have c9b1 := dt_ c9; try have c9b3 : (9223372036854775807 < 7 + a0_0.size + 6 + t121.size + 5 + a0_2.size) = False := have h_ := c9; ns_
 try have c9b2 := nl_ c9
 by_cases c10 : ((((((⟨#[111, 98, 106, 101, 99, 116, 32]⟩ : ByteArray) ++ a0_0) ++ (⟨#[10, 116, 121, 112, 101, 32]⟩ : ByteArray)) ++ t121) ++ (⟨#[10, 116, 97, 103, 32]⟩ : ByteArray)) ++ a0_2).size + 8 ≤ 9223372036854775807; rotate_left
 ·rw [if_neg c10] at H; exact no_ H
 rw [if_pos c10] at H; have c10b0 := eq_true c10; have c10b1 := dt_ c10; try have c10b3 : (9223372036854775807 < 7 + a0_0.size + 6 + t121.size + 5 + a0_2.size + 8) = False := have h_ := c10; ns_
 try have c10b2 := nl_ c10
 obtain ⟨t122, A11, H⟩ := bx_ H; by_cases c12 : (((((((⟨#[111, 98, 106, 101, 99, 116, 32]⟩ : ByteArray) ++ a0_0) ++ (⟨#[10, 116, 121, 112, 101, 32]⟩ : ByteArray)) ++ t121) ++ (⟨#[10, 116, 97, 103, 32]⟩ : ByteArray)) ++ a0_2) ++ (⟨#[10, 116, 97, 103, 103, 101, 114, 32]⟩ : ByteArray)).size + t122.size ≤ 9223372036854775807; rotate_left
 ·rw [if_neg c12] at H; exact no_ H
 rw [if_pos c12] at H; have c12b0 := eq_true c12; have c12b1 := dt_ c12; try have c12b3 : (9223372036854775807 < 7 + a0_0.size + 6 + t121.size + 5 + a0_2.size + 8 + t122.size) = False := have h_ := c12; ns_
 try have c12b2 := nl_ c12
 by_cases c13 : ((((((((⟨#[111, 98, 106, 101, 99, 116, 32]⟩ : ByteArray) ++ a0_0) ++ (⟨#[10, 116, 121, 112, 101, 32]⟩ : ByteArray)) ++ t121) ++ (⟨#[10, 116, 97, 103, 32]⟩ : ByteArray)) ++ a0_2) ++ (⟨#[10, 116, 97, 103, 103, 101, 114, 32]⟩ : ByteArray)) ++ t122).size + 2 ≤ 9223372036854775807; rotate_left
 ·rw [if_neg c13] at H; exact no_ H
 rw [if_pos c13] at H; have c13b0 := eq_true c13; have c13b1 := dt_ c13; try have c13b3 : (9223372036854775807 < 7 + a0_0.size + 6 + t121.size + 5 + a0_2.size + 8 + t122.size + 2) = False := have h_ := c13; ns_
 try have c13b2 := nl_ c13
 by_cases c14 : (((((((((⟨#[111, 98, 106, 101, 99, 116, 32]⟩ : ByteArray) ++ a0_0) ++ (⟨#[10, 116, 121, 112, 101, 32]⟩ : ByteArray)) ++ t121) ++ (⟨#[10, 116, 97, 103, 32]⟩ : ByteArray)) ++ a0_2) ++ (⟨#[10, 116, 97, 103, 103, 101, 114, 32]⟩ : ByteArray)) ++ t122) ++ (⟨#[10, 10]⟩ : ByteArray)).size + a0_7.size ≤ 9223372036854775807; rotate_left
 ·rw [if_neg c14] at H; exact no_ H
 rw [if_pos c14] at H; have c14b0 := eq_true c14; have c14b1 := dt_ c14; try have c14b3 : (9223372036854775807 < 7 + a0_0.size + 6 + t121.size + 5 + a0_2.size + 8 + t122.size + 2 + a0_7.size) = False := have h_ := c14; ns_
 try have c14b2 := nl_ c14
 obtain ⟨rfl, rfl⟩ := pj2_ H; go_enter func25, ntmps25; try go_wp2_with (first | ((with_reducible refine qk_ (N := 1) rfl ?_); refine be_ (cs := #[.string a0_0, .int .i64 a0_1, .string a0_2, .string a0_3, .string a0_4, .int .i64 a0_5, .int .i64 a0_6, .string a0_7]) (t := 37) ?_; intro g119 hg w15 hbox hb; have K119 := qa_.mk (hbox); have W119 := ag_ hg HB; have E119 := ag_ hg HB; replace HB := ah_ HB hb; clear hb hbox hg; obtain ⟨Z16_0, Z16_1, Z16_2, Z16_3, Z16_4, Z16_5, Z16_6, Z16_7, F16⟩ := bc8 K119.out) | ((with_reducible refine qb_ (f := 27) rfl ?_); refine gl_ (some 6) func27 #[.agg #[.string a0_0, .int .i64 a0_1, .string a0_2, .string a0_3, .string a0_4, .int .i64 a0_5, .int .i64 a0_6, .string a0_7]] ?_; (with_reducible refine (qak_.calls k a0_0 a0_1 a0_2 a0_3 a0_4 a0_5 a0_6 a0_7 t120 _ ?side1 A2.out).mono ?_); (case side1 => exact GV.below hgv (hs_)); rintro e w17 ⟨rfl, hb⟩; refine ⟨_, rfl, ?_⟩; replace K119 := ab_ K119 hb; replace HB := qa_.mk (qc_ (hs_) hb); (try clear hb); (try clear hb2); (try clear hk); (try clear hi)))
 replace K119 := ad_ K119; replace HB := hd_ HB; refine qdl_ (n := 23) (S := fun w' => w'.cell? ⟨g119, 0, none⟩ = some (.string a0_0) ∧ w'.cell? ⟨g119, 1, none⟩ = some (.int .i64 a0_1) ∧ w'.cell? ⟨g119, 2, none⟩ = some (.string a0_2) ∧ w'.cell? ⟨g119, 3, none⟩ = some (.string a0_3) ∧ w'.cell? ⟨g119, 4, none⟩ = some (.string a0_4) ∧ w'.cell? ⟨g119, 5, none⟩ = some (.int .i64 a0_5) ∧ w'.cell? ⟨g119, 6, none⟩ = some (.int .i64 a0_6) ∧ w'.cell? ⟨g119, 7, none⟩ = some (.string a0_7)) (ds := []) (bs 23 0) (by kernel_rfl) rfl rfl (bc8o K119.out) (fun qal_ => ?_); refine qds_ qbo_.tab4 qbo_.bits4 (fun HT_ HW_ => ?_); generalize w17.drew = w18 at K119 HB qal_ ⊢; refine pun_ 0 10 23 1 ?_; refine pun_ 4 14 23 17 ?_; refine pun_ 9 19 23 529 ?_; refine pun_ 13 23 23 8721 ?_; refine pun_ 18 28 23 270865 ?_; refine tkW8n_ 1 11 23 270867 qal_ ?_; refine pun_ 2 12 23 270871 ?_; refine pun_ 3 13 23 270879 ?_; refine tkW8n_ 5 15 23 270911 qal_ ?_; refine tkW8n_ 10 20 23 271935 qal_ ?_; refine tkW8n_ 14 24 23 288319 qal_ ?_; refine tkW8n_ 19 29 23 812607 qal_ ?_; refine on_ 6 16 23 812671 (fun K hK => ?_); refine goes_ func79 (by kernel_rfl) rfl #[.int .i64 a0_1] (by rfl) rfl rfl z5_ ?_
 with_reducible refine (qcu_.calls a0_1 t121 _ A6.out).mono ?_
 rintro e w19 ⟨rfl, hb⟩; refine ⟨_, rfl, ?_⟩; replace K119 := ab_ K119 hb; replace HB := qa_.mk (qc_ (hs_) hb); (try clear hb)
 (try clear hb2)
 (try clear hk)
 (try clear hi)
 refine hK.out _ _ (bc8o K119.out) (fun qal_ => ?_); clear hK K; refine norm_ (a' := ?_) ?_ ?_; rotate_left
 ·show Act.put _ (some 16) _ = _
  simp only [Act.put, List.setIfInBounds_toArray, List.set_cons_zero, List.set_cons_succ, i64_w, i32_w]; rfl
 refine pun_ 7 17 23 812799 ?_; refine pun_ 8 18 23 813055 ?_; refine pun_ 11 21 23 815103 ?_; refine pun_ 12 22 23 819199 ?_; refine on_ 15 25 23 851967 (fun K hK => ?_); refine goes_ func31 (by kernel_rfl) rfl #[.agg #[.string a0_3, .string a0_4, .int .i64 a0_5, .int .i64 a0_6]] (by rfl) rfl rfl z5_ ?_
 with_reducible refine (qcf_.calls a0_3 a0_4 a0_5 a0_6 t122 _ ?side1 A11.out).mono ?_
 (case side1 => exact GV.below hgv (hs_))
 rintro e w20 ⟨rfl, hb⟩; refine ⟨_, rfl, ?_⟩; replace K119 := ab_ K119 hb; replace HB := qa_.mk (qc_ (hs_) hb); (try clear hb)
 (try clear hb2)
 (try clear hk)
 (try clear hi)
 refine hK.out _ _ (bc8o K119.out) (fun qal_ => ?_); clear hK K; refine norm_ (a' := ?_) ?_ ?_; rotate_left
 ·show Act.put _ (some 25) _ = _
  simp only [Act.put, List.setIfInBounds_toArray, List.set_cons_zero, List.set_cons_succ, i64_w, i32_w]; rfl
 refine pun_ 16 26 23 917503 ?_; refine pun_ 17 27 23 1048575 ?_; refine pun_ 20 30 23 2097151 ?_; refine pun_ 21 2 23 4194303 ?_; refine pun_ 22 3 23 8388607 ?_; refine dn_ ?_; try go_wp2
 go_ret2
 exact ⟨z3_, hs_⟩
def IsS87 (w0 W : World) (g : Nat) (f0 : ByteArray) (f1 : Int) : Prop := W.heap[g]? = some (.cells #[.string f0, .int .i64 f1] 87 (0, 0)) ∧ w0.heap.size ≤ g
theorem IsS87.grown {w0 W : World} {g : Nat} {f0 : ByteArray} {f1 : Int} {W1 : World} {row : Option Nat} (h : IsS87 w0 W g f0 f1) (hw : W.grownBy W1 row) (hne : some g ≠ row) : IsS87 w0 W1 g f0 f1 := by
 obtain ⟨hb, hg⟩ := h; exact ⟨qdc_ hb hw hne, hg⟩
theorem IsS87.fresh {w0 W : World} {g : Nat} {f0 : ByteArray} {f1 : Int} (h : IsS87 w0 W g f0 f1) : ∀ k, W.heap.size ≤ k → k ≠ g := by
 obtain ⟨hb, hg⟩ := h; exact Kd.freshB hb
theorem IsS87.kept {w0 W : World} {g : Nat} {f0 : ByteArray} {f1 : Int} {W1 : World} {S : Nat → Prop} (h : IsS87 w0 W g f0 f1) (hk : Kept W W1 S) (hne : ¬ S g) : IsS87 w0 W1 g f0 f1 := by
 obtain ⟨hb, hg⟩ := h; exact ⟨blk_kept hb hk hne, hg⟩
theorem IsS87.below {w0 W : World} {g : Nat} {f0 : ByteArray} {f1 : Int} {W1 : World} (h : IsS87 w0 W g f0 f1) (hw : Below W.heap.size W W1) : IsS87 w0 W1 g f0 f1 := h.grown (qez_ hw none) (by simp)
theorem IsS87.alloc {w0 W : World} {g : Nat} {f0 : ByteArray} {f1 : Int} (h : IsS87 w0 W g f0 f1) (o : Obj) : IsS87 w0 (W.alloc o) g f0 f1 := h.below (qap_ (Below.refl _ _) o)
theorem IsS87.drewN {w0 W : World} {g : Nat} {f0 : ByteArray} {f1 : Int} (h : IsS87 w0 W g f0 f1) (m : Nat) : IsS87 w0 (W.drewN m) g f0 f1 := h
theorem IsS87.drew {w0 W : World} {g : Nat} {f0 : ByteArray} {f1 : Int} (h : IsS87 w0 W g f0 f1) : IsS87 w0 W.drew g f0 f1 := h
theorem IsS87.at_ {w0 W : World} {g : Nat} {f0 : ByteArray} {f1 : Int} {w' : World} {m : Nat} (hq : W.drewN m = w') (h : IsS87 w0 W g f0 f1) : IsS87 w0 w' g f0 f1 := by subst hq; exact IsS87.drewN h m
theorem IsS87.apart {w0 W : World} {g : Nat} {f0 : ByteArray} {f1 : Int} {α : Type} {d : Kd α} {e : Nat} {base : Nat} {ok : Nat → Prop} {v : Value} {xs : List α} (h : IsS87 w0 W g f0 f1) (ho : d.R e W base ok v xs) (ht : ∀ q, q ∈ e :: d.E → q ≠ 87) : d.R e W base (fun k => ok k ∧ k ≠ g) v xs := by
 obtain ⟨hb, hg⟩ := h; exact Kd.R_types ho hb ht
theorem IsS87.own_ne {w0 W : World} {g : Nat} {f0 : ByteArray} {f1 : Int} {α : Type} {d : Kd α} {e : Nat} {base : Nat} {ok : Nat → Prop} {v : Value} {xs : List α} (h : IsS87 w0 W g f0 f1) (ho : d.R e W base ok v xs) (ht : e ≠ 87) : some g ≠ v.ownBlock := by
 obtain ⟨hb, hg⟩ := h; exact Kd.R_ne ho hb ht
theorem IsS87.lt {w0 W : World} {g : Nat} {f0 : ByteArray} {f1 : Int} (h : IsS87 w0 W g f0 f1) : g < W.heap.size := by
 obtain ⟨hb, hg⟩ := h; exact blk_lt hb
theorem IsS87.ge {w0 W : World} {g : Nat} {f0 : ByteArray} {f1 : Int} (h : IsS87 w0 W g f0 f1) : w0.heap.size ≤ g := by
 obtain ⟨hb, hg⟩ := h; exact hg
theorem IsS87.far {w0 W : World} {g : Nat} {f0 : ByteArray} {f1 : Int} {p : Addr} (h : IsS87 w0 W g f0 f1) (hne : g ≠ p.block) (u : Value) : IsS87 w0 (W.setCell p u) g f0 f1 := by
 obtain ⟨hb, hg⟩ := h; exact ⟨blk_far hb hne u, hg⟩
theorem qfg_ {W : World} {g : Nat} {f0 : ByteArray} {f1 : Int} (h : W.heap[g]? = some (.cells #[.string f0, .int .i64 f1] 87 (0, 0))) : W.cell? ⟨g, 0, none⟩ = some (.string f0) := (qd_ h 0).trans rfl
theorem IsS87.set_0 {w0 W : World} {g : Nat} {f0 : ByteArray} {f1 : Int} (h : IsS87 w0 W g f0 f1) (x : ByteArray) : IsS87 w0 (W.setCell ⟨g, 0, none⟩ (.string x)) g x f1 := by
 obtain ⟨hb, hg⟩ := h; exact ⟨by simpa using blk_set hb 0 (.string x), hg⟩
theorem qfj_ {W : World} {g : Nat} {f0 : ByteArray} {f1 : Int} (h : W.heap[g]? = some (.cells #[.string f0, .int .i64 f1] 87 (0, 0))) : W.cell? ⟨g, 1, none⟩ = some (.int .i64 f1) := (qd_ h 1).trans rfl
theorem IsS87.set_1 {w0 W : World} {g : Nat} {f0 : ByteArray} {f1 : Int} (h : IsS87 w0 W g f0 f1) (x : Int) : IsS87 w0 (W.setCell ⟨g, 1, none⟩ (.int .i64 x)) g f0 x := by
 obtain ⟨hb, hg⟩ := h; exact ⟨by simpa using blk_set hb 1 (.int .i64 x), hg⟩
theorem IsS87.new (w0 W : World) (f0 : ByteArray) (f1 : Int) (hB : Below w0.heap.size w0 W) : IsS87 w0 (W.alloc (.cells #[.string f0, .int .i64 f1] 87)) W.heap.size f0 f1 := ⟨by simpa using heap_alloc_new W _, hB.size⟩
def qbg_.f (s0_0 : ByteArray) (s0_1 : Int) (a1 : Int) : Option (ByteArray × Int) := if s0_1 = 0 then (some (s0_0, a1)) else (if a1 = 2 then (some (s0_0, a1)) else (some (s0_0, s0_1)))
theorem qbg_.calls (g : Nat) (s0_0 : ByteArray) (s0_1 : Int) (a1 : Int) (r1 : ByteArray) (r2 : Int) (w0 w : World) (hI : IsS87 w0 w g s0_0 s0_1) (hB : Below w0.heap.size w0 w) (h : qbg_.f s0_0 s0_1 a1 = some (r1, r2)) :
  Calls Tryz.prog 74 #[.pointer (some ⟨g, 0, none⟩), .int .i64 a1] w fun e w' => e = .returned (.tuple #[]) ∧ IsS87 w0 w' g r1 r2 ∧ Below w0.heap.size w0 w' ∧ qad_ w w' g none := by
 have HI0 := qa_.mk hI; have HK := qa_.mk (qad_.refl w g none); have HL := qa_.mk hB.size; clear hI; have HW0 := qa_.mk hB.size; have HB := qa_.mk hB; clear hB; unfold qbg_.f at h; have H := h; clear h; by_cases c3 : s0_1 = 0
 ·rw [if_pos c3] at H; have c3b0 := et_ c3; have c3b1 := nf_ c3; clear c3; obtain ⟨rfl, rfl⟩ := pj2_ H; obtain ⟨HGz4, hgz4⟩ := HI0.out; have Z4_0 := qfg_ HGz4; have Z4_1 := qfj_ HGz4; have F4_0 := ql_ HGz4 0; have F4_1 := ql_ HGz4 1; clear HGz4 hgz4; go_enter func74, ntmps74; go_wp2
  first | go_end0 | ((try simp only [Exit.inBlock, Exit.then]); refine bodyPost_ret (results_none rfl _ _ _) rfl ?_)
  exact ⟨z3_, z10_, z11_, z7_⟩
 rw [if_neg c3] at H; have c3b0 := ef_ c3; have c3b1 := nt_ c3; by_cases c5 : a1 = 2; rotate_left
 ·rw [if_neg c5] at H; have c5b0 := ef_ c5; have c5b1 := nt_ c5; obtain ⟨rfl, rfl⟩ := pj2_ H; obtain ⟨HGz7, hgz7⟩ := HI0.out; have Z7_0 := qfg_ HGz7; have Z7_1 := qfj_ HGz7; have F7_0 := ql_ HGz7 0; have F7_1 := ql_ HGz7 1; clear HGz7 hgz7; go_enter func74, ntmps74; go_wp2
  first | go_end0 | ((try simp only [Exit.inBlock, Exit.then]); refine bodyPost_ret (results_none rfl _ _ _) rfl ?_)
  exact ⟨z3_, z10_, z11_, z7_⟩
 rw [if_pos c5] at H; have c5b0 := et_ c5; have c5b1 := nf_ c5; clear c5; obtain ⟨rfl, rfl⟩ := pj2_ H; obtain ⟨HGz6, hgz6⟩ := HI0.out; have Z6_0 := qfg_ HGz6; have Z6_1 := qfj_ HGz6; have F6_0 := ql_ HGz6 0; have F6_1 := ql_ HGz6 1; clear HGz6 hgz6; go_enter func74, ntmps74; go_wp2
 first | go_end0 | ((try simp only [Exit.inBlock, Exit.then]); refine bodyPost_ret (results_none rfl _ _ _) rfl ?_)
 exact ⟨z3_, z10_, z11_, z7_⟩
def qbz_.f (a0 : ByteArray) (a1 : ByteArray) : Option (Bool) := if (a0.size : Int) ≥ (a1.size : Int) then (if 0 ≤ (a1.size : Int) then (if (a1.size : Int) ≤ (a0.size : Int) then (some ((a0.extract 0 a1.size).toList == a1.toList)) else (none)) else (none)) else (some false)
theorem qbz_.calls (a0 : ByteArray) (a1 : ByteArray) (r : Bool) (w : World) (h : qbz_.f a0 a1 = some r) :
  Calls Tryz.prog 141 #[.string a0, .string a1] w fun e w' => e = .returned (.bool r) ∧ Drawn0 w w' := by
 unfold qbz_.f at h; have H := h; clear h; by_cases c3 : (a0.size : Int) ≥ (a1.size : Int); rotate_left
 ·rw [if_neg c3] at H; have c3b0 := df_ c3; have c3b1 : decide (a1.size ≤ a0.size) = false := decide_eq_false (fun h => c3 (Int.ofNat_le.mpr h)); clear c3; obtain rfl := oi_ H; go_enter func141, ntmps141; go_wp2
  go_ret
  exact ⟨z1_, z2_⟩
 rw [if_pos c3] at H; have c3b0 := dt_ c3; have c3b1 : decide (a1.size ≤ a0.size) = true := decide_eq_true (Int.ofNat_le.mp c3); clear c3; by_cases c4 : 0 ≤ (a1.size : Int); rotate_left
 ·rw [if_neg c4] at H; exact no_ H
 rw [if_pos c4] at H; have c4b0 := eq_true c4; have c4b1 := dt_ c4; clear c4; by_cases c5 : (a1.size : Int) ≤ (a0.size : Int); rotate_left
 ·rw [if_neg c5] at H; exact no_ H
 rw [if_pos c5] at H; have c5b0 := eq_true c5; have c5b1 := dt_ c5; clear c5; obtain rfl := oi_ H; go_enter func141, ntmps141; go_wp2
 go_ret
 exact ⟨z1_, z2_⟩
def qcj_.f (a0 : ByteArray) (a1 : ByteArray) : Option (Bool) := (qbz_.f a0 a1).bind fun t192 => (some t192)
theorem qcj_.calls (a0 : ByteArray) (a1 : ByteArray) (r : Bool) (w : World) (h : qcj_.f a0 a1 = some r) :
  Calls Tryz.prog 71 #[.string a0, .string a1] w fun e w' => e = .returned (.bool r) ∧ Drawn0 w w' := by
 unfold qcj_.f at h; have H := h; clear h; obtain ⟨t192, A3, H⟩ := bx_ H; obtain rfl := oi_ H; go_enter func71, ntmps71; go_wp2_with (first | ((with_reducible refine qb_ (f := 141) rfl ?_); refine gl_ (some 7) func141 #[.string a0, .string a1] ?_; refine cm_ (qbz_.calls a0 a1 t192 _ A3.out) ?_; rintro w' ⟨nd, rfl⟩)); go_ret
 exact ⟨z1_, z2_⟩
def qcq_.f (a0 : ByteArray) (a1 : ByteArray) : Option (ByteArray × Bool) := (qbz_.f a0 a1).bind fun t193 => (if t193 = true then (if 0 ≤ (a1.size : Int) then (if (a1.size : Int) ≤ (a0.size : Int) then (some (a0.extract a1.size a0.size, true)) else (none)) else (none)) else (some (a0, false)))
theorem qcq_.calls (a0 : ByteArray) (a1 : ByteArray) (r1 : ByteArray) (r2 : Bool) (w : World) (h : qcq_.f a0 a1 = some (r1, r2)) :
  Calls Tryz.prog 183 #[.string a0, .string a1] w fun e w' => e = .returned (.tuple #[.string r1, .bool r2]) ∧ Drawn0 w w' := by
 unfold qcq_.f at h; have H := h; clear h; obtain ⟨t193, A3, H⟩ := bx_ H; by_cases c4 : t193 = true; rotate_left
 ·replace c4 := Bool.eq_false_iff.mpr c4; subst c4; rw [if_neg nft_] at H; obtain ⟨rfl, rfl⟩ := pj2_ H; go_enter func183, ntmps183; go_wp2_with (first | ((with_reducible refine qb_ (f := 141) rfl ?_); refine gl_ (some 8) func141 #[.string a0, .string a1] ?_; refine cm_ (qbz_.calls a0 a1 false _ A3.out) ?_; rintro w' ⟨nd, rfl⟩)); go_ret2
  exact ⟨z1_, z2_⟩
 subst c4; rw [if_pos rfl] at H; by_cases c5 : 0 ≤ (a1.size : Int); rotate_left
 ·rw [if_neg c5] at H; exact no_ H
 rw [if_pos c5] at H; have c5b0 := eq_true c5; have c5b1 := dt_ c5; clear c5; by_cases c6 : (a1.size : Int) ≤ (a0.size : Int); rotate_left
 ·rw [if_neg c6] at H; exact no_ H
 rw [if_pos c6] at H; have c6b0 := eq_true c6; have c6b1 := dt_ c6; clear c6; obtain ⟨rfl, rfl⟩ := pj2_ H; go_enter func183, ntmps183; go_wp2_with (first | ((with_reducible refine qb_ (f := 141) rfl ?_); refine gl_ (some 8) func141 #[.string a0, .string a1] ?_; refine cm_ (qbz_.calls a0 a1 true _ A3.out) ?_; rintro w' ⟨nd, rfl⟩)); go_ret2
 exact ⟨z1_, z2_⟩
def qca_.f (a0 : ByteArray) (a1 : ByteArray) : Option (ByteArray × Bool) := (qcq_.f a0 a1).bind fun bt194 => (some (bt194.1, bt194.2))
theorem qca_.calls (a0 : ByteArray) (a1 : ByteArray) (r1 : ByteArray) (r2 : Bool) (w : World) (h : qca_.f a0 a1 = some (r1, r2)) :
  Calls Tryz.prog 142 #[.string a0, .string a1] w fun e w' => e = .returned (.tuple #[.string r1, .bool r2]) ∧ Drawn0 w w' := by
 unfold qca_.f at h; have H := h; clear h; obtain ⟨⟨t194, t195⟩, A3, H⟩ := bx_ H; dsimp only at H; obtain ⟨rfl, rfl⟩ := pj2_ H; go_enter func142, ntmps142; go_wp2_with (first | ((with_reducible refine qb_ (f := 183) rfl ?_); refine gl_ (some 8) func183 #[.string a0, .string a1] ?_; refine cm_ (qcq_.calls a0 a1 t194 t195 _ A3.out) ?_; rintro w' ⟨nd, rfl⟩)); go_ret2
 exact ⟨z1_, z2_⟩
def qba_.f (s0_0 : ByteArray) (s0_1 : Int) (a1 : ByteArray) : Option (ByteArray × ByteArray × Int) := (qbx_.f s0_0 ⟨#[10]⟩).bind fun bt106 => ((qca_.f bt106.1 a1).bind fun bt109 => (if bt106.2.2 = true then (if bt109.2 = true then (some (bt109.1, bt106.2.1, s0_1)) else ((qbg_.f s0_0 s0_1 2).bind fun bt111 => (some ((⟨#[]⟩ : ByteArray), bt111.1, bt111.2)))) else ((qbg_.f s0_0 s0_1 2).bind fun bt113 => (some ((⟨#[]⟩ : ByteArray), bt113.1, bt113.2)))))
theorem qba_.calls (g : Nat) (s0_0 : ByteArray) (s0_1 : Int) (a1 : ByteArray) (r1 : ByteArray) (r2 : ByteArray) (r3 : Int) (w0 w : World) (hI : IsS87 w0 w g s0_0 s0_1) (hB : Below w0.heap.size w0 w) (hgv : GV w0) (h : qba_.f s0_0 s0_1 a1 = some (r1, r2, r3)) :
  Calls Tryz.prog 73 #[.pointer (some ⟨g, 0, none⟩), .string a1] w fun e w' => e = .returned (.string r1) ∧ IsS87 w0 w' g r2 r3 ∧ Below w0.heap.size w0 w' ∧ qad_ w w' g none := by
 have HI0 := qa_.mk hI; have HK := qa_.mk (qad_.refl w g none); have HL := qa_.mk hB.size; clear hI; have HW0 := qa_.mk hB.size; have HB := qa_.mk hB; clear hB; unfold qba_.f at h; have H := h; clear h; obtain ⟨⟨t106, t107, t108⟩, A3, H⟩ := bx_ H; dsimp only at H; obtain ⟨⟨t109, t110⟩, A4, H⟩ := bx_ H; dsimp only at H; by_cases c5 : t108 = true; rotate_left
 ·replace c5 := Bool.eq_false_iff.mpr c5; subst c5; rw [if_neg nft_] at H; obtain ⟨⟨t113, t114⟩, A11, H⟩ := bx_ H; dsimp only at H; obtain ⟨rfl, rfl, rfl⟩ := pj3_ H; obtain ⟨HGz12, hgz12⟩ := HI0.out; have Z12_0 := qfg_ HGz12; have Z12_1 := qfj_ HGz12; have F12_0 := ql_ HGz12 0; have F12_1 := ql_ HGz12 1; clear HGz12 hgz12; go_enter func73, ntmps73; go_wp2_with (first | ((with_reducible refine qb_ (f := 82) rfl ?_); refine gl_ (some 15) func82 #[.string s0_0, .string ⟨#[10]⟩] ?_; (with_reducible refine (qbx_.calls s0_0 ⟨#[10]⟩ t106 t107 false _ ?side1 A3.out).mono ?_); (case side1 => exact GV.below hgv z11_); rintro e w' ⟨rfl, ⟨nd, rfl⟩⟩; refine ⟨_, rfl, ?_⟩) | ((with_reducible refine qb_ (f := 142) rfl ?_); refine gl_ (some 22) func142 #[.string t106, .string a1] ?_; refine cm_ (qca_.calls t106 a1 t109 t110 _ A4.out) ?_; rintro w' ⟨nd, rfl⟩) | ((with_reducible refine qb_ (f := 74) rfl ?_); refine gl_ (some 32) func74 #[.pointer (some ⟨g, 0, none⟩), .int .i64 2] ?_; (with_reducible refine (qbg_.calls g s0_0 s0_1 2 t113 t114 w0 _ ?side1 ?side2 A11.out).mono ?_); (case side1 => repeat (first | (with_reducible first | exact HI0.out | apply IsS87.alloc | apply IsS87.drewN | apply IsS87.drew | apply IsS87.set_0 | apply IsS87.set_1) | exact HI0.out)); (case side2 => repeat (first | (with_reducible first | exact HB.out | apply qap_ | apply qar_ | apply qbh_ | refine qt_ ?_ (IsS87.ge HI0.out)) | exact HB.out)); rintro e w13 ⟨rfl, hi, hb, hk⟩; refine ⟨_, rfl, ?_⟩; replace HK := qa_.mk (qad_.trans z7_ hk (.inl rfl)); replace HB := qa_.mk (hb); replace HI0 := qa_.mk (hi); (try clear hb); (try clear hb2); (try clear hk); (try clear hi)))
  go_ret
  exact ⟨z3_, z10_, z11_, z7_⟩
 subst c5; rw [if_pos rfl] at H; by_cases c6 : t110 = true
 ·subst c6; rw [if_pos rfl] at H; obtain ⟨rfl, rfl, rfl⟩ := pj3_ H; obtain ⟨HGz7, hgz7⟩ := HI0.out; have Z7_0 := qfg_ HGz7; have Z7_1 := qfj_ HGz7; have F7_0 := ql_ HGz7 0; have F7_1 := ql_ HGz7 1; clear HGz7 hgz7; go_enter func73, ntmps73; go_wp2_with (first | ((with_reducible refine qb_ (f := 82) rfl ?_); refine gl_ (some 15) func82 #[.string s0_0, .string ⟨#[10]⟩] ?_; (with_reducible refine (qbx_.calls s0_0 ⟨#[10]⟩ t106 t107 true _ ?side1 A3.out).mono ?_); (case side1 => exact GV.below hgv z11_); rintro e w' ⟨rfl, ⟨nd, rfl⟩⟩; refine ⟨_, rfl, ?_⟩) | ((with_reducible refine qb_ (f := 142) rfl ?_); refine gl_ (some 22) func142 #[.string t106, .string a1] ?_; refine cm_ (qca_.calls t106 a1 t109 true _ A4.out) ?_; rintro w' ⟨nd, rfl⟩)); go_ret
  exact ⟨z3_, z10_, z11_, z7_⟩
 replace c6 := Bool.eq_false_iff.mpr c6; subst c6; rw [if_neg nft_] at H; obtain ⟨⟨t111, t112⟩, A8, H⟩ := bx_ H; dsimp only at H; obtain ⟨rfl, rfl, rfl⟩ := pj3_ H; obtain ⟨HGz9, hgz9⟩ := HI0.out; have Z9_0 := qfg_ HGz9; have Z9_1 := qfj_ HGz9; have F9_0 := ql_ HGz9 0; have F9_1 := ql_ HGz9 1; clear HGz9 hgz9; go_enter func73, ntmps73; go_wp2_with (first | ((with_reducible refine qb_ (f := 82) rfl ?_); refine gl_ (some 15) func82 #[.string s0_0, .string ⟨#[10]⟩] ?_; (with_reducible refine (qbx_.calls s0_0 ⟨#[10]⟩ t106 t107 true _ ?side1 A3.out).mono ?_); (case side1 => exact GV.below hgv z11_); rintro e w' ⟨rfl, ⟨nd, rfl⟩⟩; refine ⟨_, rfl, ?_⟩) | ((with_reducible refine qb_ (f := 142) rfl ?_); refine gl_ (some 22) func142 #[.string t106, .string a1] ?_; refine cm_ (qca_.calls t106 a1 t109 false _ A4.out) ?_; rintro w' ⟨nd, rfl⟩) | ((with_reducible refine qb_ (f := 74) rfl ?_); refine gl_ (some 32) func74 #[.pointer (some ⟨g, 0, none⟩), .int .i64 2] ?_; (with_reducible refine (qbg_.calls g s0_0 s0_1 2 t111 t112 w0 _ ?side1 ?side2 A8.out).mono ?_); (case side1 => repeat (first | (with_reducible first | exact HI0.out | apply IsS87.alloc | apply IsS87.drewN | apply IsS87.drew | apply IsS87.set_0 | apply IsS87.set_1) | exact HI0.out)); (case side2 => repeat (first | (with_reducible first | exact HB.out | apply qap_ | apply qar_ | apply qbh_ | refine qt_ ?_ (IsS87.ge HI0.out)) | exact HB.out)); rintro e w10 ⟨rfl, hi, hb, hk⟩; refine ⟨_, rfl, ?_⟩; replace HK := qa_.mk (qad_.trans z7_ hk (.inl rfl)); replace HB := qa_.mk (hb); replace HI0 := qa_.mk (hi); (try clear hb); (try clear hb2); (try clear hk); (try clear hi)))
 go_ret
 exact ⟨z3_, z10_, z11_, z7_⟩
def qbf_.f (k : Nat) (s0_0 : ByteArray) (s0_1 : Int) (a1 : ByteArray) : Option (ByteArray × ByteArray × Int) := (qba_.f s0_0 s0_1 a1).bind fun bt101 => ((qck_.f k bt101.1).bind fun t104 => (if t104 = true then (some (bt101.1, bt101.2.1, bt101.2.2)) else ((qbg_.f bt101.2.1 bt101.2.2 2).bind fun bt105 => (some (bt101.1, bt105.1, bt105.2)))))
theorem qbf_.mono : ∀ a0 a1 a2 k, LeO (qbf_.f k a0 a1 a2) (qbf_.f (k + 1) a0 a1 a2) := by
 intro a0 a1 a2 k; unfold qbf_.f; have m0_ := @qck_.mono; exact mz_
theorem qbf_.calls (k : Nat) (g : Nat) (s0_0 : ByteArray) (s0_1 : Int) (a1 : ByteArray) (r1 : ByteArray) (r2 : ByteArray) (r3 : Int) (w0 w : World) (hI : IsS87 w0 w g s0_0 s0_1) (hB : Below w0.heap.size w0 w) (hgv : GV w0) (h : qbf_.f k s0_0 s0_1 a1 = some (r1, r2, r3)) :
  Calls Tryz.prog 70 #[.pointer (some ⟨g, 0, none⟩), .string a1] w fun e w' => e = .returned (.string r1) ∧ IsS87 w0 w' g r2 r3 ∧ Below w0.heap.size w0 w' ∧ qad_ w w' g none := by
 have HI0 := qa_.mk hI; have HK := qa_.mk (qad_.refl w g none); have HL := qa_.mk hB.size; clear hI; have HW0 := qa_.mk hB.size; have HB := qa_.mk hB; clear hB; unfold qbf_.f at h; have H := h; clear h; obtain ⟨⟨t101, t102, t103⟩, A3, H⟩ := bx_ H; dsimp only at H; obtain ⟨t104, A4, H⟩ := bx_ H; by_cases c5 : t104 = true
 ·subst c5; rw [if_pos rfl] at H; obtain ⟨rfl, rfl, rfl⟩ := pj3_ H; go_enter func70, ntmps70; go_wp2_with (first | ((with_reducible refine qb_ (f := 73) rfl ?_); refine gl_ (some 8) func73 #[.pointer (some ⟨g, 0, none⟩), .string a1] ?_; (with_reducible refine (qba_.calls g s0_0 s0_1 a1 t101 t102 t103 w0 _ ?side1 ?side2 ?side3 A3.out).mono ?_); (case side1 => repeat (first | (with_reducible first | exact HI0.out | apply IsS87.alloc | apply IsS87.drewN | apply IsS87.drew | apply IsS87.set_0 | apply IsS87.set_1) | exact HI0.out)); (case side2 => repeat (first | (with_reducible first | exact HB.out | apply qap_ | apply qar_ | apply qbh_ | refine qt_ ?_ (IsS87.ge HI0.out)) | exact HB.out)); (case side3 => exact hgv); rintro e w6 ⟨rfl, hi, hb, hk⟩; refine ⟨_, rfl, ?_⟩; replace HK := qa_.mk (qad_.trans z7_ hk (.inl rfl)); replace HB := qa_.mk (hb); replace HI0 := qa_.mk (hi); (try clear hb); (try clear hb2); (try clear hk); (try clear hi)) | ((with_reducible refine qb_ (f := 65) rfl ?_); refine gl_ (some 10) func65 #[.string t101] ?_; refine cm_ (qck_.calls k t101 true _ A4.out) ?_; rintro w' ⟨nd, rfl⟩)); go_ret
  exact ⟨z3_, z10_, z11_, z7_⟩
 replace c5 := Bool.eq_false_iff.mpr c5; subst c5; rw [if_neg nft_] at H; obtain ⟨⟨t105, t106⟩, A7, H⟩ := bx_ H; dsimp only at H; obtain ⟨rfl, rfl, rfl⟩ := pj3_ H; go_enter func70, ntmps70; go_wp2_with (first | ((with_reducible refine qb_ (f := 73) rfl ?_); refine gl_ (some 8) func73 #[.pointer (some ⟨g, 0, none⟩), .string a1] ?_; (with_reducible refine (qba_.calls g s0_0 s0_1 a1 t101 t102 t103 w0 _ ?side1 ?side2 ?side3 A3.out).mono ?_); (case side1 => repeat (first | (with_reducible first | exact HI0.out | apply IsS87.alloc | apply IsS87.drewN | apply IsS87.drew | apply IsS87.set_0 | apply IsS87.set_1) | exact HI0.out)); (case side2 => repeat (first | (with_reducible first | exact HB.out | apply qap_ | apply qar_ | apply qbh_ | refine qt_ ?_ (IsS87.ge HI0.out)) | exact HB.out)); (case side3 => exact hgv); rintro e w8 ⟨rfl, hi, hb, hk⟩; refine ⟨_, rfl, ?_⟩; replace HK := qa_.mk (qad_.trans z7_ hk (.inl rfl)); replace HB := qa_.mk (hb); replace HI0 := qa_.mk (hi); (try clear hb); (try clear hb2); (try clear hk); (try clear hi)) | ((with_reducible refine qb_ (f := 65) rfl ?_); refine gl_ (some 10) func65 #[.string t101] ?_; refine cm_ (qck_.calls k t101 false _ A4.out) ?_; rintro w' ⟨nd, rfl⟩) | ((with_reducible refine qb_ (f := 74) rfl ?_); refine gl_ (some 13) func74 #[.pointer (some ⟨g, 0, none⟩), .int .i64 2] ?_; (with_reducible refine (qbg_.calls g t102 t103 2 t105 t106 w0 _ ?side1 ?side2 A7.out).mono ?_); (case side1 => repeat (first | (with_reducible first | exact HI0.out | apply IsS87.alloc | apply IsS87.drewN | apply IsS87.drew | apply IsS87.set_0 | apply IsS87.set_1) | exact HI0.out)); (case side2 => repeat (first | (with_reducible first | exact HB.out | apply qap_ | apply qar_ | apply qbh_ | refine qt_ ?_ (IsS87.ge HI0.out)) | exact HB.out)); rintro e w9 ⟨rfl, hi, hb, hk⟩; refine ⟨_, rfl, ?_⟩; replace HK := qa_.mk (qad_.trans z7_ hk (.inl rfl)); replace HB := qa_.mk (hb); replace HI0 := qa_.mk (hi); (try clear hb); (try clear hb2); (try clear hk); (try clear hi)))
 go_ret
 exact ⟨z3_, z10_, z11_, z7_⟩
mutual
def qag_.j0 : Nat → ByteArray → Bool → Option (Int × Bool)
 | 0, _, _ => none
 | k + 1, x0, x27 => if x27 = true then (some (0, false)) else (qag_.l0 k x0 (x0.size : Int) 0)
def qag_.l0 : Nat → ByteArray → Int → Int → Option (Int × Bool)
 | 0, _, _, _ => none
 | k + 1, x0, x29, x30 => if x30 < x29 then (if 0 ≤ x30 then (if x30 < (x0.size : Int) then (if (bt x0 x30) < 48 then (some (0, false)) else (if (bt x0 x30) > 57 then (some (0, false)) else (qag_.l0 k x0 x29 (wrap64 (x30 + 1))))) else (none)) else (none)) else ((qbv_.f x0).bind fun bt101 => (if bt101.2.isNone = true then (some (bt101.1, true)) else (some (bt101.1, false))))
end
def qag_.f (k : Nat) (a0 : ByteArray) (a1 : Int) : Option (Int × Bool) := if (a0.size : Int) < 1 then (qag_.j0 k a0 true) else (if (a0.size : Int) > a1 then (qag_.j0 k a0 true) else (if (a0.size : Int) > 1 then (if 0 < (a0.size : Int) then (qag_.j0 k a0 ((bt a0 0) == 48)) else (none)) else (qag_.j0 k a0 false)))
theorem qag_.mono_l : ∀ k, (∀ y0 y1, LeO (qag_.j0 k y0 y1) (qag_.j0 (k + 1) y0 y1)) ∧ (∀ y0 y1 y2, LeO (qag_.l0 k y0 y1 y2) (qag_.l0 (k + 1) y0 y1 y2))
 | 0 => ⟨fun _ _ r h => by simp [qag_.j0] at h, fun _ _ _ r h => by simp [qag_.l0] at h⟩
 | k + 1 => by
  obtain ⟨ih0, ih1⟩ := qag_.mono_l k
  refine ⟨?_, ?_⟩
  ·intro y0 y1
   unfold qag_.j0
   have m0_ := @ih0
   have m1_ := @ih1
   exact mz_
  ·intro y0 y1 y2
   unfold qag_.l0
   have m0_ := @ih0
   have m1_ := @ih1
   exact mz_
theorem qag_.mono : ∀ a0 a1 k, LeO (qag_.f k a0 a1) (qag_.f (k + 1) a0 a1) := by
 intro a0 a1 k; obtain ⟨ih0, ih1⟩ := qag_.mono_l k; unfold qag_.f; have m0_ := @ih0; have m1_ := @ih1; exact mz_
theorem qag_.calls (k : Nat) (a0 : ByteArray) (a1 : Int) (r1 : Int) (r2 : Bool) (w : World) (h : qag_.f k a0 a1 = some (r1, r2)) :
  Calls Tryz.prog 83 #[.string a0, .int .i64 a1] w fun e w' => e = .returned (.tuple #[.int .i64 r1, .bool r2]) ∧ Below w.heap.size w w' := by
 have hu117 := underlying117; have HB := qa_.mk (Below.refl w.heap.size w); unfold qag_.f at h; have H := h; clear h; have HC3 := qa_.mk H; clear H; go_enter func83, ntmps83; go_upto_region 1 with (fail)
 repeat (go_quiet (fail); go_upto_region 1 with (fail))
 go_cut [27] (fun v27 wc => ∃ (kq : Nat) (x27_2 : Bool), v27 = .bool x27_2 ∧ qa_ (qag_.j0 kq a0 x27_2 = some (r1, r2)) ∧ qa_ (kq ≤ k) ∧ qa_ (Below w.heap.size w wc))
 case first =>
  have H := HC3.out; clear HC3; by_cases c4 : (a0.size : Int) < 1
  ·rw [if_pos c4] at H; have c4b0 := dt_ c4; have c4b1 : decide (a0.size < 1) = true := decide_eq_true (by omega); clear c4; (first | rw [c4b0] | (simp only [i64_w, i32_w]; rw [c4b0]) | skip); have H' := qa_.mk H; clear H; go_wp2
   repeat (go_quiet (fail); try go_wp2)
   go_meet
   case rel => exact ⟨_, (true), z1_, H', ⟨z4_⟩, ⟨hb_ HB.out⟩⟩
  rw [if_neg c4] at H; have c4b0 := df_ c4; have c4b1 : decide (a0.size < 1) = false := decide_eq_false (by omega); clear c4; (first | rw [c4b0] | (simp only [i64_w, i32_w]; rw [c4b0]) | skip); by_cases c5 : (a0.size : Int) > a1
  ·rw [if_pos c5] at H; have c5b0 := dt_ c5; clear c5; have H' := qa_.mk H; clear H; go_wp2
   repeat (go_quiet (fail); try go_wp2)
   go_meet
   case rel => exact ⟨_, (true), z1_, H', ⟨z4_⟩, ⟨hb_ HB.out⟩⟩
  rw [if_neg c5] at H; have c5b0 := df_ c5; clear c5; by_cases c6 : (a0.size : Int) > 1; rotate_left
  ·rw [if_neg c6] at H; have c6b0 := df_ c6; have c6b1 : decide (1 < a0.size) = false := decide_eq_false (by omega); clear c6; have H' := qa_.mk H; clear H; go_wp2
   repeat (go_quiet (fail); try go_wp2)
   go_meet
   case rel => exact ⟨_, (false), z1_, H', ⟨z4_⟩, ⟨hb_ HB.out⟩⟩
  rw [if_pos c6] at H; have c6b0 := dt_ c6; have c6b1 : decide (1 < a0.size) = true := decide_eq_true (by omega); clear c6; by_cases c7 : 0 < (a0.size : Int); rotate_left
  ·rw [if_neg c7] at H; exact no_ H
  rw [if_pos c7] at H; have c7b0 := dt_ c7; have c7b1 : decide (0 < a0.size) = true := decide_eq_true (by omega); clear c7; have H' := qa_.mk H; clear H; have p8 : 0 ≤ (0 : Int) := (by omega); have q8 : 0 < a0.size := (by have : (0 : Int) < (a0.size : Int) := y0_; omega)
  have hx8 : ∀ h : 0 < a0.size, ((a0[0]'h).toNat : Int) = bt a0 0 := bt_at a0 0; clear p8; have qi8 : (0 < (a0.size : Int)) = True := eq_true (y0_); replace q8 := eq_true q8; go_wp2
  repeat (go_quiet (fail); try go_wp2)
  go_meet
  case rel => exact ⟨_, (((bt a0 0) == 48)), z1_, H', ⟨z4_⟩, ⟨hb_ HB.out⟩⟩
 case rest =>
  clear HC3; try clear p2
  try clear c4
  try clear c4b0
  try clear c4b1
  try clear c5
  try clear c5b0
  try clear c6
  try clear c6b0
  try clear c6b1
  try clear c7
  try clear c7b0
  try clear c7b1
  try clear c8
  try clear p8
  try clear q8
  try clear hx8
  try clear qi8
  try clear p8
  try clear q8
  obtain ⟨kq, x27_2, rfl, HA, HJ2, HB⟩ := hcut
  cases kq with
  | zero => exact absurd HA.out (by simp [qag_.j0])
  | succ kj2 =>
   have H := HA.out; clear HA; simp only [qag_.j0] at H; by_cases c9 : x27_2 = true
   ·subst c9; rw [if_pos rfl] at H; obtain ⟨rfl, rfl⟩ := pj2_ H; go_wp2
    repeat (go_quiet (fail); try go_wp2)
    go_ret2
    exact ⟨z3_, hb_ HB.out⟩
   replace c9 := Bool.eq_false_iff.mpr c9; subst c9; rw [if_neg nft_] at H; have H' := qa_.mk H; clear H; go_wp2
   repeat (go_quiet (fail); try go_wp2)
   go_loopg [30] kj2 (fun kq v30 w' => ∃ (x30_2 : Int), v30 = .int .i64 x30_2 ∧ qa_ (qag_.l0 kq a0 (a0.size : Int) x30_2 = some (r1, r2)) ∧ qa_ (kq ≤ kj2) ∧ qa_ (Below w.heap.size w w'))
   case atStart => exact ⟨(0), z1_, H', ⟨Nat.le_refl _⟩, ⟨hb_ HB.out⟩⟩
   case round =>
    clear H'; try clear p2
    try clear c4
    try clear c4b0
    try clear c4b1
    try clear c5
    try clear c5b0
    try clear c6
    try clear c6b0
    try clear c6b1
    try clear c7
    try clear c7b0
    try clear c7b1
    try clear c8
    try clear p8
    try clear q8
    try clear hx8
    try clear qi8
    try clear c9
    try clear p2
    try clear p8
    try clear q8
    obtain ⟨x30_2, rfl, HA, HK2, HB⟩ := hrel
    cases gk with
    | zero => exact absurd HA.out (by simp [qag_.l0])
    | succ k2 =>
     have H := HA.out; clear HA; simp only [qag_.l0] at H; by_cases c10 : x30_2 < (a0.size : Int); rotate_left
     ·rw [if_neg c10] at H; have c10b0 := df_ c10; clear c10; obtain ⟨⟨t101, t102⟩, A17, H⟩ := bx_ H; dsimp only at H; rcases t102 with _ | q103
      ·have H1 : (some (t101, true)) = some (r1, r2) := by rw [if_pos (show (none : Option Int).isNone = true by rfl)] at H; exact H
       clear H; have H := H1; clear H1; try simp only [qbi_, qbj_]
       obtain ⟨rfl, rfl⟩ := pj2_ H; go_wp2_with (first | (go_at_call 145; (with_reducible refine (qbv_.calls a0 t101 none _ A17.out).mono ?_); rintro e w18 ⟨rfl, hb⟩; replace HB := ah_ HB hb; (try clear hb); (try clear hb2); (try clear hk); (try clear hi); (try simp only [qbi_, qbj_])))
       repeat (go_quiet (first | (go_at_call 145; (with_reducible refine (qbv_.calls a0 t101 none _ A17.out).mono ?_); rintro e w18 ⟨rfl, hb⟩; replace HB := ah_ HB hb; (try clear hb); (try clear hb2); (try clear hk); (try clear hi); (try simp only [qbi_, qbj_]))); try go_wp2_with (first | (go_at_call 145; (with_reducible refine (qbv_.calls a0 t101 none _ A17.out).mono ?_); rintro e w18 ⟨rfl, hb⟩; replace HB := ah_ HB hb; (try clear hb); (try clear hb2); (try clear hk); (try clear hi); (try simp only [qbi_, qbj_]))))
       go_ret2
       exact ⟨z3_, hb_ HB.out⟩
      ·have H1 : (some (t101, false)) = some (r1, r2) := by rw [if_neg (show ¬ (some q103).isNone = true by simp)] at H; exact H
       clear H; have H := H1; clear H1; try simp only [qbi_, qbj_]
       obtain ⟨rfl, rfl⟩ := pj2_ H; go_wp2_with (first | (go_at_call 145; (with_reducible refine (qbv_.calls a0 t101 (some q103) _ A17.out).mono ?_); rintro e w19 ⟨rfl, hb⟩; replace HB := ah_ HB hb; (try clear hb); (try clear hb2); (try clear hk); (try clear hi); (try simp only [qbi_, qbj_])))
       repeat (go_quiet (first | (go_at_call 145; (with_reducible refine (qbv_.calls a0 t101 (some q103) _ A17.out).mono ?_); rintro e w19 ⟨rfl, hb⟩; replace HB := ah_ HB hb; (try clear hb); (try clear hb2); (try clear hk); (try clear hi); (try simp only [qbi_, qbj_]))); try go_wp2_with (first | (go_at_call 145; (with_reducible refine (qbv_.calls a0 t101 (some q103) _ A17.out).mono ?_); rintro e w19 ⟨rfl, hb⟩; replace HB := ah_ HB hb; (try clear hb); (try clear hb2); (try clear hk); (try clear hi); (try simp only [qbi_, qbj_]))))
       go_ret2
       exact ⟨z3_, hb_ HB.out⟩
     rw [if_pos c10] at H; have c10b0 := dt_ c10; clear c10; by_cases c11 : 0 ≤ x30_2; rotate_left
     ·rw [if_neg c11] at H; exact no_ H
     rw [if_pos c11] at H; have c11b0 := dt_ c11; clear c11; by_cases c12 : x30_2 < (a0.size : Int); rotate_left
     ·rw [if_neg c12] at H; exact no_ H
     rw [if_pos c12] at H; have c12b0 := dt_ c12; clear c12; by_cases c14 : (bt a0 x30_2) < 48
     ·rw [if_pos c14] at H; have c14b0 := dt_ c14; clear c14; obtain ⟨rfl, rfl⟩ := pj2_ H; have p13 : 0 ≤ (x30_2 : Int) := y0_; have q13 : x30_2 < (a0.size : Int) := y0_; have hx13 := bt_at a0 x30_2; replace p13 := eq_true p13; replace q13 := eq_true q13; go_wp2
      repeat (go_quiet (fail); try go_wp2)
      go_ret2
      exact ⟨z3_, hb_ HB.out⟩
     rw [if_neg c14] at H; have c14b0 := df_ c14; clear c14; by_cases c16 : (bt a0 x30_2) > 57
     ·rw [if_pos c16] at H; have c16b0 := dt_ c16; clear c16; obtain ⟨rfl, rfl⟩ := pj2_ H; have p13 : 0 ≤ (x30_2 : Int) := y0_; have q13 : x30_2 < (a0.size : Int) := y0_; have hx13 := bt_at a0 x30_2; replace p13 := eq_true p13; replace q13 := eq_true q13; have p15 : 0 ≤ (x30_2 : Int) := y0_; have q15 : x30_2 < (a0.size : Int) := y0_; have hx15 := bt_at a0 x30_2; replace p15 := eq_true p15; replace q15 := eq_true q15; go_wp2
      repeat (go_quiet (fail); try go_wp2)
      go_ret2
      exact ⟨z3_, hb_ HB.out⟩
     rw [if_neg c16] at H; have c16b0 := df_ c16; clear c16; have H' := qa_.mk H; clear H; have p13 : 0 ≤ (x30_2 : Int) := y0_; have q13 : x30_2 < (a0.size : Int) := y0_; have hx13 := bt_at a0 x30_2; replace p13 := eq_true p13; replace q13 := eq_true q13; have p15 : 0 ≤ (x30_2 : Int) := y0_; have q15 : x30_2 < (a0.size : Int) := y0_; have hx15 := bt_at a0 x30_2; replace p15 := eq_true p15; replace q15 := eq_true q15; go_wp2
     repeat (go_quiet (fail); try go_wp2)
     go_roundg k2
     case measure => have := HJ2.out; have := HK2.out; omega
     case rel => exact ⟨(wrap64 (x30_2 + 1)), z1_, H', ⟨by have := HJ2.out; have := HK2.out; omega⟩, ⟨hb_ HB.out⟩⟩
mutual
def qao_.j0 : Nat → ByteArray → Bool → Option (Int × Bool)
 | 0, _, _ => none
 | k + 1, x0, x25 => if x25 = true then (some (0, false)) else (qao_.l0 k x0 1)
def qao_.l0 : Nat → ByteArray → Int → Option (Int × Bool)
 | 0, _, _ => none
 | k + 1, x0, x4 => if x4 < 5 then (if 0 ≤ x4 then (if x4 < (x0.size : Int) then (if (bt x0 x4) < 48 then (some (0, false)) else (if (bt x0 x4) > 57 then (some (0, false)) else (qao_.l0 k x0 (wrap64 (x4 + 1))))) else (none)) else (none)) else (if 1 ≤ 3 then (if 3 ≤ (x0.size : Int) then ((qbv_.f (x0.extract 1 3)).bind fun bt104 => ((qbv_.f (x0.extract 3 x0.size)).bind fun bt106 => (if bt106.1 ≥ 60 then (some (0, false)) else (if 0 < (x0.size : Int) then (if (bt x0 0) = 45 then (some (wrap64 ((wrap64 ((-60) * bt104.1)) - bt106.1), true)) else (some (wrap64 ((wrap64 (60 * bt104.1)) + bt106.1), true))) else (none))))) else (none)) else (none))
end
def qao_.f (k : Nat) (a0 : ByteArray) : Option (Int × Bool) := if (a0.size : Int) = 5 then (if 0 < (a0.size : Int) then (if (bt a0 0) = 43 then (qao_.j0 k a0 (a0.toList == ([45, 48, 48, 48, 48] : List UInt8))) else (if (bt a0 0) = 45 then (qao_.j0 k a0 (a0.toList == ([45, 48, 48, 48, 48] : List UInt8))) else (qao_.j0 k a0 true))) else (none)) else (qao_.j0 k a0 true)
theorem qao_.mono_l : ∀ k, (∀ y0 y1, LeO (qao_.j0 k y0 y1) (qao_.j0 (k + 1) y0 y1)) ∧ (∀ y0 y1, LeO (qao_.l0 k y0 y1) (qao_.l0 (k + 1) y0 y1))
 | 0 => ⟨fun _ _ r h => by simp [qao_.j0] at h, fun _ _ r h => by simp [qao_.l0] at h⟩
 | k + 1 => by
  obtain ⟨ih0, ih1⟩ := qao_.mono_l k
  refine ⟨?_, ?_⟩
  ·intro y0 y1
   unfold qao_.j0
   have m0_ := @ih0
   have m1_ := @ih1
   exact mz_
  ·intro y0 y1
   unfold qao_.l0
   have m0_ := @ih0
   have m1_ := @ih1
   exact mz_
theorem qao_.mono : ∀ a0 k, LeO (qao_.f k a0) (qao_.f (k + 1) a0) := by
 intro a0 k; obtain ⟨ih0, ih1⟩ := qao_.mono_l k; unfold qao_.f; have m0_ := @ih0; have m1_ := @ih1; exact mz_
theorem qao_.calls (k : Nat) (a0 : ByteArray) (r1 : Int) (r2 : Bool) (w : World) (h : qao_.f k a0 = some (r1, r2)) :
  Calls Tryz.prog 84 #[.string a0] w fun e w' => e = .returned (.tuple #[.int .i64 r1, .bool r2]) ∧ Below w.heap.size w w' := by
 have HB := qa_.mk (Below.refl w.heap.size w); unfold qao_.f at h; have H := h; clear h; have HC2 := qa_.mk H; clear H; go_enter func84, ntmps84; go_upto_region 1 with (fail)
 go_cut [25] (fun v25 wc => ∃ (kq : Nat) (x25_1 : Bool), v25 = .bool x25_1 ∧ qa_ (qao_.j0 kq a0 x25_1 = some (r1, r2)) ∧ qa_ (kq ≤ k) ∧ qa_ (Below w.heap.size w wc))
 case first =>
  have H := HC2.out; clear HC2; by_cases c3 : (a0.size : Int) = 5; rotate_left
  ·rw [if_neg c3] at H; have c3b0 := ef_ c3; have c3b1 := nt_ c3; (first | rw [c3b0] | (simp only [i64_w, i32_w]; rw [c3b0]) | skip); have H' := qa_.mk H; clear H; go_wp2
   go_meet
   case rel => exact ⟨_, (true), z1_, H', ⟨z4_⟩, ⟨hb_ HB.out⟩⟩
  rw [if_pos c3] at H; have c3b0 := et_ c3; have c3b1 := nf_ c3; clear c3; (first | rw [c3b0] | (simp only [i64_w, i32_w]; rw [c3b0]) | skip); by_cases c4 : 0 < (a0.size : Int); rotate_left
  ·rw [if_neg c4] at H; exact no_ H
  rw [if_pos c4] at H; have c4b0 := dt_ c4; have c4b1 : decide (0 < a0.size) = true := decide_eq_true (by omega); clear c4; by_cases c6 : (bt a0 0) = 43
  ·rw [if_pos c6] at H; have c6b0 := et_ c6; have c6b1 := nf_ c6; clear c6; have H' := qa_.mk H; clear H; have p5 : 0 ≤ (0 : Int) := (by omega); have q5 : 0 < a0.size := (by have : (0 : Int) < (a0.size : Int) := y0_; omega)
   have hx5 : ∀ h : 0 < a0.size, ((a0[0]'h).toNat : Int) = bt a0 0 := bt_at a0 0; clear p5; have qi5 : (0 < (a0.size : Int)) = True := eq_true (y0_); replace q5 := eq_true q5; go_wp2
   go_meet
   case rel => exact ⟨_, ((a0.toList == ([45, 48, 48, 48, 48] : List UInt8))), z1_, H', ⟨z4_⟩, ⟨hb_ HB.out⟩⟩
  rw [if_neg c6] at H; have c6b0 := ef_ c6; have c6b1 := nt_ c6; by_cases c8 : (bt a0 0) = 45; rotate_left
  ·rw [if_neg c8] at H; have c8b0 := ef_ c8; have c8b1 := nt_ c8; have H' := qa_.mk H; clear H; have p5 : 0 ≤ (0 : Int) := (by omega); have q5 : 0 < a0.size := (by have : (0 : Int) < (a0.size : Int) := y0_; omega)
   have hx5 : ∀ h : 0 < a0.size, ((a0[0]'h).toNat : Int) = bt a0 0 := bt_at a0 0; clear p5; have qi5 : (0 < (a0.size : Int)) = True := eq_true (y0_); replace q5 := eq_true q5; have p7 : 0 ≤ (0 : Int) := (by omega); have q7 : 0 < a0.size := (by have : (0 : Int) < (a0.size : Int) := y0_; omega)
   have hx7 : ∀ h : 0 < a0.size, ((a0[0]'h).toNat : Int) = bt a0 0 := bt_at a0 0; clear p7; have qi7 : (0 < (a0.size : Int)) = True := eq_true (y0_); replace q7 := eq_true q7; go_wp2
   go_meet
   case rel => exact ⟨_, (true), z1_, H', ⟨z4_⟩, ⟨hb_ HB.out⟩⟩
  rw [if_pos c8] at H; have c8b0 := et_ c8; have c8b1 := nf_ c8; clear c8; have H' := qa_.mk H; clear H; have p5 : 0 ≤ (0 : Int) := (by omega); have q5 : 0 < a0.size := (by have : (0 : Int) < (a0.size : Int) := y0_; omega)
  have hx5 : ∀ h : 0 < a0.size, ((a0[0]'h).toNat : Int) = bt a0 0 := bt_at a0 0; clear p5; have qi5 : (0 < (a0.size : Int)) = True := eq_true (y0_); replace q5 := eq_true q5; have p7 : 0 ≤ (0 : Int) := (by omega); have q7 : 0 < a0.size := (by have : (0 : Int) < (a0.size : Int) := y0_; omega)
  have hx7 : ∀ h : 0 < a0.size, ((a0[0]'h).toNat : Int) = bt a0 0 := bt_at a0 0; clear p7; have qi7 : (0 < (a0.size : Int)) = True := eq_true (y0_); replace q7 := eq_true q7; go_wp2
  go_meet
  case rel => exact ⟨_, ((a0.toList == ([45, 48, 48, 48, 48] : List UInt8))), z1_, H', ⟨z4_⟩, ⟨hb_ HB.out⟩⟩
 case rest =>
  clear HC2; try clear p2
  try clear c3
  try clear c3b0
  try clear c3b1
  try clear c4
  try clear c4b0
  try clear c4b1
  try clear p5
  try clear q5
  try clear hx5
  try clear qi5
  try clear c6
  try clear c6b0
  try clear c6b1
  try clear p7
  try clear q7
  try clear hx7
  try clear qi7
  try clear c8
  try clear c8b0
  try clear c8b1
  try clear p5
  try clear p7
  try clear q5
  try clear q7
  obtain ⟨kq, x25_1, rfl, HA, HJ1, HB⟩ := hcut
  cases kq with
  | zero => exact absurd HA.out (by simp [qao_.j0])
  | succ kj1 =>
   have H := HA.out; clear HA; simp only [qao_.j0] at H; by_cases c9 : x25_1 = true
   ·subst c9; rw [if_pos rfl] at H; obtain ⟨rfl, rfl⟩ := pj2_ H; go_wp2
    go_ret2
    exact ⟨z3_, hb_ HB.out⟩
   replace c9 := Bool.eq_false_iff.mpr c9; subst c9; rw [if_neg nft_] at H; have H' := qa_.mk H; clear H; go_wp2
   go_loopg [4] kj1 (fun kq v4 w' => ∃ (x4_2 : Int), v4 = .int .i64 x4_2 ∧ qa_ (qao_.l0 kq a0 x4_2 = some (r1, r2)) ∧ qa_ (kq ≤ kj1) ∧ qa_ (Below w.heap.size w w'))
   case atStart => exact ⟨(1), z1_, H', ⟨Nat.le_refl _⟩, ⟨hb_ HB.out⟩⟩
   case round =>
    clear H'; try clear p2
    try clear c3
    try clear c3b0
    try clear c3b1
    try clear c4
    try clear c4b0
    try clear c4b1
    try clear p5
    try clear q5
    try clear hx5
    try clear qi5
    try clear c6
    try clear c6b0
    try clear c6b1
    try clear p7
    try clear q7
    try clear hx7
    try clear qi7
    try clear c8
    try clear c8b0
    try clear c8b1
    try clear c9
    try clear p2
    try clear p5
    try clear p7
    try clear q5
    try clear q7
    obtain ⟨x4_2, rfl, HA, HK2, HB⟩ := hrel
    cases gk with
    | zero => exact absurd HA.out (by simp [qao_.l0])
    | succ k2 =>
     have H := HA.out; clear HA; simp only [qao_.l0] at H; by_cases c10 : x4_2 < 5
     ·rw [if_pos c10] at H; have c10b0 := dt_ c10; clear c10; by_cases c11 : 0 ≤ x4_2; rotate_left
      ·rw [if_neg c11] at H; exact no_ H
      rw [if_pos c11] at H; have c11b0 := dt_ c11; clear c11; by_cases c12 : x4_2 < (a0.size : Int); rotate_left
      ·rw [if_neg c12] at H; exact no_ H
      rw [if_pos c12] at H; have c12b0 := dt_ c12; clear c12; by_cases c14 : (bt a0 x4_2) < 48
      ·rw [if_pos c14] at H; have c14b0 := dt_ c14; clear c14; obtain ⟨rfl, rfl⟩ := pj2_ H; have p13 : 0 ≤ (x4_2 : Int) := y0_; have q13 : x4_2 < (a0.size : Int) := y0_; have hx13 := bt_at a0 x4_2; replace p13 := eq_true p13; replace q13 := eq_true q13; go_wp2
       go_ret2
       exact ⟨z3_, hb_ HB.out⟩
      rw [if_neg c14] at H; have c14b0 := df_ c14; clear c14; by_cases c16 : (bt a0 x4_2) > 57
      ·rw [if_pos c16] at H; have c16b0 := dt_ c16; clear c16; obtain ⟨rfl, rfl⟩ := pj2_ H; have p13 : 0 ≤ (x4_2 : Int) := y0_; have q13 : x4_2 < (a0.size : Int) := y0_; have hx13 := bt_at a0 x4_2; replace p13 := eq_true p13; replace q13 := eq_true q13; have p15 : 0 ≤ (x4_2 : Int) := y0_; have q15 : x4_2 < (a0.size : Int) := y0_; have hx15 := bt_at a0 x4_2; replace p15 := eq_true p15; replace q15 := eq_true q15; go_wp2
       go_ret2
       exact ⟨z3_, hb_ HB.out⟩
      rw [if_neg c16] at H; have c16b0 := df_ c16; clear c16; have H' := qa_.mk H; clear H; have p13 : 0 ≤ (x4_2 : Int) := y0_; have q13 : x4_2 < (a0.size : Int) := y0_; have hx13 := bt_at a0 x4_2; replace p13 := eq_true p13; replace q13 := eq_true q13; have p15 : 0 ≤ (x4_2 : Int) := y0_; have q15 : x4_2 < (a0.size : Int) := y0_; have hx15 := bt_at a0 x4_2; replace p15 := eq_true p15; replace q15 := eq_true q15; go_wp2
      go_roundg k2
      case measure => have := HJ1.out; have := HK2.out; omega
      case rel => exact ⟨(wrap64 (x4_2 + 1)), z1_, H', ⟨by have := HJ1.out; have := HK2.out; omega⟩, ⟨hb_ HB.out⟩⟩
     rw [if_neg c10] at H; have c10b0 := df_ c10; clear c10; by_cases c17 : 1 ≤ 3; rotate_left
     ·rw [if_neg c17] at H; exact no_ H
     rw [if_pos c17] at H; have c17b0 := eq_true c17; have c17b1 := dt_ c17; clear c17; by_cases c18 : 3 ≤ (a0.size : Int); rotate_left
     ·rw [if_neg c18] at H; exact no_ H
     rw [if_pos c18] at H; have c18b0 := eq_true c18; have c18b1 := dt_ c18; clear c18; obtain ⟨⟨t104, t105⟩, A19, H⟩ := bx_ H; dsimp only at H; have c20b0 := eq_true (y0_ : 3 ≤ (a0.size : Int)); obtain ⟨⟨t106, t107⟩, A21, H⟩ := bx_ H; dsimp only at H; by_cases c22 : t106 ≥ 60
     ·rw [if_pos c22] at H; have c22b0 := dt_ c22; clear c22; obtain ⟨rfl, rfl⟩ := pj2_ H; have tk1_ : True := trivial; have tk2_ : True := trivial; go_wp2_with (first | (have _t := tk1_; (with_reducible refine qb_ (f := 145) rfl ?_); refine gl_ (some 43) func145 #[.string (a0.extract 1 3)] ?_; refine cm_ (qbv_.calls (a0.extract 1 3) t104 t105 _ A19.out) fun w23 hb => ?_; replace HB := ah_ HB hb; (try clear hb); (try clear hb2); (try clear hk); (try clear hi); (try simp only [qbi_, qbj_]); clear tk1_) | (have _t := tk2_; (with_reducible refine qb_ (f := 145) rfl ?_); refine gl_ (some 49) func145 #[.string (a0.extract 3 a0.size)] ?_; refine cm_ (qbv_.calls (a0.extract 3 a0.size) t106 t107 _ A21.out) fun w24 hb => ?_; replace HB := ah_ HB hb; (try clear hb); (try clear hb2); (try clear hk); (try clear hi); (try simp only [qbi_, qbj_]); clear tk2_)); go_ret2
      exact ⟨z3_, hb_ HB.out⟩
     rw [if_neg c22] at H; have c22b0 := df_ c22; clear c22; by_cases c25 : 0 < (a0.size : Int); rotate_left
     ·rw [if_neg c25] at H; exact no_ H
     rw [if_pos c25] at H; have c25b0 := dt_ c25; have c25b1 : decide (0 < a0.size) = true := decide_eq_true (by omega); clear c25; by_cases c27 : (bt a0 0) = 45; rotate_left
     ·rw [if_neg c27] at H; have c27b0 := ef_ c27; have c27b1 := nt_ c27; obtain ⟨rfl, rfl⟩ := pj2_ H; have tk5_ : True := trivial; have tk6_ : True := trivial; go_wp2_with (first | (have _t := tk5_; (with_reducible refine qb_ (f := 145) rfl ?_); refine gl_ (some 43) func145 #[.string (a0.extract 1 3)] ?_; refine cm_ (qbv_.calls (a0.extract 1 3) t104 t105 _ A19.out) fun w30 hb => ?_; replace HB := ah_ HB hb; (try clear hb); (try clear hb2); (try clear hk); (try clear hi); (try simp only [qbi_, qbj_]); clear tk5_) | (have _t := tk6_; (with_reducible refine qb_ (f := 145) rfl ?_); refine gl_ (some 49) func145 #[.string (a0.extract 3 a0.size)] ?_; refine cm_ (qbv_.calls (a0.extract 3 a0.size) t106 t107 _ A21.out) fun w31 hb => ?_; replace HB := ah_ HB hb; (try clear hb); (try clear hb2); (try clear hk); (try clear hi); (try simp only [qbi_, qbj_]); have p26 : 0 ≤ (0 : Int) := (by omega); have q26 : 0 < a0.size := (by have : (0 : Int) < (a0.size : Int) := y0_; omega); have hx26 : ∀ h : 0 < a0.size, ((a0[0]'h).toNat : Int) = bt a0 0 := bt_at a0 0; clear p26; have qi26 : (0 < (a0.size : Int)) = True := eq_true (y0_); replace q26 := eq_true q26; clear tk6_)); go_ret2
      exact ⟨z3_, hb_ HB.out⟩
     rw [if_pos c27] at H; have c27b0 := et_ c27; have c27b1 := nf_ c27; clear c27; obtain ⟨rfl, rfl⟩ := pj2_ H; have tk3_ : True := trivial; have tk4_ : True := trivial; go_wp2_with (first | (have _t := tk3_; (with_reducible refine qb_ (f := 145) rfl ?_); refine gl_ (some 43) func145 #[.string (a0.extract 1 3)] ?_; refine cm_ (qbv_.calls (a0.extract 1 3) t104 t105 _ A19.out) fun w28 hb => ?_; replace HB := ah_ HB hb; (try clear hb); (try clear hb2); (try clear hk); (try clear hi); (try simp only [qbi_, qbj_]); clear tk3_) | (have _t := tk4_; (with_reducible refine qb_ (f := 145) rfl ?_); refine gl_ (some 49) func145 #[.string (a0.extract 3 a0.size)] ?_; refine cm_ (qbv_.calls (a0.extract 3 a0.size) t106 t107 _ A21.out) fun w29 hb => ?_; replace HB := ah_ HB hb; (try clear hb); (try clear hb2); (try clear hk); (try clear hi); (try simp only [qbi_, qbj_]); have p26 : 0 ≤ (0 : Int) := (by omega); have q26 : 0 < a0.size := (by have : (0 : Int) < (a0.size : Int) := y0_; omega); have hx26 : ∀ h : 0 < a0.size, ((a0[0]'h).toNat : Int) = bt a0 0 := bt_at a0 0; clear p26; have qi26 : (0 < (a0.size : Int)) = True := eq_true (y0_); replace q26 := eq_true q26; clear tk4_)); go_ret2
     exact ⟨z3_, hb_ HB.out⟩
def qah_.j0 : Nat → ByteArray → ByteArray → Int → Int → Bool → Option (ByteArray × ByteArray × Int × Int × Int)
 | 0, _, _, _, _, _ => none
 | k + 1, x4, x7, x12, x14, x68 => if x68 = true then (some ((⟨#[]⟩ : ByteArray), (⟨#[]⟩ : ByteArray), 0, 0, 2)) else ((qax_.f k x4 x7 x12 x14).bind fun t124 => (if t124 = true then (some (x4, x7, x12, x14, 0)) else (some ((⟨#[]⟩ : ByteArray), (⟨#[]⟩ : ByteArray), 0, 0, 1))))
def qah_.f (k : Nat) (a0 : ByteArray) : Option (ByteArray × ByteArray × Int × Int × Int) := (qbx_.f a0 ⟨#[32, 60]⟩).bind fun bt109 => ((qbx_.f bt109.2.1 ⟨#[62, 32]⟩).bind fun bt112 => ((qbx_.f bt112.2.1 ⟨#[32]⟩).bind fun bt115 => ((qag_.f k bt115.1 18).bind fun bt118 => ((qao_.f k bt115.2.1).bind fun bt120 => (if bt109.2.2 = true then (if bt112.2.2 = true then (if bt115.2.2 = true then (if bt118.2 = true then (if bt120.2 = true then (if bt109.1.size + bt112.1.size ≤ 9223372036854775807 then ((qco_.f (bt109.1 ++ bt112.1) ⟨#[60, 62]⟩).bind fun t122 => (qah_.j0 k bt109.1 bt112.1 bt118.1 bt120.1 t122)) else (none)) else (qah_.j0 k bt109.1 bt112.1 bt118.1 bt120.1 true)) else (qah_.j0 k bt109.1 bt112.1 bt118.1 bt120.1 true)) else (qah_.j0 k bt109.1 bt112.1 bt118.1 bt120.1 true)) else (qah_.j0 k bt109.1 bt112.1 bt118.1 bt120.1 true)) else (qah_.j0 k bt109.1 bt112.1 bt118.1 bt120.1 true))))))
theorem qah_.mono_l : ∀ k, (∀ y0 y1 y2 y3 y4, LeO (qah_.j0 k y0 y1 y2 y3 y4) (qah_.j0 (k + 1) y0 y1 y2 y3 y4))
 | 0 => fun _ _ _ _ _ r h => by simp [qah_.j0] at h
 | k + 1 => by
  have ih0 := qah_.mono_l k
  ·intro y0 y1 y2 y3 y4
   unfold qah_.j0
   have m0_ := @ih0
   have m1_ := @qag_.mono
   have m2_ := @qax_.mono
   have m3_ := @qao_.mono
   exact mz_
theorem qah_.mono : ∀ a0 k, LeO (qah_.f k a0) (qah_.f (k + 1) a0) := by
 intro a0 k; have ih0 := qah_.mono_l k; unfold qah_.f; have m0_ := @ih0; have m1_ := @qag_.mono; have m2_ := @qax_.mono; have m3_ := @qao_.mono; exact mz_
theorem qah_.calls (k : Nat) (a0 : ByteArray) (r1 : ByteArray) (r2 : ByteArray) (r3 : Int) (r4 : Int) (r5 : Int) (w : World) (hgv : GV w) (h : qah_.f k a0 = some (r1, r2, r3, r4, r5)) :
  Calls Tryz.prog 29 #[.string a0] w fun e w' => e = .returned (.tuple #[.agg #[.string r1, .string r2, .int .i64 r3, .int .i64 r4], .int .i64 r5]) ∧ Below w.heap.size w w' := by
 have hu24 := underlying24; have HB := qa_.mk (Below.refl w.heap.size w); unfold qah_.f at h; have H := h; clear h; obtain ⟨⟨t109, t110, t111⟩, A2, H⟩ := bx_ H; dsimp only at H; obtain ⟨⟨t112, t113, t114⟩, A3, H⟩ := bx_ H; dsimp only at H; obtain ⟨⟨t115, t116, t117⟩, A4, H⟩ := bx_ H; dsimp only at H; obtain ⟨⟨t118, t119⟩, A5, H⟩ := bx_ H; dsimp only at H; obtain ⟨⟨t120, t121⟩, A6, H⟩ := bx_ H; dsimp only at H; have HC7 := qa_.mk H; clear H; go_enter func29, ntmps29; go_upto_region 6 with (first | ((with_reducible refine qk_ (N := 2) rfl ?_); refine be_ (cs := #[.string ⟨#[]⟩, .string ⟨#[]⟩, .int .i64 0, .int .i64 0]) (t := 24) ?_; intro g108 hg w8 hbox hb; have K108 := qa_.mk (hbox); have W108 := ag_ hg HB; have E108 := ag_ hg HB; replace HB := ah_ HB hb; clear hb hbox hg) | ((with_reducible refine qb_ (f := 82) rfl ?_); refine gl_ (some 19) func82 #[.string a0, .string ⟨#[32, 60]⟩] ?_; (with_reducible refine (qbx_.calls a0 ⟨#[32, 60]⟩ t109 t110 t111 _ ?side1 A2.out).mono ?_); (case side1 => exact GV.below hgv (hs_)); rintro e w' ⟨rfl, ⟨nd, rfl⟩⟩; refine ⟨_, rfl, ?_⟩) | ((with_reducible refine qb_ (f := 82) rfl ?_); refine gl_ (some 25) func82 #[.string t110, .string ⟨#[62, 32]⟩] ?_; (with_reducible refine (qbx_.calls t110 ⟨#[62, 32]⟩ t112 t113 t114 _ ?side1 A3.out).mono ?_); (case side1 => exact GV.below hgv (hs_)); rintro e w' ⟨rfl, ⟨nd, rfl⟩⟩; refine ⟨_, rfl, ?_⟩) | ((with_reducible refine qb_ (f := 82) rfl ?_); refine gl_ (some 31) func82 #[.string t113, .string ⟨#[32]⟩] ?_; (with_reducible refine (qbx_.calls t113 ⟨#[32]⟩ t115 t116 t117 _ ?side1 A4.out).mono ?_); (case side1 => exact GV.below hgv (hs_)); rintro e w' ⟨rfl, ⟨nd, rfl⟩⟩; refine ⟨_, rfl, ?_⟩) | ((with_reducible refine qb_ (f := 83) rfl ?_); refine gl_ (some 37) func83 #[.string t115, .int .i64 18] ?_; refine cm_ (qag_.calls k t115 18 t118 t119 _ A5.out) fun w9 hb => ?_; replace K108 := ab_ K108 hb; replace HB := qa_.mk (qc_ (hs_) hb); (try clear hb); (try clear hb2); (try clear hk); (try clear hi)) | ((with_reducible refine qb_ (f := 84) rfl ?_); refine gl_ (some 42) func84 #[.string t116] ?_; refine cm_ (qao_.calls k t116 t120 t121 _ A6.out) fun w10 hb => ?_; replace K108 := ab_ K108 hb; replace HB := qa_.mk (qc_ (hs_) hb); (try clear hb); (try clear hb2); (try clear hk); (try clear hi)))
 (try simp only [Act.put, List.setIfInBounds_toArray, List.set_cons_zero, List.set_cons_succ])
 go_cut [68] (fun v68 wc => ∃ (kq : Nat) (x68_6 : Bool), v68 = .bool x68_6 ∧ qa_ (qah_.j0 kq t109 t112 t118 t120 x68_6 = some (r1, r2, r3, r4, r5)) ∧ qa_ (kq ≤ k) ∧ qa_ (wc.heap[g108]? = some (.cells #[.string ⟨#[]⟩, .string ⟨#[]⟩, .int .i64 0, .int .i64 0] 24 (0, 0))) ∧ qa_ (Below w.heap.size w wc))
 case first =>
  have H := HC7.out; clear HC7; by_cases c11 : t111 = true; rotate_left
  ·replace c11 := Bool.eq_false_iff.mpr c11; subst c11; rw [if_neg nft_] at H; have H' := qa_.mk H; clear H; go_wp2
   go_meet
   case rel => exact ⟨_, (true), z1_, H', ⟨z4_⟩, ⟨bk_ K108.out⟩, ⟨hs_⟩⟩
  subst c11; rw [if_pos rfl] at H; by_cases c12 : t114 = true; rotate_left
  ·replace c12 := Bool.eq_false_iff.mpr c12; subst c12; rw [if_neg nft_] at H; have H' := qa_.mk H; clear H; go_wp2
   go_meet
   case rel => exact ⟨_, (true), z1_, H', ⟨z4_⟩, ⟨bk_ K108.out⟩, ⟨hs_⟩⟩
  subst c12; rw [if_pos rfl] at H; by_cases c13 : t117 = true; rotate_left
  ·replace c13 := Bool.eq_false_iff.mpr c13; subst c13; rw [if_neg nft_] at H; have H' := qa_.mk H; clear H; go_wp2
   go_meet
   case rel => exact ⟨_, (true), z1_, H', ⟨z4_⟩, ⟨bk_ K108.out⟩, ⟨hs_⟩⟩
  subst c13; rw [if_pos rfl] at H; by_cases c14 : t119 = true; rotate_left
  ·replace c14 := Bool.eq_false_iff.mpr c14; subst c14; rw [if_neg nft_] at H; have H' := qa_.mk H; clear H; go_wp2
   go_meet
   case rel => exact ⟨_, (true), z1_, H', ⟨z4_⟩, ⟨bk_ K108.out⟩, ⟨hs_⟩⟩
  subst c14; rw [if_pos rfl] at H; by_cases c15 : t121 = true; rotate_left
  ·replace c15 := Bool.eq_false_iff.mpr c15; subst c15; rw [if_neg nft_] at H; have H' := qa_.mk H; clear H; go_wp2
   go_meet
   case rel => exact ⟨_, (true), z1_, H', ⟨z4_⟩, ⟨bk_ K108.out⟩, ⟨hs_⟩⟩
  subst c15; rw [if_pos rfl] at H; by_cases c16 : t109.size + t112.size ≤ 9223372036854775807; rotate_left
  ·rw [if_neg c16] at H; exact no_ H
  rw [if_pos c16] at H; have c16b0 := eq_true c16; have c16b1 := dt_ c16; try have c16b2 := nl_ c16
  obtain ⟨t122, A17, H⟩ := bx_ H; have H' := qa_.mk H; clear H; go_wp2_with (first | (go_at_call 85; (with_reducible refine (qco_.calls (t109 ++ t112) ⟨#[60, 62]⟩ t122 _ A17.out).mono ?_); rintro e w18 ⟨rfl, hb⟩; replace K108 := ab_ K108 hb; replace HB := qa_.mk (qc_ (hs_) hb); (try clear hb); (try clear hb2); (try clear hk); (try clear hi)))
  go_meet
  case rel => exact ⟨_, (t122), z1_, H', ⟨z4_⟩, ⟨bk_ K108.out⟩, ⟨hs_⟩⟩
 case rest =>
  clear HC7; try clear c1
  try clear c2
  try clear p2
  try clear c8
  try clear c11
  try clear c12
  try clear c13
  try clear c14
  try clear c15
  try clear c16
  try clear c16b0
  try clear c16b1
  try clear c16b2
  obtain ⟨kq, x68_6, rfl, HA, HJ6, K108, HB⟩ := hcut
  cases kq with
  | zero => exact absurd HA.out (by simp [qah_.j0])
  | succ kj6 =>
   have H := HA.out; clear HA; simp only [qah_.j0] at H; by_cases c19 : x68_6 = true
   ·subst c19; rw [if_pos rfl] at H; obtain ⟨rfl, rfl, rfl, rfl, rfl⟩ := pj5_ H; obtain ⟨Z20_0, Z20_1, Z20_2, Z20_3, F20⟩ := bc4 K108.out; go_wp2
    refine bodyPost_ret (qby_ rfl _ _ g108 24 #[.string ⟨#[]⟩, .string ⟨#[]⟩, .int .i64 0, .int .i64 0] (0, 0) _ rfl (by have b_ := K108; exact zb_) underlying24 rfl (by kernel_rfl)) rfl ?_; exact ⟨z3_, hs_⟩
   replace c19 := Bool.eq_false_iff.mpr c19; subst c19; rw [if_neg nft_] at H; obtain ⟨t124, A21, H⟩ := bx_ H; by_cases c22 : t124 = true; rotate_left
   ·replace c22 := Bool.eq_false_iff.mpr c22; subst c22; rw [if_neg nft_] at H; obtain ⟨rfl, rfl, rfl, rfl, rfl⟩ := pj5_ H; go_wp2_with (first | ((with_reducible refine qk_ (N := 16) rfl ?_); refine be_ (cs := #[.string ⟨#[]⟩, .string ⟨#[]⟩, .int .i64 0, .int .i64 0]) (t := 24) ?_; intro g123 hg w29 hbox hb; have K123 := qa_.mk (hbox); have W123 := qa_.mk ((by rw [hg]; exact (qn_ (hs_)) : w.heap.size ≤ g123)); have E123 := qa_.mk ((by rw [hg]; exact (qn_ (hs_)) : w.heap.size ≤ g123)); replace HB := qa_.mk (qc_ (hs_) hb); have N108_123 := qa_.mk (nl2_ hg K108.out); have N123_108 := qa_.mk (ng2_ hg K108.out); replace K108 := ab_ K108 hb; clear hb hbox hg; have hnb30 := N123_108.out; have hnc30 := N108_123.out; obtain ⟨Z31_0, Z31_1, Z31_2, Z31_3, F31⟩ := bc4 K123.out) | ((with_reducible refine qb_ (f := 67) rfl ?_); refine gl_ (some 76) func67 #[.agg #[.string t109, .string t112, .int .i64 t118, .int .i64 t120]] ?_; refine cm_ (qax_.calls kj6 t109 t112 t118 t120 false _ A21.out) fun w32 hb => ?_; replace K108 := qa_.mk (qab_ (g := g108) (o := .cells #[.string ⟨#[]⟩, .string ⟨#[]⟩, .int .i64 0, .int .i64 0] 24 (0, 0)) (by have b_ := K108; have f_ := N108_123; exact zb_) hb); replace K123 := qa_.mk (qab_ (g := g123) (o := .cells #[.string t109, .string t112, .int .i64 t118, .int .i64 t120] 24 (0, 0)) (by have b_ := K123; exact zb_) hb); replace HB := qa_.mk (qc_ (hs_) hb); (try clear hb); (try clear hb2); (try clear hk); (try clear hi); obtain ⟨Z33_0, Z33_1, Z33_2, Z33_3, F33⟩ := bc4 K108.out)); refine bodyPost_ret (qby_ rfl _ _ g108 24 #[.string ⟨#[]⟩, .string ⟨#[]⟩, .int .i64 0, .int .i64 0] (0, 0) _ rfl (by have b_ := K108; exact zb_) underlying24 rfl (by kernel_rfl)) rfl ?_; exact ⟨z3_, hs_⟩
   subst c22; rw [if_pos rfl] at H; obtain ⟨rfl, rfl, rfl, rfl, rfl⟩ := pj5_ H; go_wp2_with (first | ((with_reducible refine qk_ (N := 16) rfl ?_); refine be_ (cs := #[.string ⟨#[]⟩, .string ⟨#[]⟩, .int .i64 0, .int .i64 0]) (t := 24) ?_; intro g123 hg w23 hbox hb; have K123 := qa_.mk (hbox); have W123 := qa_.mk ((by rw [hg]; exact (qn_ (hs_)) : w.heap.size ≤ g123)); have E123 := qa_.mk ((by rw [hg]; exact (qn_ (hs_)) : w.heap.size ≤ g123)); replace HB := qa_.mk (qc_ (hs_) hb); have N108_123 := qa_.mk (nl2_ hg K108.out); have N123_108 := qa_.mk (ng2_ hg K108.out); replace K108 := ab_ K108 hb; clear hb hbox hg; have hnb24 := N123_108.out; have hnc24 := N108_123.out; obtain ⟨Z25_0, Z25_1, Z25_2, Z25_3, F25⟩ := bc4 K123.out) | ((with_reducible refine qb_ (f := 67) rfl ?_); refine gl_ (some 76) func67 #[.agg #[.string t109, .string t112, .int .i64 t118, .int .i64 t120]] ?_; refine cm_ (qax_.calls kj6 t109 t112 t118 t120 true _ A21.out) fun w26 hb => ?_; replace K108 := qa_.mk (qab_ (g := g108) (o := .cells #[.string ⟨#[]⟩, .string ⟨#[]⟩, .int .i64 0, .int .i64 0] 24 (0, 0)) (by have b_ := K108; have f_ := N108_123; exact zb_) hb); replace K123 := qa_.mk (qab_ (g := g123) (o := .cells #[.string t109, .string t112, .int .i64 t118, .int .i64 t120] 24 (0, 0)) (by have b_ := K123; exact zb_) hb); replace HB := qa_.mk (qc_ (hs_) hb); (try clear hb); (try clear hb2); (try clear hk); (try clear hi); obtain ⟨Z27_0, Z27_1, Z27_2, Z27_3, F27⟩ := bc4 K123.out; obtain ⟨Z28_0, Z28_1, Z28_2, Z28_3, F28⟩ := bc4 K108.out)); refine bodyPost_ret (qby_ rfl _ _ g108 24 #[.string t109, .string t112, .int .i64 t118, .int .i64 t120] (0, 0) _ rfl (by have b_ := K108; exact zb_) underlying24 rfl (by kernel_rfl)) rfl ?_; exact ⟨z3_, hs_⟩
def qay_.f (k : Nat) (s0_0 : ByteArray) (s0_1 : Int) (a1 : ByteArray) : Option (ByteArray × ByteArray × Int × Int × ByteArray × Int) := (qba_.f s0_0 s0_1 a1).bind fun bt108 => ((qah_.f k bt108.1).bind fun bt111 => (if bt111.2.2.2.2 = 0 then (some (bt111.1, bt111.2.1, bt111.2.2.1, bt111.2.2.2.1, bt108.2.1, bt108.2.2)) else ((qbg_.f bt108.2.1 bt108.2.2 bt111.2.2.2.2).bind fun bt117 => (some (bt111.1, bt111.2.1, bt111.2.2.1, bt111.2.2.2.1, bt117.1, bt117.2)))))
theorem qay_.mono : ∀ a0 a1 a2 k, LeO (qay_.f k a0 a1 a2) (qay_.f (k + 1) a0 a1 a2) := by
 intro a0 a1 a2 k; unfold qay_.f; have m0_ := @qah_.mono; exact mz_
theorem qay_.calls (k : Nat) (g : Nat) (s0_0 : ByteArray) (s0_1 : Int) (a1 : ByteArray) (r1 : ByteArray) (r2 : ByteArray) (r3 : Int) (r4 : Int) (r5 : ByteArray) (r6 : Int) (w0 w : World) (hI : IsS87 w0 w g s0_0 s0_1) (hB : Below w0.heap.size w0 w) (hgv : GV w0) (h : qay_.f k s0_0 s0_1 a1 = some (r1, r2, r3, r4, r5, r6)) :
  Calls Tryz.prog 72 #[.pointer (some ⟨g, 0, none⟩), .string a1] w fun e w' => e = .returned (.agg #[.string r1, .string r2, .int .i64 r3, .int .i64 r4]) ∧ IsS87 w0 w' g r5 r6 ∧ Below w0.heap.size w0 w' ∧ qad_ w w' g none := by
 have hu24 := underlying24; have HI0 := qa_.mk hI; have HK := qa_.mk (qad_.refl w g none); have HL := qa_.mk hB.size; clear hI; have HW0 := qa_.mk hB.size; have HB := qa_.mk hB; clear hB; unfold qay_.f at h; have H := h; clear h; obtain ⟨⟨t108, t109, t110⟩, A3, H⟩ := bx_ H; dsimp only at H; obtain ⟨⟨t111, t112, t113, t114, t115⟩, A4, H⟩ := bx_ H; dsimp only at H; by_cases c5 : t115 = 0
 ·rw [if_pos c5] at H; have c5b0 := et_ c5; have c5b1 := nf_ c5; clear c5; obtain ⟨rfl, rfl, rfl, rfl, rfl, rfl⟩ := pj6_ H; go_enter func72, ntmps72; go_wp2_with (first | ((with_reducible refine qk_ (N := 4) rfl ?_); refine be_ (cs := #[.string ⟨#[]⟩, .string ⟨#[]⟩, .int .i64 0, .int .i64 0]) (t := 24) ?_; intro g107 hg w6 hbox hb; replace HB := qa_.mk (qc_ z11_ hb); have K107 := qa_.mk (hbox); have W107 := qa_.mk ((by rw [hg]; exact (qep_ (w := w) (g := g) (row := none) z7_) : w.heap.size ≤ g107)); have E107 := qa_.mk ((Nat.le_trans HW0.out (by rw [hg]; exact (qep_ (w := w) (g := g) (row := none) z7_) : w.heap.size ≤ g107) : w0.heap.size ≤ g107)); replace HK := qa_.mk (qad_.trans z7_ (qad_.of_below hb g none) (.inl rfl)); have N0_107 := qa_.mk ((by rw [hg]; exact Nat.ne_of_lt (IsS87.lt (show IsS87 w0 _ g s0_0 s0_1 from z10_)) : g ≠ g107)); have N107_0 := qa_.mk ((by rw [hg]; exact Nat.ne_of_gt (IsS87.lt (show IsS87 w0 _ g s0_0 s0_1 from z10_)) : g107 ≠ g)); replace HI0 := qa_.mk (IsS87.below z10_ hb); clear hb hbox hg) | ((with_reducible refine qb_ (f := 73) rfl ?_); refine gl_ (some 10) func73 #[.pointer (some ⟨g, 0, none⟩), .string a1] ?_; (with_reducible refine (qba_.calls g s0_0 s0_1 a1 t108 t109 t110 w0 _ ?side1 ?side2 ?side3 A3.out).mono ?_); (case side1 => repeat (first | (with_reducible first | exact HI0.out | apply IsS87.alloc | apply IsS87.drewN | apply IsS87.drew | apply IsS87.set_0 | apply IsS87.set_1 | refine IsS87.far ?_ N0_107.out _) | exact HI0.out)); (case side2 => repeat (first | (with_reducible first | exact HB.out | apply qap_ | apply qar_ | apply qbh_ | refine qt_ ?_ (IsS87.ge HI0.out) | refine qt_ ?_ E107.out) | exact HB.out)); (case side3 => exact hgv); rintro e w7 ⟨rfl, hi, hb, hk⟩; refine ⟨_, rfl, ?_⟩; replace K107 := qa_.mk (qad_.blk hk (g' := g107) (o := .cells #[.string ⟨#[]⟩, .string ⟨#[]⟩, .int .i64 0, .int .i64 0] 24 (0, 0)) (bk_ K107.out) N107_0.out (by simp)); replace HK := qa_.mk (qad_.trans z13_ hk (.inl rfl)); replace HB := qa_.mk (hb); replace HI0 := qa_.mk (hi); (try clear hb); (try clear hb2); (try clear hk); (try clear hi)) | ((with_reducible refine qb_ (f := 29) rfl ?_); refine gl_ (some 11) func29 #[.string t108] ?_; (with_reducible refine (qah_.calls k t108 t111 t112 t113 t114 t115 _ ?side1 A4.out).mono ?_); (case side1 => exact GV.below hgv z22_); rintro e w8 ⟨rfl, hb⟩; refine ⟨_, rfl, ?_⟩; replace K107 := ab_ K107 hb; replace HK := qa_.mk (qad_.trans z13_ (qad_.of_below hb g none) (.inl rfl)); replace HB := qa_.mk (qc_ z22_ hb); replace HI0 := qa_.mk (IsS87.below z18_ hb); (try clear hb); (try clear hb2); (try clear hk); (try clear hi)) | ((with_reducible refine qk_ (N := 5) rfl ?_); refine be_ (cs := #[.string ⟨#[]⟩, .string ⟨#[]⟩, .int .i64 0, .int .i64 0]) (t := 24) ?_; intro g116 hg w9 hbox hb; replace HB := qa_.mk (qc_ z22_ hb); have K116 := qa_.mk (hbox); have W116 := qa_.mk ((by rw [hg]; exact (qep_ (w := w) (g := g) (row := none) z13_) : w.heap.size ≤ g116)); have E116 := qa_.mk ((Nat.le_trans HW0.out (by rw [hg]; exact (qep_ (w := w) (g := g) (row := none) z13_) : w.heap.size ≤ g116) : w0.heap.size ≤ g116)); replace HK := qa_.mk (qad_.trans z13_ (qad_.of_below hb g none) (.inl rfl)); have N107_116 := qa_.mk (nl2_ hg K107.out); have N116_107 := qa_.mk (ng2_ hg K107.out); replace K107 := ab_ K107 hb; have N0_116 := qa_.mk ((by rw [hg]; exact Nat.ne_of_lt (IsS87.lt (show IsS87 w0 _ g t109 t110 from z18_)) : g ≠ g116)); have N116_0 := qa_.mk ((by rw [hg]; exact Nat.ne_of_gt (IsS87.lt (show IsS87 w0 _ g t109 t110 from z18_)) : g116 ≠ g)); replace HI0 := qa_.mk (IsS87.below z18_ hb); clear hb hbox hg; have hnb10 := N116_107.out; have hnc10 := N107_116.out; have hnb11 := N116_0.out; have hnc11 := N0_116.out; obtain ⟨Z12_0, Z12_1, Z12_2, Z12_3, F12⟩ := bc4 K116.out; have hnb13 := N107_0.out; have hnc13 := N0_107.out; obtain ⟨Z14_0, Z14_1, Z14_2, Z14_3, F14⟩ := bc4 K107.out))
  refine bodyPost_ret (results_cell_row rfl _ _ g107 24 #[.string t111, .string t112, .int .i64 t113, .int .i64 t114] (0, 0) _ rfl (by have b_ := K107; have f_ := N107_116; exact zb_) underlying24 rfl (by kernel_rfl)) rfl ?_; exact ⟨z3_, by repeat (first | (with_reducible first | exact HI0.out | apply IsS87.alloc | apply IsS87.drewN | apply IsS87.drew | apply IsS87.set_0 | apply IsS87.set_1 | refine IsS87.far ?_ N0_107.out _ | refine IsS87.far ?_ N0_116.out _) | exact HI0.out), by repeat (first | (with_reducible first | exact HB.out | apply qap_ | apply qar_ | apply qbh_ | refine qt_ ?_ (IsS87.ge HI0.out) | refine qt_ ?_ E107.out | refine qt_ ?_ E116.out) | exact HB.out), z33_⟩
 rw [if_neg c5] at H; have c5b0 := ef_ c5; have c5b1 := nt_ c5; obtain ⟨⟨t117, t118⟩, A15, H⟩ := bx_ H; dsimp only at H; obtain ⟨rfl, rfl, rfl, rfl, rfl, rfl⟩ := pj6_ H; go_enter func72, ntmps72; go_wp2_with (first | ((with_reducible refine qk_ (N := 4) rfl ?_); refine be_ (cs := #[.string ⟨#[]⟩, .string ⟨#[]⟩, .int .i64 0, .int .i64 0]) (t := 24) ?_; intro g107 hg w16 hbox hb; replace HB := qa_.mk (qc_ z11_ hb); have K107 := qa_.mk (hbox); have W107 := qa_.mk ((by rw [hg]; exact (qep_ (w := w) (g := g) (row := none) z7_) : w.heap.size ≤ g107)); have E107 := qa_.mk ((Nat.le_trans HW0.out (by rw [hg]; exact (qep_ (w := w) (g := g) (row := none) z7_) : w.heap.size ≤ g107) : w0.heap.size ≤ g107)); replace HK := qa_.mk (qad_.trans z7_ (qad_.of_below hb g none) (.inl rfl)); have N0_107 := qa_.mk ((by rw [hg]; exact Nat.ne_of_lt (IsS87.lt (show IsS87 w0 _ g s0_0 s0_1 from z10_)) : g ≠ g107)); have N107_0 := qa_.mk ((by rw [hg]; exact Nat.ne_of_gt (IsS87.lt (show IsS87 w0 _ g s0_0 s0_1 from z10_)) : g107 ≠ g)); replace HI0 := qa_.mk (IsS87.below z10_ hb); clear hb hbox hg) | ((with_reducible refine qb_ (f := 73) rfl ?_); refine gl_ (some 10) func73 #[.pointer (some ⟨g, 0, none⟩), .string a1] ?_; (with_reducible refine (qba_.calls g s0_0 s0_1 a1 t108 t109 t110 w0 _ ?side1 ?side2 ?side3 A3.out).mono ?_); (case side1 => repeat (first | (with_reducible first | exact HI0.out | apply IsS87.alloc | apply IsS87.drewN | apply IsS87.drew | apply IsS87.set_0 | apply IsS87.set_1 | refine IsS87.far ?_ N0_107.out _) | exact HI0.out)); (case side2 => repeat (first | (with_reducible first | exact HB.out | apply qap_ | apply qar_ | apply qbh_ | refine qt_ ?_ (IsS87.ge HI0.out) | refine qt_ ?_ E107.out) | exact HB.out)); (case side3 => exact hgv); rintro e w17 ⟨rfl, hi, hb, hk⟩; refine ⟨_, rfl, ?_⟩; replace K107 := qa_.mk (qad_.blk hk (g' := g107) (o := .cells #[.string ⟨#[]⟩, .string ⟨#[]⟩, .int .i64 0, .int .i64 0] 24 (0, 0)) (bk_ K107.out) N107_0.out (by simp)); replace HK := qa_.mk (qad_.trans z13_ hk (.inl rfl)); replace HB := qa_.mk (hb); replace HI0 := qa_.mk (hi); (try clear hb); (try clear hb2); (try clear hk); (try clear hi)) | ((with_reducible refine qb_ (f := 29) rfl ?_); refine gl_ (some 11) func29 #[.string t108] ?_; (with_reducible refine (qah_.calls k t108 t111 t112 t113 t114 t115 _ ?side1 A4.out).mono ?_); (case side1 => exact GV.below hgv z22_); rintro e w18 ⟨rfl, hb⟩; refine ⟨_, rfl, ?_⟩; replace K107 := ab_ K107 hb; replace HK := qa_.mk (qad_.trans z13_ (qad_.of_below hb g none) (.inl rfl)); replace HB := qa_.mk (qc_ z22_ hb); replace HI0 := qa_.mk (IsS87.below z18_ hb); (try clear hb); (try clear hb2); (try clear hk); (try clear hi)) | ((with_reducible refine qk_ (N := 5) rfl ?_); refine be_ (cs := #[.string ⟨#[]⟩, .string ⟨#[]⟩, .int .i64 0, .int .i64 0]) (t := 24) ?_; intro g116 hg w19 hbox hb; replace HB := qa_.mk (qc_ z22_ hb); have K116 := qa_.mk (hbox); have W116 := qa_.mk ((by rw [hg]; exact (qep_ (w := w) (g := g) (row := none) z13_) : w.heap.size ≤ g116)); have E116 := qa_.mk ((Nat.le_trans HW0.out (by rw [hg]; exact (qep_ (w := w) (g := g) (row := none) z13_) : w.heap.size ≤ g116) : w0.heap.size ≤ g116)); replace HK := qa_.mk (qad_.trans z13_ (qad_.of_below hb g none) (.inl rfl)); have N107_116 := qa_.mk (nl2_ hg K107.out); have N116_107 := qa_.mk (ng2_ hg K107.out); replace K107 := ab_ K107 hb; have N0_116 := qa_.mk ((by rw [hg]; exact Nat.ne_of_lt (IsS87.lt (show IsS87 w0 _ g t109 t110 from z18_)) : g ≠ g116)); have N116_0 := qa_.mk ((by rw [hg]; exact Nat.ne_of_gt (IsS87.lt (show IsS87 w0 _ g t109 t110 from z18_)) : g116 ≠ g)); replace HI0 := qa_.mk (IsS87.below z18_ hb); clear hb hbox hg; have hnb20 := N116_107.out; have hnc20 := N107_116.out; have hnb21 := N116_0.out; have hnc21 := N0_116.out; obtain ⟨Z22_0, Z22_1, Z22_2, Z22_3, F22⟩ := bc4 K116.out) | ((with_reducible refine qb_ (f := 74) rfl ?_); refine gl_ (some 18) func74 #[.pointer (some ⟨g, 0, none⟩), .int .i64 t115] ?_; (with_reducible refine (qbg_.calls g t109 t110 t115 t117 t118 w0 _ ?side1 ?side2 A15.out).mono ?_); (case side1 => repeat (first | (with_reducible first | exact HI0.out | apply IsS87.alloc | apply IsS87.drewN | apply IsS87.drew | apply IsS87.set_0 | apply IsS87.set_1 | refine IsS87.far ?_ N0_107.out _ | refine IsS87.far ?_ N0_116.out _) | exact HI0.out)); (case side2 => repeat (first | (with_reducible first | exact HB.out | apply qap_ | apply qar_ | apply qbh_ | refine qt_ ?_ (IsS87.ge HI0.out) | refine qt_ ?_ E107.out | refine qt_ ?_ E116.out) | exact HB.out)); rintro e w23 ⟨rfl, hi, hb, hk⟩; refine ⟨_, rfl, ?_⟩; replace K107 := qa_.mk (qad_.blk hk (g' := g107) (o := .cells #[.string ⟨#[]⟩, .string ⟨#[]⟩, .int .i64 0, .int .i64 0] 24 (0, 0)) (by have b_ := K107; have f_ := N107_116; exact zb_) N107_0.out (by simp)); replace K116 := qa_.mk (qad_.blk hk (g' := g116) (o := .cells #[.string t111, .string t112, .int .i64 t113, .int .i64 t114] 24 (0, 0)) (by have b_ := K116; exact zb_) N116_0.out (by simp)); replace HK := qa_.mk (qad_.trans z33_ hk (.inl rfl)); replace HB := qa_.mk (hb); replace HI0 := qa_.mk (hi); (try clear hb); (try clear hb2); (try clear hk); (try clear hi); obtain ⟨Z24_0, Z24_1, Z24_2, Z24_3, F24⟩ := bc4 K116.out; have hnb25 := N107_0.out; have hnc25 := N0_107.out; obtain ⟨Z26_0, Z26_1, Z26_2, Z26_3, F26⟩ := bc4 K107.out))
 refine bodyPost_ret (results_cell_row rfl _ _ g107 24 #[.string t111, .string t112, .int .i64 t113, .int .i64 t114] (0, 0) _ rfl (by have b_ := K107; exact zb_) underlying24 rfl (by kernel_rfl)) rfl ?_; exact ⟨z3_, by repeat (first | (with_reducible first | exact HI0.out | apply IsS87.alloc | apply IsS87.drewN | apply IsS87.drew | apply IsS87.set_0 | apply IsS87.set_1 | refine IsS87.far ?_ N0_107.out _ | refine IsS87.far ?_ N0_116.out _) | exact HI0.out), by repeat (first | (with_reducible first | exact HB.out | apply qap_ | apply qar_ | apply qbh_ | refine qt_ ?_ (IsS87.ge HI0.out) | refine qt_ ?_ E107.out | refine qt_ ?_ E116.out) | exact HB.out), z33_⟩
mutual
def qh_.j1 : Nat → ByteArray → Int → ByteArray → List ByteArray → ByteArray → ByteArray → Int → Int → ByteArray → ByteArray → Int → Int → ByteArray → Option (ByteArray × List ByteArray × ByteArray × ByteArray × Int × Int × ByteArray × ByteArray × Int × Int × ByteArray × Int)
 | 0, _, _, _, _, _, _, _, _, _, _, _, _, _ => none
 | k + 1, x103000, x103001, x107000, x107001, x107002, x107003, x107004, x107005, x107006, x107007, x107008, x107009, x107010 => (qay_.f k x103000 x103001 ⟨#[97, 117, 116, 104, 111, 114, 32]⟩).bind fun bt114 => ((qay_.f k bt114.2.2.2.2.1 bt114.2.2.2.2.2 ⟨#[99, 111, 109, 109, 105, 116, 116, 101, 114, 32]⟩).bind fun bt120 => ((qba_.f bt120.2.2.2.2.1 bt120.2.2.2.2.2 ⟨#[]⟩).bind fun bt126 => (if bt126.1.toList = ([] : List UInt8) then (qh_.j2 k bt126.2.1 bt126.2.2 x107000 x107001 bt114.1 bt114.2.1 bt114.2.2.1 bt114.2.2.2.1 bt120.1 bt120.2.1 bt120.2.2.1 bt120.2.2.2.1 x107010) else ((qbg_.f bt126.2.1 bt126.2.2 2).bind fun bt129 => (qh_.j2 k bt129.1 bt129.2 x107000 x107001 bt114.1 bt114.2.1 bt114.2.2.1 bt114.2.2.2.1 bt120.1 bt120.2.1 bt120.2.2.1 bt120.2.2.2.1 x107010)))))
def qh_.j2 : Nat → ByteArray → Int → ByteArray → List ByteArray → ByteArray → ByteArray → Int → Int → ByteArray → ByteArray → Int → Int → ByteArray → Option (ByteArray × List ByteArray × ByteArray × ByteArray × Int × Int × ByteArray × ByteArray × Int × Int × ByteArray × Int)
 | 0, _, _, _, _, _, _, _, _, _, _, _, _, _ => none
 | k + 1, x103000, x103001, x107000, x107001, x107002, x107003, x107004, x107005, x107006, x107007, x107008, x107009, x107010 => if x103001 = 0 then ((qq_.f k x107000 x107001 x107002 x107003 x107004 x107005 x107006 x107007 x107008 x107009 x103000).bind fun t131 => (if t131 = 0 then (some (x107000, x107001, x107002, x107003, x107004, x107005, x107006, x107007, x107008, x107009, x103000, 0)) else (some ((⟨#[]⟩ : ByteArray), ([] : List ByteArray), (⟨#[]⟩ : ByteArray), (⟨#[]⟩ : ByteArray), 0, 0, (⟨#[]⟩ : ByteArray), (⟨#[]⟩ : ByteArray), 0, 0, (⟨#[]⟩ : ByteArray), t131)))) else (some ((⟨#[]⟩ : ByteArray), ([] : List ByteArray), (⟨#[]⟩ : ByteArray), (⟨#[]⟩ : ByteArray), 0, 0, (⟨#[]⟩ : ByteArray), (⟨#[]⟩ : ByteArray), 0, 0, (⟨#[]⟩ : ByteArray), x103001))
def qh_.l0 : Nat → ByteArray → Int → ByteArray → List ByteArray → ByteArray → ByteArray → Int → Int → ByteArray → ByteArray → Int → Int → ByteArray → Option (ByteArray × List ByteArray × ByteArray × ByteArray × Int × Int × ByteArray × ByteArray × Int × Int × ByteArray × Int)
 | 0, _, _, _, _, _, _, _, _, _, _, _, _, _ => none
 | k + 1, x103000, x103001, x107000, x107001, x107002, x107003, x107004, x107005, x107006, x107007, x107008, x107009, x107010 => if x103001 = 0 then ((qcj_.f x103000 ⟨#[112, 97, 114, 101, 110, 116, 32]⟩).bind fun t107 => (if t107 = true then ((qbf_.f k x103000 x103001 ⟨#[112, 97, 114, 101, 110, 116, 32]⟩).bind fun bt108 => (if x107001.length < 8796093022208 then (qh_.l0 k bt108.2.1 bt108.2.2 x107000 (x107001 ++ [bt108.1]) x107002 x107003 x107004 x107005 x107006 x107007 x107008 x107009 x107010) else (none))) else (qh_.j1 k x103000 x103001 x107000 x107001 x107002 x107003 x107004 x107005 x107006 x107007 x107008 x107009 x107010))) else (qh_.j1 k x103000 x103001 x107000 x107001 x107002 x107003 x107004 x107005 x107006 x107007 x107008 x107009 x107010)
end
def qh_.f (k : Nat) (a0 : ByteArray) : Option (ByteArray × List ByteArray × ByteArray × ByteArray × Int × Int × ByteArray × ByteArray × Int × Int × ByteArray × Int) := (qbf_.f k a0 0 ⟨#[116, 114, 101, 101, 32]⟩).bind fun bt103 => (qh_.l0 k bt103.2.1 bt103.2.2 bt103.1 ([] : List ByteArray) ⟨#[]⟩ ⟨#[]⟩ 0 0 ⟨#[]⟩ ⟨#[]⟩ 0 0 ⟨#[]⟩)
theorem qh_.mono_l : ∀ k, (∀ y0 y1 y2 y3 y4 y5 y6 y7 y8 y9 y10 y11 y12, LeO (qh_.j1 k y0 y1 y2 y3 y4 y5 y6 y7 y8 y9 y10 y11 y12) (qh_.j1 (k + 1) y0 y1 y2 y3 y4 y5 y6 y7 y8 y9 y10 y11 y12)) ∧ (∀ y0 y1 y2 y3 y4 y5 y6 y7 y8 y9 y10 y11 y12, LeO (qh_.j2 k y0 y1 y2 y3 y4 y5 y6 y7 y8 y9 y10 y11 y12) (qh_.j2 (k + 1) y0 y1 y2 y3 y4 y5 y6 y7 y8 y9 y10 y11 y12)) ∧ (∀ y0 y1 y2 y3 y4 y5 y6 y7 y8 y9 y10 y11 y12, LeO (qh_.l0 k y0 y1 y2 y3 y4 y5 y6 y7 y8 y9 y10 y11 y12) (qh_.l0 (k + 1) y0 y1 y2 y3 y4 y5 y6 y7 y8 y9 y10 y11 y12))
 | 0 => ⟨fun _ _ _ _ _ _ _ _ _ _ _ _ _ r h => by simp [qh_.j1] at h, fun _ _ _ _ _ _ _ _ _ _ _ _ _ r h => by simp [qh_.j2] at h, fun _ _ _ _ _ _ _ _ _ _ _ _ _ r h => by simp [qh_.l0] at h⟩
 | k + 1 => by
  obtain ⟨ih0, ih1, ih2⟩ := qh_.mono_l k
  refine ⟨?_, ?_, ?_⟩
  ·intro y0 y1 y2 y3 y4 y5 y6 y7 y8 y9 y10 y11 y12
   unfold qh_.j1
   have m0_ := @ih0
   have m1_ := @ih1
   have m2_ := @ih2
   have m3_ := @qq_.mono
   have m4_ := @qbf_.mono
   have m5_ := @qay_.mono
   exact mz_
  ·intro y0 y1 y2 y3 y4 y5 y6 y7 y8 y9 y10 y11 y12
   unfold qh_.j2
   have m0_ := @ih0
   have m1_ := @ih1
   have m2_ := @ih2
   have m3_ := @qq_.mono
   have m4_ := @qbf_.mono
   have m5_ := @qay_.mono
   exact mz_
  ·intro y0 y1 y2 y3 y4 y5 y6 y7 y8 y9 y10 y11 y12
   unfold qh_.l0
   have m0_ := @ih0
   have m1_ := @ih1
   have m2_ := @ih2
   have m3_ := @qq_.mono
   have m4_ := @qbf_.mono
   have m5_ := @qay_.mono
   exact mz_
theorem qh_.mono : ∀ a0 k, LeO (qh_.f k a0) (qh_.f (k + 1) a0) := by
 intro a0 k; obtain ⟨ih0, ih1, ih2⟩ := qh_.mono_l k; unfold qh_.f; have m0_ := @ih0; have m1_ := @ih1; have m2_ := @ih2; have m3_ := @qq_.mono; have m4_ := @qbf_.mono; have m5_ := @qay_.mono; exact mz_
def qh_.T4 : Bool × List (List Nat × List Nat) := (true, [([], []), ([0], [0]), ([], []), ([2], [2]), ([3], [3]), ([1, 4, 3], [1, 4]), ([0, 1, 2, 3, 4, 5], []), ([6, 5, 5, 0, 1, 2, 3, 4, 5], [5, 6])])
def qh_.B4 : List Nat := [0, 1, 0, 4, 12, 31, 63, 127]
theorem qh_.tab4 : rtab .any (opsOf Tryz.f20 4) = qh_.T4 := by kernel_rfl
theorem qh_.bits4 : qdi_ qh_.T4.2 qh_.B4 = true := by kernel_rfl
theorem qh_.calls (k : Nat) (a0 : ByteArray) (r1 : ByteArray) (r2 : List ByteArray) (r3 : ByteArray) (r4 : ByteArray) (r5 : Int) (r6 : Int) (r7 : ByteArray) (r8 : ByteArray) (r9 : Int) (r10 : Int) (r11 : ByteArray) (r12 : Int) (w : World) (hgv : GV w) (h : qh_.f k a0 = some (r1, r2, r3, r4, r5, r6, r7, r8, r9, r10, r11, r12)) :
  Calls Tryz.prog 20 #[.string a0] w fun e w' => ∃ v1_ : Value, e = .returned (.tuple #[.agg #[.string r1, v1_, .string r3, .string r4, .int .i64 r5, .int .i64 r6, .string r7, .string r8, .int .i64 r9, .int .i64 r10, .string r11], .int .i64 r12]) ∧ Kd.R Kd.string 9 w' w.heap.size (fun _ => True) v1_ r2 ∧ Below w.heap.size w w' := by
 have hu26 := underlying26; have hu87 := underlying87; have hu24 := underlying24; have HB := qa_.mk (Below.refl w.heap.size w); unfold qh_.f at h; have H := h; clear h; obtain ⟨⟨t103, t104, t105⟩, A2, H⟩ := bx_ H; dsimp only at H; have HC3 := qa_.mk H; clear H; go_enter func20, ntmps20; go_upto_block 0 with (first | ((with_reducible refine qk_ (N := 2) rfl ?_); refine be_ (cs := #[.string ⟨#[]⟩, .slice none 0 0, .string ⟨#[]⟩, .string ⟨#[]⟩, .int .i64 0, .int .i64 0, .string ⟨#[]⟩, .string ⟨#[]⟩, .int .i64 0, .int .i64 0, .string ⟨#[]⟩]) (t := 26) ?_; intro g101 hg w4 hbox hb; have K101 := qa_.mk (hbox); have W101 := ag_ hg HB; have E101 := ag_ hg HB; replace HB := ah_ HB hb; clear hb hbox hg) | ((with_reducible refine qk_ (N := 8) rfl ?_); refine be_ (cs := #[.string a0, .int .i64 0]) (t := 87) ?_; intro g102 hg w5 hbox hb; have K102 := qa_.mk (hbox); have W102 := qa_.mk ((by rw [hg]; exact (qn_ (hs_)) : w.heap.size ≤ g102)); have E102 := qa_.mk ((by rw [hg]; exact (qn_ (hs_)) : w.heap.size ≤ g102)); replace HB := qa_.mk (qc_ (hs_) hb); have N101_102 := qa_.mk (nl2_ hg K101.out); have N102_101 := qa_.mk (ng2_ hg K101.out); replace K101 := ab_ K101 hb; clear hb hbox hg) | ((with_reducible refine qb_ (f := 70) rfl ?_); refine gl_ (some 10) func70 #[.pointer (some ⟨g102, 0, none⟩), .string ⟨#[116, 114, 101, 101, 32]⟩] ?_; (with_reducible refine (qbf_.calls k g102 a0 0 ⟨#[116, 114, 101, 101, 32]⟩ t103 t104 t105 w _ ?side1 ?side2 ?side3 A2.out).mono ?_); (case side1 => exact (show IsS87 w _ g102 a0 0 from ⟨(bk_ K102.out), E102.out⟩)); (case side2 => repeat (first | (with_reducible first | exact HB.out | apply qap_ | apply qar_ | apply qbh_ | refine qt_ ?_ (IsS87.ge HI102.out) | refine qt_ ?_ E101.out) | exact HB.out)); (case side3 => exact hgv); rintro e w6 ⟨rfl, hi, hb, hk⟩; refine ⟨_, rfl, ?_⟩; replace K101 := qa_.mk (qad_.blk hk (g' := g101) (o := .cells #[.string ⟨#[]⟩, .slice none 0 0, .string ⟨#[]⟩, .string ⟨#[]⟩, .int .i64 0, .int .i64 0, .string ⟨#[]⟩, .string ⟨#[]⟩, .int .i64 0, .int .i64 0, .string ⟨#[]⟩] 26 (0, 0)) (bk_ K101.out) N101_102.out (by simp)); replace HB := qa_.mk (hb); replace K102 := qa_.mk (hi.1); (try clear hb); (try clear hb2); (try clear hk); (try clear hi)) | ((with_reducible refine qk_ (N := 5) rfl ?_); refine be_ (cs := #[.string ⟨#[]⟩, .slice none 0 0, .string ⟨#[]⟩, .string ⟨#[]⟩, .int .i64 0, .int .i64 0, .string ⟨#[]⟩, .string ⟨#[]⟩, .int .i64 0, .int .i64 0, .string ⟨#[]⟩]) (t := 26) ?_; intro g106 hg w7 hbox hb; have K106 := qa_.mk (hbox); have W106 := qa_.mk ((by rw [hg]; exact (qn_ (hs_)) : w.heap.size ≤ g106)); have E106 := qa_.mk ((by rw [hg]; exact (qn_ (hs_)) : w.heap.size ≤ g106)); replace HB := qa_.mk (qc_ (hs_) hb); have N101_106 := qa_.mk (nl2_ hg K101.out); have N106_101 := qa_.mk (ng2_ hg K101.out); replace K101 := ab_ K101 hb; have N102_106 := qa_.mk (nl2_ hg K102.out); have N106_102 := qa_.mk (ng2_ hg K102.out); replace K102 := ab_ K102 hb; clear hb hbox hg; have hnb8 := N106_101.out; have hnc8 := N101_106.out; have hnb9 := N106_102.out; have hnc9 := N102_106.out; obtain ⟨Z10_0, Z10_1, Z10_2, Z10_3, Z10_4, Z10_5, Z10_6, Z10_7, Z10_8, Z10_9, Z10_10, F10⟩ := bc11 K106.out))
 (try simp only [Act.put, List.setIfInBounds_toArray, List.set_cons_zero, List.set_cons_succ])
 go_cut [] (fun wc => ∃ (kq : Nat) (x103000_2 : ByteArray) (x103001_2 : Int) (x107001_2 : List ByteArray) (u107001 : Value), qa_ (qh_.j1 kq x103000_2 x103001_2 t103 x107001_2 ⟨#[]⟩ ⟨#[]⟩ 0 0 ⟨#[]⟩ ⟨#[]⟩ 0 0 ⟨#[]⟩ = some (r1, r2, r3, r4, r5, r6, r7, r8, r9, r10, r11, r12)) ∧ qa_ (kq ≤ k) ∧ qa_ (Kd.R Kd.string 9 wc w.heap.size (fun _ => True) u107001 x107001_2) ∧ qa_ (wc.heap[g101]? = some (.cells #[.string ⟨#[]⟩, (.slice none 0 0), .string ⟨#[]⟩, .string ⟨#[]⟩, .int .i64 0, .int .i64 0, .string ⟨#[]⟩, .string ⟨#[]⟩, .int .i64 0, .int .i64 0, .string ⟨#[]⟩] 26 (0, 0))) ∧ qa_ (wc.heap[g102]? = some (.cells #[.string x103000_2, .int .i64 x103001_2] 87 (0, 0))) ∧ qa_ (wc.heap[g106]? = some (.cells #[.string t103, u107001, .string ⟨#[]⟩, .string ⟨#[]⟩, .int .i64 0, .int .i64 0, .string ⟨#[]⟩, .string ⟨#[]⟩, .int .i64 0, .int .i64 0, .string ⟨#[]⟩] 26 (0, 0))) ∧ qa_ (Below w.heap.size w wc))
 case first =>
  have H := HC3.out; clear HC3; have H' := qa_.mk H; clear H; go_wp2
  go_loopg [] k (fun kq w' => ∃ (x103000_1 : ByteArray) (x103001_1 : Int) (x107001_1 : List ByteArray) (u107001 : Value), qa_ (qh_.l0 kq x103000_1 x103001_1 t103 x107001_1 ⟨#[]⟩ ⟨#[]⟩ 0 0 ⟨#[]⟩ ⟨#[]⟩ 0 0 ⟨#[]⟩ = some (r1, r2, r3, r4, r5, r6, r7, r8, r9, r10, r11, r12)) ∧ qa_ (kq ≤ k) ∧ qa_ (Kd.R Kd.string 9 w' w.heap.size (fun _ => True) u107001 x107001_1) ∧ qa_ (w'.heap[g101]? = some (.cells #[.string ⟨#[]⟩, (.slice none 0 0), .string ⟨#[]⟩, .string ⟨#[]⟩, .int .i64 0, .int .i64 0, .string ⟨#[]⟩, .string ⟨#[]⟩, .int .i64 0, .int .i64 0, .string ⟨#[]⟩] 26 (0, 0))) ∧ qa_ (w'.heap[g102]? = some (.cells #[.string x103000_1, .int .i64 x103001_1] 87 (0, 0))) ∧ qa_ (w'.heap[g106]? = some (.cells #[.string t103, u107001, .string ⟨#[]⟩, .string ⟨#[]⟩, .int .i64 0, .int .i64 0, .string ⟨#[]⟩, .string ⟨#[]⟩, .int .i64 0, .int .i64 0, .string ⟨#[]⟩] 26 (0, 0))) ∧ qa_ (Below w.heap.size w w'))
  case atStart => exact ⟨(t104), (t105), (([] : List ByteArray)), (.slice none 0 0), H', ⟨Nat.le_refl _⟩, ⟨z6_⟩, ⟨by have b_ := K101; have f_ := N101_106; exact zb_⟩, ⟨by have b_ := K102; have f_ := N102_106; exact zb_⟩, ⟨by have b_ := K106; exact zb_⟩, ⟨hs_⟩⟩
  case round =>
   clear H'; try clear c2
   try clear p2
   try clear c7
   try clear c8
   try clear c9
   try clear Z10_0 Z10_1 Z10_10 Z10_2 Z10_3 Z10_4 Z10_5 Z10_6 Z10_7 Z10_8 Z10_9 F10_0 F10_1 F10_10 F10_2 F10_3 F10_4 F10_5 F10_6 F10_7 F10_8 F10_9
   obtain ⟨x103000_1, x103001_1, x107001_1, u107001, HA, HK1, HO_107001, K101, K102, K106, HB⟩ := hrel
   cases gk with
   | zero => exact absurd HA.out (by simp [qh_.l0])
   | succ k1 =>
    have H := HA.out; clear HA; simp only [qh_.l0] at H; by_cases c11 : x103001_1 = 0; rotate_left
    ·rw [if_neg c11] at H; have c11b0 := ef_ c11; have c11b1 := nt_ c11; (first | rw [c11b0] | (simp only [i64_w, i32_w]; rw [c11b0]) | skip); (try rw [c11b8])
     have H' := qa_.mk H; clear H; have hnb27 := N102_101.out; have hnc27 := N101_102.out; have hnb28 := N102_106.out; have hnc28 := N106_102.out; obtain ⟨Z29_0, Z29_1, F29⟩ := bc2 K102.out; go_wp2
     go_meet
     case rel => exact ⟨_, (x103000_1), (x103001_1), (x107001_1), (u107001), H', ⟨by have := HK1.out; first | omega | exact Nat.le_refl _⟩, ⟨z28_⟩, ⟨bk_ K101.out⟩, ⟨bk_ K102.out⟩, ⟨bk_ K106.out⟩, ⟨hs_⟩⟩
    rw [if_pos c11] at H; have c11b0 := et_ c11; have c11b1 := nf_ c11; clear c11; (first | rw [c11b0] | (simp only [i64_w, i32_w]; rw [c11b0]) | skip); (try rw [c11b8])
    obtain ⟨t107, A12, H⟩ := bx_ H; by_cases c13 : t107 = true; rotate_left
    ·replace c13 := Bool.eq_false_iff.mpr c13; subst c13; rw [if_neg nft_] at H; have H' := qa_.mk H; clear H; have hnb24 := N102_101.out; have hnc24 := N101_102.out; have hnb25 := N102_106.out; have hnc25 := N106_102.out; obtain ⟨Z26_0, Z26_1, F26⟩ := bc2 K102.out; go_wp2_with (first | (go_at_call 71; (with_reducible refine (qcj_.calls x103000_1 ⟨#[112, 97, 114, 101, 110, 116, 32]⟩ false _ A12.out).mono ?_); rintro e w' ⟨rfl, ⟨nd, rfl⟩⟩)); go_meet
     case rel => exact ⟨_, (x103000_1), (x103001_1), (x107001_1), (u107001), H', ⟨by have := HK1.out; first | omega | exact Nat.le_refl _⟩, ⟨z28_⟩, ⟨bk_ K101.out⟩, ⟨bk_ K102.out⟩, ⟨bk_ K106.out⟩, ⟨hs_⟩⟩
    subst c13; rw [if_pos rfl] at H; obtain ⟨⟨t108, t109, t110⟩, A14, H⟩ := bx_ H; dsimp only at H; by_cases c15 : x107001_1.length < 8796093022208; rotate_left
    ·rw [if_neg c15] at H; exact no_ H
    rw [if_pos c15] at H; have LMc15 := qa_.mk c15; clear c15; obtain ⟨y111, hy111⟩ : ∃ y_ : List ByteArray, y_ = (x107001_1 ++ [t108]) := ⟨_, rfl⟩; replace H : (qh_.l0 k1 t109 t110 t103 y111 ⟨#[]⟩ ⟨#[]⟩ 0 0 ⟨#[]⟩ ⟨#[]⟩ 0 0 ⟨#[]⟩) = some (r1, r2, r3, r4, r5, r6, r7, r8, r9, r10, r11, r12) := by first | (rw [hy111]; with_reducible exact H) | (have H2_ := (Option.bind_some _ _).symm.trans H; rw [hy111]; with_reducible exact H2_) | (have H2_ := (Option.bind_some _ _).symm.trans H; with_reducible exact H2_) | with_reducible exact H | (rw [hy111]; exact H) | exact H
    have Ny111 := qa_.mk hy111; clear hy111; have H' := qa_.mk H; clear H; have hnb16 := N102_101.out; have hnc16 := N101_102.out; have hnb17 := N102_106.out; have hnc17 := N106_102.out; obtain ⟨Z18_0, Z18_1, F18⟩ := bc2 K102.out; try go_wp2_with (first | (go_at_call 71; (with_reducible refine (qcj_.calls x103000_1 ⟨#[112, 97, 114, 101, 110, 116, 32]⟩ true _ A12.out).mono ?_); rintro e w' ⟨rfl, ⟨nd, rfl⟩⟩; (try (rw [qcn_ wr]; generalize hq_ : World.drewN wr _ = wr; have n0_ : qa_ (Kd.R Kd.string 9 wr w.heap.size (fun _ => True) u107001 x107001_1) := ⟨by rw [← hq_]; exact (rk_ HO_107001.out)⟩; have n1_ : qa_ (wr.heap[g101]? = some (.cells #[.string ⟨#[]⟩, .slice none 0 0, .string ⟨#[]⟩, .string ⟨#[]⟩, .int .i64 0, .int .i64 0, .string ⟨#[]⟩, .string ⟨#[]⟩, .int .i64 0, .int .i64 0, .string ⟨#[]⟩] 26 (0, 0))) := ⟨by rw [← hq_]; exact (bk_ K101.out)⟩; have n2_ : qa_ (wr.heap[g102]? = some (.cells #[.string x103000_1, .int .i64 x103001_1] 87 (0, 0))) := ⟨by rw [← hq_]; exact (bk_ K102.out)⟩; have n3_ : qa_ (wr.heap[g106]? = some (.cells #[.string t103, u107001, .string ⟨#[]⟩, .string ⟨#[]⟩, .int .i64 0, .int .i64 0, .string ⟨#[]⟩, .string ⟨#[]⟩, .int .i64 0, .int .i64 0, .string ⟨#[]⟩] 26 (0, 0))) := ⟨by rw [← hq_]; exact (bk_ K106.out)⟩; have n4_ : qa_ (Below w.heap.size w wr) := ⟨by rw [← hq_]; exact (hs_)⟩; clear HO_107001 K101 K102 K106 HB hq_; have HO_107001 := n0_; have K101 := n1_; have K102 := n2_; have K106 := n3_; have HB := n4_; clear n0_ n1_ n2_ n3_ n4_)))); replace HO_107001 := qa_.mk (Kd.R_drew HO_107001.out); replace K101 := ad_ K101; replace K102 := ad_ K102; replace K106 := ad_ K106; replace HB := hd_ HB; refine qdl_ (n := 8) (S := fun w' => w'.cell? ⟨g106, 0, none⟩ = some (.string t103) ∧ w'.cell? ⟨g106, 1, none⟩ = some (u107001) ∧ w'.cell? ⟨g106, 2, none⟩ = some (.string ⟨#[]⟩) ∧ w'.cell? ⟨g106, 3, none⟩ = some (.string ⟨#[]⟩) ∧ w'.cell? ⟨g106, 4, none⟩ = some (.int .i64 0) ∧ w'.cell? ⟨g106, 5, none⟩ = some (.int .i64 0) ∧ w'.cell? ⟨g106, 6, none⟩ = some (.string ⟨#[]⟩) ∧ w'.cell? ⟨g106, 7, none⟩ = some (.string ⟨#[]⟩) ∧ w'.cell? ⟨g106, 8, none⟩ = some (.int .i64 0) ∧ w'.cell? ⟨g106, 9, none⟩ = some (.int .i64 0) ∧ w'.cell? ⟨g106, 10, none⟩ = some (.string ⟨#[]⟩)) (ds := [7]) (bs 8 0) (by kernel_rfl) rfl rfl (bc11o K106.out) (fun qal_ => ?_); refine qds_ qh_.tab4 qh_.bits4 (fun HT_ HW_ => ?_); generalize wr.drew = w19 at HO_107001 K101 K102 K106 HB qal_ ⊢; refine pun_ 0 24 8 1 ?_; refine pun_ 2 26 8 5 ?_; refine tkW11n_ 1 25 8 7 qal_ ?_; refine on_ 3 27 8 15 (fun K hK => ?_); refine goes_ func70 (by kernel_rfl) rfl #[.pointer (some ⟨g102, 0, none⟩), .string ⟨#[112, 97, 114, 101, 110, 116, 32]⟩] (by rfl) rfl rfl z5_ ?_
    with_reducible refine (qbf_.calls k1 g102 x103000_1 x103001_1 ⟨#[112, 97, 114, 101, 110, 116, 32]⟩ t108 t109 t110 w _ ?side1 ?side2 ?side3 A14.out).mono ?_
    (case side1 => exact (show IsS87 w _ g102 x103000_1 x103001_1 from ⟨(bk_ K102.out), E102.out⟩))
    (case side2 => repeat (first | (with_reducible first | exact HB.out | apply qap_ | apply qar_ | apply qbh_ | refine qt_ ?_ (IsS87.ge HI102.out) | refine qt_ ?_ E101.out | refine qt_ ?_ E106.out) | exact HB.out))
    (case side3 => exact hgv)
    rintro e w20 ⟨rfl, hi, hb, hk⟩; refine ⟨_, rfl, ?_⟩; replace HO_107001 := qa_.mk (Kd.R_mono (Kd.R_keep (IsS87.apart (show IsS87 w _ g102 x103000_1 x103001_1 from by exact (show IsS87 w _ g102 x103000_1 x103001_1 from ⟨(bk_ K102.out), E102.out⟩)) (rk_ HO_107001.out) (by decide)) hk (fun _ h => h.2)) (fun _ h => h.1)); replace K101 := qa_.mk (qad_.blk hk (g' := g101) (o := .cells #[.string ⟨#[]⟩, .slice none 0 0, .string ⟨#[]⟩, .string ⟨#[]⟩, .int .i64 0, .int .i64 0, .string ⟨#[]⟩, .string ⟨#[]⟩, .int .i64 0, .int .i64 0, .string ⟨#[]⟩] 26 (0, 0)) (bk_ K101.out) N101_102.out (by simp)); replace K106 := qa_.mk (qad_.blk hk (g' := g106) (o := .cells #[.string t103, u107001, .string ⟨#[]⟩, .string ⟨#[]⟩, .int .i64 0, .int .i64 0, .string ⟨#[]⟩, .string ⟨#[]⟩, .int .i64 0, .int .i64 0, .string ⟨#[]⟩] 26 (0, 0)) (bk_ K106.out) N106_102.out (by simp)); replace HB := qa_.mk (hb); replace K102 := qa_.mk (hi.1); (try clear hb)
    (try clear hb2)
    (try clear hk)
    (try clear hi)
    refine hK.out _ _ (bc11o K106.out) (fun qal_ => ?_); clear hK K; refine norm_ (a' := ?_) ?_ ?_; rotate_left
    ·show Act.put _ (some 27) _ = _
     simp only [Act.put, List.setIfInBounds_toArray, List.set_cons_zero, List.set_cons_succ, i64_w, i32_w]; rfl
    refine on_ 4 28 8 31 (fun K hK => ?_); refine value_ (w1 := ?_) (v := ?_) (by rfl) rfl ?_ ?_; rotate_left 2
    ·go_simp
     constructor
     ·rfl
     ·rfl
    refine hK.out _ _ ⟨(qd_ (qdk_ K106.out _) 0).trans rfl, (qd_ (qdk_ K106.out _) 1).trans rfl, (qd_ (qdk_ K106.out _) 2).trans rfl, (qd_ (qdk_ K106.out _) 3).trans rfl, (qd_ (qdk_ K106.out _) 4).trans rfl, (qd_ (qdk_ K106.out _) 5).trans rfl, (qd_ (qdk_ K106.out _) 6).trans rfl, (qd_ (qdk_ K106.out _) 7).trans rfl, (qd_ (qdk_ K106.out _) 8).trans rfl, (qd_ (qdk_ K106.out _) 9).trans rfl, (qd_ (qdk_ K106.out _) 10).trans rfl⟩ (fun qal_ => ?_); clear hK K; refine norm_ (a' := ?_) ?_ ?_; rotate_left
    ·show Act.put _ (some 28) _ = _
     simp only [Act.put, List.setIfInBounds_toArray, List.set_cons_zero, List.set_cons_succ, i64_w, i32_w]; rfl
    refine on_ 5 29 8 63 (fun K hK => ?_); refine Kd.R_append_step Kd.string (w0 := w) w.heap.size (by rfl) (.tmp 25) (.tmp 28) 22 9 (.string ⟨#[]⟩) 16 rfl underlying22 info9 rfl (by decide) (by omega) u107001 x107001_1 t108 [.string t108] (fun _ => True) (fun _ => False) rfl rfl ?aP (fun _ hk => hk.elim) ?aF ?aO ?aB ?aS ?aL ?_; (case aP => exact rfl)
    (case aB => exact (hs_))
    (case aF => exact (fun _ _ => trivial))
    (case aO => exact (rk_ HO_107001.out))
    (case aS => exact (qn_ (hs_)))
    (case aL => have := LMc15.out; omega)
    intro v112 w21 ho hb hg hat; rw [← Ny111.out] at ho; have n0_ := qa_.mk (qdc_ (g := g101) (o := .cells #[.string ⟨#[]⟩, .slice none 0 0, .string ⟨#[]⟩, .string ⟨#[]⟩, .int .i64 0, .int .i64 0, .string ⟨#[]⟩, .string ⟨#[]⟩, .int .i64 0, .int .i64 0, .string ⟨#[]⟩] 26 (0, 0)) (bk_ K101.out) hg (Kd.R_ne HO_107001.out K101.out (by decide))); have n1_ := qa_.mk (qdc_ (g := g102) (o := .cells #[.string t109, .int .i64 t110] 87 (0, 0)) (bk_ K102.out) hg (Kd.R_ne HO_107001.out K102.out (by decide))); have n2_ := qa_.mk (qdc_ (g := g106) (o := .cells #[.string t103, u107001, .string ⟨#[]⟩, .string ⟨#[]⟩, .int .i64 0, .int .i64 0, .string ⟨#[]⟩, .string ⟨#[]⟩, .int .i64 0, .int .i64 0, .string ⟨#[]⟩] 26 (0, 0)) (bk_ K106.out) hg (Kd.R_ne HO_107001.out K106.out (by decide))); have n3_ := qa_.mk (hb); have n4_ := qa_.mk (ho); clear K101; clear K102; clear K106; clear HB; clear HO_107001; have K101 := n0_; have K102 := n1_; have K106 := n2_; have HB := n3_; have HO113 := n4_; clear n0_ n1_ n2_ n3_ n4_; clear ho hb hg hat; obtain ⟨Ao22, co22, eo22⟩ := Kd.R_slice HO113.out; (first | subst eo22 | (injection eo22 with f1_ f2_ f3_; have f4_ := f1_.symm; have f5_ := f3_.symm; clear f1_ f2_ f3_; subst f4_; subst f5_)); refine hK.out _ _ (bc11o K106.out) (fun qal_ => ?_); clear hK K; refine norm_ (a' := ?_) ?_ ?_; rotate_left
    ·show Act.put _ (some 29) _ = _
     simp only [Act.put, List.setIfInBounds_toArray, List.set_cons_zero, List.set_cons_succ, i64_w, i32_w]; rfl
    refine pun_ 6 30 8 127 ?_; refine last_ (i := 7) (N := none) (bs 8 255) rfl rfl (one_of HT_.out (by kernel_rfl)) (by decide) (fun K hK => ?_); have hs23 : w21.cell? ⟨g106, 1, none⟩ = some (u107001) := (qd_ K106.out 1).trans rfl; have hfs23 := ql_ K106.out 1; have hns23_0 := N101_106.out; have hns23_1 := N102_106.out; have hms23_0 := N106_101.out; have hms23_1 := N106_102.out; refine skip_ (w1 := ?_) (by rfl) rfl ?_ ?_; rotate_left
    ·go_simp
     rfl
    refine hK.out _ _ ?_; clear hK K; refine dn_ ?_; try go_wp2
    go_roundg k1
    case measure => have := HK1.out; omega
    case rel => exact ⟨(t109), (t110), (y111), (.slice Ao22 y111.length co22), H', ⟨by have := HK1.out; omega⟩, ⟨by (with_reducible repeat (first | apply Kd.R_alloc | apply Kd.R_drewN | apply Kd.R_drew)); exact Kd.R_mono (Kd.R_far (p := ⟨g106, 1, none⟩) (Kd.R_types HO113.out K106.out (by decide)) (fun _ hk => hk.2) (.slice Ao22 y111.length co22)) (fun _ hk => trivial)⟩, ⟨by have b_ := K101; have f_ := N101_106; exact zb_⟩, ⟨by have b_ := K102; have f_ := N102_106; exact zb_⟩, ⟨by have b_ := K106; exact zb_⟩, ⟨hs_⟩⟩
 case rest =>
  clear HC3; try clear c1
  try clear c2
  try clear p2
  try clear c7
  try clear c8
  try clear c9
  try clear c11
  try clear c11b0
  try clear c11b1
  try clear c13
  try clear c15
  try clear c16
  try clear c17
  try clear c20
  try clear c24
  try clear c25
  try clear c27
  try clear c28
  try clear Z10_0 Z10_1 Z10_10 Z10_2 Z10_3 Z10_4 Z10_5 Z10_6 Z10_7 Z10_8 Z10_9
  try clear Z18_0 Z18_1
  try clear Z26_0 Z26_1
  try clear Z29_0 Z29_1
  try clear F10
  try clear F18
  try clear F26
  try clear F29
  try clear p2
  obtain ⟨kq, x103000_2, x103001_2, x107001_2, u107001, HA, HJ2, HO_107001, K101, K102, K106, HB⟩ := hcut
  cases kq with
  | zero => exact absurd HA.out (by simp [qh_.j1])
  | succ kj2 =>
   have H := HA.out; clear HA; simp only [qh_.j1] at H; obtain ⟨⟨t114, t115, t116, t117, t118, t119⟩, A30, H⟩ := bx_ H; dsimp only at H; obtain ⟨⟨t120, t121, t122, t123, t124, t125⟩, A31, H⟩ := bx_ H; dsimp only at H; obtain ⟨⟨t126, t127, t128⟩, A32, H⟩ := bx_ H; dsimp only at H; have HC33 := qa_.mk H; clear H; go_upto_if 39 with (first | ((with_reducible refine qb_ (f := 72) rfl ?_); refine gl_ (some 32) func72 #[.pointer (some ⟨g102, 0, none⟩), .string ⟨#[97, 117, 116, 104, 111, 114, 32]⟩] ?_; (with_reducible refine (qay_.calls kj2 g102 x103000_2 x103001_2 ⟨#[97, 117, 116, 104, 111, 114, 32]⟩ t114 t115 t116 t117 t118 t119 w _ ?side1 ?side2 ?side3 A30.out).mono ?_); (case side1 => exact (show IsS87 w _ g102 x103000_2 x103001_2 from ⟨(bk_ K102.out), E102.out⟩)); (case side2 => repeat (first | (with_reducible first | exact HB.out | apply qap_ | apply qar_ | apply qbh_ | refine qt_ ?_ (IsS87.ge HI102.out) | refine qt_ ?_ E101.out | refine qt_ ?_ E106.out) | exact HB.out)); (case side3 => exact hgv); rintro e w34 ⟨rfl, hi, hb, hk⟩; refine ⟨_, rfl, ?_⟩; replace HO_107001 := qa_.mk (Kd.R_mono (Kd.R_keep (IsS87.apart (show IsS87 w _ g102 x103000_2 x103001_2 from by exact (show IsS87 w _ g102 x103000_2 x103001_2 from ⟨(bk_ K102.out), E102.out⟩)) (rk_ HO_107001.out) (by decide)) hk (fun _ h => h.2)) (fun _ h => h.1)); replace K101 := qa_.mk (qad_.blk hk (g' := g101) (o := .cells #[.string ⟨#[]⟩, .slice none 0 0, .string ⟨#[]⟩, .string ⟨#[]⟩, .int .i64 0, .int .i64 0, .string ⟨#[]⟩, .string ⟨#[]⟩, .int .i64 0, .int .i64 0, .string ⟨#[]⟩] 26 (0, 0)) (bk_ K101.out) N101_102.out (by simp)); replace K106 := qa_.mk (qad_.blk hk (g' := g106) (o := .cells #[.string t103, u107001, .string ⟨#[]⟩, .string ⟨#[]⟩, .int .i64 0, .int .i64 0, .string ⟨#[]⟩, .string ⟨#[]⟩, .int .i64 0, .int .i64 0, .string ⟨#[]⟩] 26 (0, 0)) (bk_ K106.out) N106_102.out (by simp)); replace HB := qa_.mk (hb); replace K102 := qa_.mk (hi.1); (try clear hb); (try clear hb2); (try clear hk); (try clear hi)) | ((with_reducible refine qb_ (f := 72) rfl ?_); refine gl_ (some 34) func72 #[.pointer (some ⟨g102, 0, none⟩), .string ⟨#[99, 111, 109, 109, 105, 116, 116, 101, 114, 32]⟩] ?_; (with_reducible refine (qay_.calls kj2 g102 t118 t119 ⟨#[99, 111, 109, 109, 105, 116, 116, 101, 114, 32]⟩ t120 t121 t122 t123 t124 t125 w _ ?side1 ?side2 ?side3 A31.out).mono ?_); (case side1 => exact (show IsS87 w _ g102 t118 t119 from ⟨(bk_ K102.out), E102.out⟩)); (case side2 => repeat (first | (with_reducible first | exact HB.out | apply qap_ | apply qar_ | apply qbh_ | refine qt_ ?_ (IsS87.ge HI102.out) | refine qt_ ?_ E101.out | refine qt_ ?_ E106.out) | exact HB.out)); (case side3 => exact hgv); rintro e w35 ⟨rfl, hi, hb, hk⟩; refine ⟨_, rfl, ?_⟩; replace HO_107001 := qa_.mk (Kd.R_mono (Kd.R_keep (IsS87.apart (show IsS87 w _ g102 t118 t119 from by exact (show IsS87 w _ g102 t118 t119 from ⟨(bk_ K102.out), E102.out⟩)) (rk_ HO_107001.out) (by decide)) hk (fun _ h => h.2)) (fun _ h => h.1)); replace K101 := qa_.mk (qad_.blk hk (g' := g101) (o := .cells #[.string ⟨#[]⟩, .slice none 0 0, .string ⟨#[]⟩, .string ⟨#[]⟩, .int .i64 0, .int .i64 0, .string ⟨#[]⟩, .string ⟨#[]⟩, .int .i64 0, .int .i64 0, .string ⟨#[]⟩] 26 (0, 0)) (bk_ K101.out) N101_102.out (by simp)); replace K106 := qa_.mk (qad_.blk hk (g' := g106) (o := .cells #[.string t103, u107001, .string ⟨#[]⟩, .string ⟨#[]⟩, .int .i64 0, .int .i64 0, .string ⟨#[]⟩, .string ⟨#[]⟩, .int .i64 0, .int .i64 0, .string ⟨#[]⟩] 26 (0, 0)) (bk_ K106.out) N106_102.out (by simp)); replace HB := qa_.mk (hb); replace K102 := qa_.mk (hi.1); (try clear hb); (try clear hb2); (try clear hk); (try clear hi); have hnb36 := N106_101.out; have hnc36 := N101_106.out; have hnb37 := N106_102.out; have hnc37 := N102_106.out; obtain ⟨Z38_0, Z38_1, Z38_2, Z38_3, Z38_4, Z38_5, Z38_6, Z38_7, Z38_8, Z38_9, Z38_10, F38⟩ := bc11 K106.out) | ((with_reducible refine qb_ (f := 73) rfl ?_); refine gl_ (some 38) func73 #[.pointer (some ⟨g102, 0, none⟩), .string ⟨#[]⟩] ?_; (with_reducible refine (qba_.calls g102 t124 t125 ⟨#[]⟩ t126 t127 t128 w _ ?side1 ?side2 ?side3 A32.out).mono ?_); (case side1 => exact (show IsS87 w _ g102 t124 t125 from ⟨(by have b_ := K102; have f_ := N102_106; exact zb_), E102.out⟩)); (case side2 => repeat (first | (with_reducible first | exact HB.out | apply qap_ | apply qar_ | apply qbh_ | refine qt_ ?_ (IsS87.ge HI102.out) | refine qt_ ?_ E101.out | refine qt_ ?_ E106.out) | exact HB.out)); (case side3 => exact hgv); rintro e w39 ⟨rfl, hi, hb, hk⟩; refine ⟨_, rfl, ?_⟩; replace HO_107001 := qa_.mk (Kd.R_mono (Kd.R_keep (IsS87.apart (show IsS87 w _ g102 t124 t125 from by exact (show IsS87 w _ g102 t124 t125 from ⟨(by have b_ := K102; have f_ := N102_106; exact zb_), E102.out⟩)) (by (with_reducible repeat (first | apply Kd.R_alloc | apply Kd.R_drewN | apply Kd.R_drew)); exact (Kd.R_mono (Kd.R_far (p := ⟨g106, 9, none⟩) (Kd.R_far (p := ⟨g106, 8, none⟩) (Kd.R_far (p := ⟨g106, 7, none⟩) (Kd.R_far (p := ⟨g106, 6, none⟩) (Kd.R_far (p := ⟨g106, 5, none⟩) (Kd.R_far (p := ⟨g106, 4, none⟩) (Kd.R_far (p := ⟨g106, 3, none⟩) (Kd.R_far (p := ⟨g106, 2, none⟩) (Kd.R_types HO_107001.out K106.out (by decide)) (fun _ hk => hk.2) (.string t114)) (fun _ hk => hk.2) (.string t115)) (fun _ hk => hk.2) (.int .i64 t116)) (fun _ hk => hk.2) (.int .i64 t117)) (fun _ hk => hk.2) (.string t120)) (fun _ hk => hk.2) (.string t121)) (fun _ hk => hk.2) (.int .i64 t122)) (fun _ hk => hk.2) (.int .i64 t123)) (fun _ h_ => h_.1))) (by decide)) hk (fun _ h => h.2)) (fun _ h => h.1)); replace K101 := qa_.mk (qad_.blk hk (g' := g101) (o := .cells #[.string ⟨#[]⟩, .slice none 0 0, .string ⟨#[]⟩, .string ⟨#[]⟩, .int .i64 0, .int .i64 0, .string ⟨#[]⟩, .string ⟨#[]⟩, .int .i64 0, .int .i64 0, .string ⟨#[]⟩] 26 (0, 0)) (by have b_ := K101; have f_ := N101_106; exact zb_) N101_102.out (by simp)); replace K106 := qa_.mk (qad_.blk hk (g' := g106) (o := .cells #[.string t103, u107001, .string t114, .string t115, .int .i64 t116, .int .i64 t117, .string t120, .string t121, .int .i64 t122, .int .i64 t123, .string ⟨#[]⟩] 26 (0, 0)) (by have b_ := K106; exact zb_) N106_102.out (by simp)); replace HB := qa_.mk (hb); replace K102 := qa_.mk (hi.1); (try clear hb); (try clear hb2); (try clear hk); (try clear hi)))
   (try simp only [Act.put, List.setIfInBounds_toArray, List.set_cons_zero, List.set_cons_succ])
   go_cut [] (fun wc => ∃ (kq : Nat) (x103000_32 : ByteArray) (x103001_32 : Int), qa_ (qh_.j2 kq x103000_32 x103001_32 t103 x107001_2 t114 t115 t116 t117 t120 t121 t122 t123 ⟨#[]⟩ = some (r1, r2, r3, r4, r5, r6, r7, r8, r9, r10, r11, r12)) ∧ qa_ (kq ≤ kj2) ∧ qa_ (Kd.R Kd.string 9 wc w.heap.size (fun _ => True) u107001 x107001_2) ∧ qa_ (wc.heap[g101]? = some (.cells #[.string ⟨#[]⟩, (.slice none 0 0), .string ⟨#[]⟩, .string ⟨#[]⟩, .int .i64 0, .int .i64 0, .string ⟨#[]⟩, .string ⟨#[]⟩, .int .i64 0, .int .i64 0, .string ⟨#[]⟩] 26 (0, 0))) ∧ qa_ (wc.heap[g102]? = some (.cells #[.string x103000_32, .int .i64 x103001_32] 87 (0, 0))) ∧ qa_ (wc.heap[g106]? = some (.cells #[.string t103, u107001, .string t114, .string t115, .int .i64 t116, .int .i64 t117, .string t120, .string t121, .int .i64 t122, .int .i64 t123, .string ⟨#[]⟩] 26 (0, 0))) ∧ qa_ (Below w.heap.size w wc))
   case first =>
    have H := HC33.out; clear HC33; by_cases c40 : t126.toList = ([] : List UInt8)
    ·rw [if_pos c40] at H; have c40b0 := et_ c40; have c40b1 := nf_ c40; (try (have c40b8 : (!t126.toList.isEmpty) = false := (by have h_ := c40b1; rw [qbq_] at h_; exact h_))); (try (have c40b9 : t126.toList.isEmpty = true := (by have h_ := c40b1; rw [qbq_] at h_; simpa using h_)))
     clear c40; (first | rw [c40b0] | (simp only [i64_w, i32_w]; rw [c40b0]) | skip); (try rw [c40b8])
     have H' := qa_.mk H; clear H; go_wp2
     go_meet
     case rel => exact ⟨_, (t127), (t128), H', ⟨by have := HJ2.out; first | omega | exact Nat.le_refl _⟩, ⟨z28_⟩, ⟨bk_ K101.out⟩, ⟨bk_ K102.out⟩, ⟨bk_ K106.out⟩, ⟨hs_⟩⟩
    rw [if_neg c40] at H; have c40b0 := ef_ c40; have c40b1 := nt_ c40; (try (have c40b8 : (!t126.toList.isEmpty) = true := (by have h_ := c40b1; rw [qbq_] at h_; exact h_))); (try (have c40b9 : t126.toList.isEmpty = false := (by have h_ := c40b1; rw [qbq_] at h_; simpa using h_)))
    (first | rw [c40b0] | (simp only [i64_w, i32_w]; rw [c40b0]) | skip)
    (try rw [c40b8])
    obtain ⟨⟨t129, t130⟩, A41, H⟩ := bx_ H; dsimp only at H; have H' := qa_.mk H; clear H; go_wp2_with (first | ((with_reducible refine qb_ (f := 74) rfl ?_); refine gl_ (some 41) func74 #[.pointer (some ⟨g102, 0, none⟩), .int .i64 2] ?_; (with_reducible refine (qbg_.calls g102 t127 t128 2 t129 t130 w _ ?side1 ?side2 A41.out).mono ?_); (case side1 => exact (show IsS87 w _ g102 t127 t128 from ⟨(bk_ K102.out), E102.out⟩)); (case side2 => repeat (first | (with_reducible first | exact HB.out | apply qap_ | apply qar_ | apply qbh_ | refine qt_ ?_ (IsS87.ge HI102.out) | refine qt_ ?_ E101.out | refine qt_ ?_ E106.out) | exact HB.out)); rintro e w42 ⟨rfl, hi, hb, hk⟩; refine ⟨_, rfl, ?_⟩; replace HO_107001 := qa_.mk (Kd.R_mono (Kd.R_keep (IsS87.apart (show IsS87 w _ g102 t127 t128 from by exact (show IsS87 w _ g102 t127 t128 from ⟨(bk_ K102.out), E102.out⟩)) (rk_ HO_107001.out) (by decide)) hk (fun _ h => h.2)) (fun _ h => h.1)); replace K101 := qa_.mk (qad_.blk hk (g' := g101) (o := .cells #[.string ⟨#[]⟩, .slice none 0 0, .string ⟨#[]⟩, .string ⟨#[]⟩, .int .i64 0, .int .i64 0, .string ⟨#[]⟩, .string ⟨#[]⟩, .int .i64 0, .int .i64 0, .string ⟨#[]⟩] 26 (0, 0)) (bk_ K101.out) N101_102.out (by simp)); replace K106 := qa_.mk (qad_.blk hk (g' := g106) (o := .cells #[.string t103, u107001, .string t114, .string t115, .int .i64 t116, .int .i64 t117, .string t120, .string t121, .int .i64 t122, .int .i64 t123, .string ⟨#[]⟩] 26 (0, 0)) (bk_ K106.out) N106_102.out (by simp)); replace HB := qa_.mk (hb); replace K102 := qa_.mk (hi.1); (try clear hb); (try clear hb2); (try clear hk); (try clear hi)))
    go_meet
    case rel => exact ⟨_, (t129), (t130), H', ⟨by have := HJ2.out; first | omega | exact Nat.le_refl _⟩, ⟨z28_⟩, ⟨bk_ K101.out⟩, ⟨bk_ K102.out⟩, ⟨bk_ K106.out⟩, ⟨hs_⟩⟩
   case rest =>
    clear HC33; try clear c1
    try clear c2
    try clear p2
    try clear c3
    try clear c4
    try clear c7
    try clear c8
    try clear c9
    try clear c11
    try clear c11b0
    try clear c11b1
    try clear c13
    try clear c15
    try clear c16
    try clear c17
    try clear c20
    try clear c24
    try clear c25
    try clear c27
    try clear c28
    try clear c36
    try clear c37
    try clear c40
    try clear c40b0
    try clear c40b1
    try clear Z10_0 Z10_1 Z10_10 Z10_2 Z10_3 Z10_4 Z10_5 Z10_6 Z10_7 Z10_8 Z10_9
    try clear Z18_0 Z18_1
    try clear Z26_0 Z26_1
    try clear Z29_0 Z29_1
    try clear Z38_0 Z38_1 Z38_10 Z38_2 Z38_3 Z38_4 Z38_5 Z38_6 Z38_7 Z38_8 Z38_9
    try clear F10
    try clear F18
    try clear F26
    try clear F29
    try clear F38
    try clear p2
    obtain ⟨kq, x103000_32, x103001_32, HA, HJ32, HO_107001, K101, K102, K106, HB⟩ := hcut
    cases kq with
    | zero => exact absurd HA.out (by simp [qh_.j2])
    | succ kj32 =>
     have H := HA.out; clear HA; simp only [qh_.j2] at H; by_cases c43 : x103001_32 = 0; rotate_left
     ·rw [if_neg c43] at H; have c43b0 := ef_ c43; have c43b1 := nt_ c43; obtain ⟨rfl, rfl, rfl, rfl, rfl, rfl, rfl, rfl, rfl, rfl, rfl, rfl⟩ := pj12_ H; have hnb77 := N102_101.out; have hnc77 := N101_102.out; have hnb78 := N102_106.out; have hnc78 := N106_102.out; obtain ⟨Z79_0, Z79_1, F79⟩ := bc2 K102.out; have hnb80 := N106_101.out; have hnc80 := N101_106.out; obtain ⟨Z81_0, Z81_1, Z81_2, Z81_3, Z81_4, Z81_5, Z81_6, Z81_7, Z81_8, Z81_9, Z81_10, F81⟩ := bc11 K106.out; try go_wp2
      have n0_ : qa_ (Kd.R Kd.string 9 (wc.setCell ⟨g106, 10, none⟩ (.string x103000_32)) w.heap.size (fun _ => True) u107001 x107001_2) := ⟨by (with_reducible repeat (first | apply Kd.R_alloc | apply Kd.R_drewN | apply Kd.R_drew)); exact Kd.R_mono (Kd.R_far (p := ⟨g106, 10, none⟩) (Kd.R_types HO_107001.out K106.out (by decide)) (fun _ hk => hk.2) (.string x103000_32)) (fun _ hk => trivial)⟩; have n1_ : qa_ ((wc.setCell ⟨g106, 10, none⟩ (.string x103000_32)).heap[g101]? = some (.cells #[.string ⟨#[]⟩, .slice none 0 0, .string ⟨#[]⟩, .string ⟨#[]⟩, .int .i64 0, .int .i64 0, .string ⟨#[]⟩, .string ⟨#[]⟩, .int .i64 0, .int .i64 0, .string ⟨#[]⟩] 26 (0, 0))) := ⟨by have b_ := K101; have f_ := N101_106; exact zb_⟩; have n2_ : qa_ ((wc.setCell ⟨g106, 10, none⟩ (.string x103000_32)).heap[g102]? = some (.cells #[.string x103000_32, .int .i64 x103001_32] 87 (0, 0))) := ⟨by have b_ := K102; have f_ := N102_106; exact zb_⟩; have n3_ : qa_ ((wc.setCell ⟨g106, 10, none⟩ (.string x103000_32)).heap[g106]? = some (.cells #[.string t103, u107001, .string t114, .string t115, .int .i64 t116, .int .i64 t117, .string t120, .string t121, .int .i64 t122, .int .i64 t123, .string x103000_32] 26 (0, 0))) := ⟨by have b_ := K106; exact zb_⟩; have n4_ : qa_ (Below w.heap.size w (wc.setCell ⟨g106, 10, none⟩ (.string x103000_32))) := ⟨hs_⟩; (try clear HO_107001)
      (try clear K101)
      (try clear K102)
      (try clear K106)
      (try clear HB)
      generalize (wc.setCell ⟨g106, 10, none⟩ (.string x103000_32)) = w82 at n0_ n1_ n2_ n3_ n4_ ⊢; have HO_107001 := n0_; have K101 := n1_; have K102 := n2_; have K106 := n3_; have HB := n4_; clear n0_ n1_ n2_ n3_ n4_; replace HO_107001 := qa_.mk (Kd.R_drew HO_107001.out); replace K101 := ad_ K101; replace K102 := ad_ K102; replace K106 := ad_ K106; replace HB := hd_ HB; refine qdl_ (n := 7) (S := fun w' => w'.cell? ⟨g102, 0, none⟩ = some (.string x103000_32) ∧ w'.cell? ⟨g102, 1, none⟩ = some (.int .i64 x103001_32)) (ds := []) (bs 7 0) (by kernel_rfl) rfl rfl (bc2o K102.out) (fun qal_ => ?_); generalize w82.drew = w83 at HO_107001 K101 K102 K106 HB qal_ ⊢; refine pkn_ 0 62 7 1 ?_; refine pkn_ 1 63 7 3 ?_; refine pkn_ 2 64 7 7 ?_; refine pkn_ 3 65 7 15 ?_; refine tkK2n_ 4 66 7 31 qal_ ?_; refine one_ (i := 5) (N := none) (bs 7 63) rfl rfl (by kernel_rfl) (by decide) (fun K hK => ?_); have hs84 : w83.cell? ⟨g101, 0, none⟩ = some (.string ⟨#[]⟩) := (qd_ K101.out 0).trans rfl; have hfs84 := ql_ K101.out 0; have hns84_1 := N102_101.out; have hns84_2 := N106_101.out; have hms84_1 := N101_102.out; have hms84_2 := N101_106.out; have hs85 : w83.cell? ⟨g101, 1, none⟩ = some (.slice none 0 0) := (qd_ K101.out 1).trans rfl; have hfs85 := ql_ K101.out 1; have hns85_1 := N102_101.out; have hns85_2 := N106_101.out; have hms85_1 := N101_102.out; have hms85_2 := N101_106.out; have hs86 : w83.cell? ⟨g101, 2, none⟩ = some (.string ⟨#[]⟩) := (qd_ K101.out 2).trans rfl; have hfs86 := ql_ K101.out 2; have hns86_1 := N102_101.out; have hns86_2 := N106_101.out; have hms86_1 := N101_102.out; have hms86_2 := N101_106.out; have hs87 : w83.cell? ⟨g101, 3, none⟩ = some (.string ⟨#[]⟩) := (qd_ K101.out 3).trans rfl; have hfs87 := ql_ K101.out 3; have hns87_1 := N102_101.out; have hns87_2 := N106_101.out; have hms87_1 := N101_102.out; have hms87_2 := N101_106.out; have hs88 : w83.cell? ⟨g101, 4, none⟩ = some (.int .i64 0) := (qd_ K101.out 4).trans rfl; have hfs88 := ql_ K101.out 4; have hns88_1 := N102_101.out; have hns88_2 := N106_101.out; have hms88_1 := N101_102.out; have hms88_2 := N101_106.out; have hs89 : w83.cell? ⟨g101, 5, none⟩ = some (.int .i64 0) := (qd_ K101.out 5).trans rfl; have hfs89 := ql_ K101.out 5; have hns89_1 := N102_101.out; have hns89_2 := N106_101.out; have hms89_1 := N101_102.out; have hms89_2 := N101_106.out; have hs90 : w83.cell? ⟨g101, 6, none⟩ = some (.string ⟨#[]⟩) := (qd_ K101.out 6).trans rfl; have hfs90 := ql_ K101.out 6; have hns90_1 := N102_101.out; have hns90_2 := N106_101.out; have hms90_1 := N101_102.out; have hms90_2 := N101_106.out; have hs91 : w83.cell? ⟨g101, 7, none⟩ = some (.string ⟨#[]⟩) := (qd_ K101.out 7).trans rfl; have hfs91 := ql_ K101.out 7; have hns91_1 := N102_101.out; have hns91_2 := N106_101.out; have hms91_1 := N101_102.out; have hms91_2 := N101_106.out
      have hs92 : w83.cell? ⟨g101, 8, none⟩ = some (.int .i64 0) := (qd_ K101.out 8).trans rfl; have hfs92 := ql_ K101.out 8; have hns92_1 := N102_101.out; have hns92_2 := N106_101.out; have hms92_1 := N101_102.out; have hms92_2 := N101_106.out; have hs93 : w83.cell? ⟨g101, 9, none⟩ = some (.int .i64 0) := (qd_ K101.out 9).trans rfl; have hfs93 := ql_ K101.out 9; have hns93_1 := N102_101.out; have hns93_2 := N106_101.out; have hms93_1 := N101_102.out; have hms93_2 := N101_106.out; have hs94 : w83.cell? ⟨g101, 10, none⟩ = some (.string ⟨#[]⟩) := (qd_ K101.out 10).trans rfl; have hfs94 := ql_ K101.out 10; have hns94_1 := N102_101.out; have hns94_2 := N106_101.out; have hms94_1 := N101_102.out; have hms94_2 := N101_106.out; refine skip_ (w1 := ?_) (by rfl) rfl ?_ ?_; rotate_left
      ·go_simp
       rfl
      refine hK.out _ _ ⟨((qj_ (p := ⟨g101, _, none⟩) N102_101.out _).trans (((qj_ (p := ⟨g101, _, none⟩) N102_101.out _).trans (((qj_ (p := ⟨g101, _, none⟩) N102_101.out _).trans (((qj_ (p := ⟨g101, _, none⟩) N102_101.out _).trans (((qj_ (p := ⟨g101, _, none⟩) N102_101.out _).trans (((qj_ (p := ⟨g101, _, none⟩) N102_101.out _).trans (((qj_ (p := ⟨g101, _, none⟩) N102_101.out _).trans (((qj_ (p := ⟨g101, _, none⟩) N102_101.out _).trans (((qj_ (p := ⟨g101, _, none⟩) N102_101.out _).trans (((qj_ (p := ⟨g101, _, none⟩) N102_101.out _).trans (((qj_ (p := ⟨g101, _, none⟩) N102_101.out _).trans (qal_.1)))))))))))))))))))))), ((qj_ (p := ⟨g101, _, none⟩) N102_101.out _).trans (((qj_ (p := ⟨g101, _, none⟩) N102_101.out _).trans (((qj_ (p := ⟨g101, _, none⟩) N102_101.out _).trans (((qj_ (p := ⟨g101, _, none⟩) N102_101.out _).trans (((qj_ (p := ⟨g101, _, none⟩) N102_101.out _).trans (((qj_ (p := ⟨g101, _, none⟩) N102_101.out _).trans (((qj_ (p := ⟨g101, _, none⟩) N102_101.out _).trans (((qj_ (p := ⟨g101, _, none⟩) N102_101.out _).trans (((qj_ (p := ⟨g101, _, none⟩) N102_101.out _).trans (((qj_ (p := ⟨g101, _, none⟩) N102_101.out _).trans (((qj_ (p := ⟨g101, _, none⟩) N102_101.out _).trans (qal_.2))))))))))))))))))))))⟩ (fun qal_ => ?_); clear hK K; refine pkn_ 6 3 7 127 ?_; refine done_ (by kernel_rfl) ?_; try go_wp2
      refine bodyPost_ret (qby_ rfl _ _ g101 26 #[.string ⟨#[]⟩, .slice none 0 0, .string ⟨#[]⟩, .string ⟨#[]⟩, .int .i64 0, .int .i64 0, .string ⟨#[]⟩, .string ⟨#[]⟩, .int .i64 0, .int .i64 0, .string ⟨#[]⟩] (0, 0) _ rfl (by have b_ := K101; exact zb_) underlying26 rfl (by kernel_rfl)) rfl ?_; exact ⟨_, z3_, z6_, hs_⟩
     rw [if_pos c43] at H; have c43b0 := et_ c43; have c43b1 := nf_ c43; clear c43; obtain ⟨t131, A44, H⟩ := bx_ H; by_cases c45 : t131 = 0
     ·rw [if_pos c45] at H; have c45b0 := et_ c45; have c45b1 := nf_ c45; clear c45; obtain ⟨rfl, rfl, rfl, rfl, rfl, rfl, rfl, rfl, rfl, rfl, rfl, rfl⟩ := pj12_ H; have hnb46 := N102_101.out; have hnc46 := N101_102.out; have hnb47 := N102_106.out; have hnc47 := N106_102.out; obtain ⟨Z48_0, Z48_1, F48⟩ := bc2 K102.out; have hnb49 := N106_101.out; have hnc49 := N101_106.out; obtain ⟨Z50_0, Z50_1, Z50_2, Z50_3, Z50_4, Z50_5, Z50_6, Z50_7, Z50_8, Z50_9, Z50_10, F50⟩ := bc11 K106.out; obtain ⟨Ao51, co51, eo51⟩ := Kd.R_slice HO_107001.out; subst eo51; go_wp2_with (first | ((with_reducible refine qb_ (f := 18) rfl ?_); refine gl_ (some 54) func18 #[.agg #[.string t103, .slice Ao51 x107001_2.length co51, .string t114, .string t115, .int .i64 t116, .int .i64 t117, .string t120, .string t121, .int .i64 t122, .int .i64 t123, .string x103000_32]] ?_; (with_reducible refine (qq_.calls kj32 t103 _ _ x107001_2 t114 t115 t116 t117 t120 t121 t122 t123 x103000_32 t131 _ ?side1 ?side2 ?side3 A44.out).mono ?_); (case side1 => refine (Kd.R_reads' (e := 9) (base := w.heap.size) (ok := fun k_ => True) (n := x107001_2.length) (c := co51) ?_).2.2; exact (by (with_reducible repeat (first | apply Kd.R_alloc | apply Kd.R_drewN | apply Kd.R_drew)); exact (Kd.R_mono (Kd.R_far (p := ⟨g106, 10, none⟩) (Kd.R_types HO_107001.out K106.out (by decide)) (fun _ hk => hk.2) (.string x103000_32)) (fun _ h_ => h_.1)))); (case side2 => exact (Kd.R_reads' HO_107001.out).2.1); (case side3 => exact GV.below hgv (hs_)); rintro e w52 ⟨rfl, hb⟩; refine ⟨_, rfl, ?_⟩; replace HO_107001 := qa_.mk (Kd.R_below (by (with_reducible repeat (first | apply Kd.R_alloc | apply Kd.R_drewN | apply Kd.R_drew)); exact (Kd.R_mono (Kd.R_far (p := ⟨g106, 10, none⟩) (Kd.R_types HO_107001.out K106.out (by decide)) (fun _ hk => hk.2) (.string x103000_32)) (fun _ h_ => h_.1))) hb); replace K101 := qa_.mk (qab_ (g := g101) (o := .cells #[.string ⟨#[]⟩, .slice none 0 0, .string ⟨#[]⟩, .string ⟨#[]⟩, .int .i64 0, .int .i64 0, .string ⟨#[]⟩, .string ⟨#[]⟩, .int .i64 0, .int .i64 0, .string ⟨#[]⟩] 26 (0, 0)) (by have b_ := K101; have f_ := N101_106; exact zb_) hb); replace K102 := qa_.mk (qab_ (g := g102) (o := .cells #[.string x103000_32, .int .i64 x103001_32] 87 (0, 0)) (by have b_ := K102; have f_ := N102_106; exact zb_) hb); replace K106 := qa_.mk (qab_ (g := g106) (o := .cells #[.string t103, .slice Ao51 x107001_2.length co51, .string t114, .string t115, .int .i64 t116, .int .i64 t117, .string t120, .string t121, .int .i64 t122, .int .i64 t123, .string x103000_32] 26 (0, 0)) (by have b_ := K106; exact zb_) hb); replace HB := qa_.mk (qc_ (hs_) hb); (try clear hb); (try clear hb2); (try clear hk); (try clear hi); obtain ⟨Z53_0, Z53_1, F53⟩ := bc2 K102.out; obtain ⟨Z54_0, Z54_1, Z54_2, Z54_3, Z54_4, Z54_5, Z54_6, Z54_7, Z54_8, Z54_9, Z54_10, F54⟩ := bc11 K106.out; obtain ⟨Z55_0, Z55_1, Z55_2, Z55_3, Z55_4, Z55_5, Z55_6, Z55_7, Z55_8, Z55_9, Z55_10, F55⟩ := bc11 K101.out))
      refine bodyPost_ret (qby_ rfl _ _ g101 26 #[.string t103, .slice Ao51 x107001_2.length co51, .string t114, .string t115, .int .i64 t116, .int .i64 t117, .string t120, .string t121, .int .i64 t122, .int .i64 t123, .string x103000_32] (0, 0) _ rfl (by have b_ := K101; have f_ := N101_102; exact zb_) underlying26 rfl (by kernel_rfl)) rfl ?_; exact ⟨_, z3_, by (with_reducible repeat (first | apply Kd.R_alloc | apply Kd.R_drewN | apply Kd.R_drew)); exact Kd.R_mono (Kd.R_far (p := ⟨g101, 10, none⟩) (Kd.R_far (p := ⟨g101, 9, none⟩) (Kd.R_far (p := ⟨g101, 8, none⟩) (Kd.R_far (p := ⟨g101, 7, none⟩) (Kd.R_far (p := ⟨g101, 6, none⟩) (Kd.R_far (p := ⟨g101, 5, none⟩) (Kd.R_far (p := ⟨g101, 4, none⟩) (Kd.R_far (p := ⟨g101, 3, none⟩) (Kd.R_far (p := ⟨g101, 2, none⟩) (Kd.R_far (p := ⟨g101, 1, none⟩) (Kd.R_far (p := ⟨g101, 0, none⟩) (Kd.R_far (p := ⟨g102, 1, none⟩) (Kd.R_types (Kd.R_types HO_107001.out K102.out (by decide)) K101.out (by decide)) (fun _ hk => hk.1.2) (.int .i64 t131)) (fun _ hk => hk.2) (.string t103)) (fun _ hk => hk.2) (.slice Ao51 x107001_2.length co51)) (fun _ hk => hk.2) (.string t114)) (fun _ hk => hk.2) (.string t115)) (fun _ hk => hk.2) (.int .i64 t116)) (fun _ hk => hk.2) (.int .i64 t117)) (fun _ hk => hk.2) (.string t120)) (fun _ hk => hk.2) (.string t121)) (fun _ hk => hk.2) (.int .i64 t122)) (fun _ hk => hk.2) (.int .i64 t123)) (fun _ hk => hk.2) (.string x103000_32)) (fun _ hk => trivial), hs_⟩
     rw [if_neg c45] at H; have c45b0 := ef_ c45; have c45b1 := nt_ c45; obtain ⟨rfl, rfl, rfl, rfl, rfl, rfl, rfl, rfl, rfl, rfl, rfl, rfl⟩ := pj12_ H; have hnb56 := N102_101.out; have hnc56 := N101_102.out; have hnb57 := N102_106.out; have hnc57 := N106_102.out; obtain ⟨Z58_0, Z58_1, F58⟩ := bc2 K102.out; have hnb59 := N106_101.out; have hnc59 := N101_106.out; obtain ⟨Z60_0, Z60_1, Z60_2, Z60_3, Z60_4, Z60_5, Z60_6, Z60_7, Z60_8, Z60_9, Z60_10, F60⟩ := bc11 K106.out; obtain ⟨Ao61, co61, eo61⟩ := Kd.R_slice HO_107001.out; subst eo61; try go_wp2_with (first | ((with_reducible refine qb_ (f := 18) rfl ?_); refine gl_ (some 54) func18 #[.agg #[.string t103, .slice Ao61 x107001_2.length co61, .string t114, .string t115, .int .i64 t116, .int .i64 t117, .string t120, .string t121, .int .i64 t122, .int .i64 t123, .string x103000_32]] ?_; (with_reducible refine (qq_.calls kj32 t103 _ _ x107001_2 t114 t115 t116 t117 t120 t121 t122 t123 x103000_32 t131 _ ?side1 ?side2 ?side3 A44.out).mono ?_); (case side1 => refine (Kd.R_reads' (e := 9) (base := w.heap.size) (ok := fun k_ => True) (n := x107001_2.length) (c := co61) ?_).2.2; exact (by (with_reducible repeat (first | apply Kd.R_alloc | apply Kd.R_drewN | apply Kd.R_drew)); exact (Kd.R_mono (Kd.R_far (p := ⟨g106, 10, none⟩) (Kd.R_types HO_107001.out K106.out (by decide)) (fun _ hk => hk.2) (.string x103000_32)) (fun _ h_ => h_.1)))); (case side2 => exact (Kd.R_reads' HO_107001.out).2.1); (case side3 => exact GV.below hgv (hs_)); rintro e w62 ⟨rfl, hb⟩; refine ⟨_, rfl, ?_⟩; replace HO_107001 := qa_.mk (Kd.R_below (by (with_reducible repeat (first | apply Kd.R_alloc | apply Kd.R_drewN | apply Kd.R_drew)); exact (Kd.R_mono (Kd.R_far (p := ⟨g106, 10, none⟩) (Kd.R_types HO_107001.out K106.out (by decide)) (fun _ hk => hk.2) (.string x103000_32)) (fun _ h_ => h_.1))) hb); replace K101 := qa_.mk (qab_ (g := g101) (o := .cells #[.string ⟨#[]⟩, .slice none 0 0, .string ⟨#[]⟩, .string ⟨#[]⟩, .int .i64 0, .int .i64 0, .string ⟨#[]⟩, .string ⟨#[]⟩, .int .i64 0, .int .i64 0, .string ⟨#[]⟩] 26 (0, 0)) (by have b_ := K101; have f_ := N101_106; exact zb_) hb); replace K102 := qa_.mk (qab_ (g := g102) (o := .cells #[.string x103000_32, .int .i64 x103001_32] 87 (0, 0)) (by have b_ := K102; have f_ := N102_106; exact zb_) hb); replace K106 := qa_.mk (qab_ (g := g106) (o := .cells #[.string t103, .slice Ao61 x107001_2.length co61, .string t114, .string t115, .int .i64 t116, .int .i64 t117, .string t120, .string t121, .int .i64 t122, .int .i64 t123, .string x103000_32] 26 (0, 0)) (by have b_ := K106; exact zb_) hb); replace HB := qa_.mk (qc_ (hs_) hb); (try clear hb); (try clear hb2); (try clear hk); (try clear hi); obtain ⟨Z63_0, Z63_1, F63⟩ := bc2 K102.out)); have n0_ : qa_ (Kd.R Kd.string 9 (w62.setCell ⟨g102, 1, none⟩ (.int .i64 t131)) w.heap.size (fun _ => True) (.slice Ao61 x107001_2.length co61) x107001_2) := ⟨by (with_reducible repeat (first | apply Kd.R_alloc | apply Kd.R_drewN | apply Kd.R_drew)); exact Kd.R_mono (Kd.R_far (p := ⟨g102, 1, none⟩) (Kd.R_types HO_107001.out K102.out (by decide)) (fun _ hk => hk.2) (.int .i64 t131)) (fun _ hk => trivial)⟩
     have n1_ : qa_ ((w62.setCell ⟨g102, 1, none⟩ (.int .i64 t131)).heap[g101]? = some (.cells #[.string ⟨#[]⟩, .slice none 0 0, .string ⟨#[]⟩, .string ⟨#[]⟩, .int .i64 0, .int .i64 0, .string ⟨#[]⟩, .string ⟨#[]⟩, .int .i64 0, .int .i64 0, .string ⟨#[]⟩] 26 (0, 0))) := ⟨by have b_ := K101; have f_ := N101_102; exact zb_⟩; have n2_ : qa_ ((w62.setCell ⟨g102, 1, none⟩ (.int .i64 t131)).heap[g102]? = some (.cells #[.string x103000_32, .int .i64 t131] 87 (0, 0))) := ⟨by have b_ := K102; exact zb_⟩; have n3_ : qa_ ((w62.setCell ⟨g102, 1, none⟩ (.int .i64 t131)).heap[g106]? = some (.cells #[.string t103, .slice Ao61 x107001_2.length co61, .string t114, .string t115, .int .i64 t116, .int .i64 t117, .string t120, .string t121, .int .i64 t122, .int .i64 t123, .string x103000_32] 26 (0, 0))) := ⟨by have b_ := K106; have f_ := N106_102; exact zb_⟩; have n4_ : qa_ (Below w.heap.size w (w62.setCell ⟨g102, 1, none⟩ (.int .i64 t131))) := ⟨hs_⟩; (try clear HO_107001)
     (try clear K101)
     (try clear K102)
     (try clear K106)
     (try clear HB)
     generalize (w62.setCell ⟨g102, 1, none⟩ (.int .i64 t131)) = w64 at n0_ n1_ n2_ n3_ n4_ ⊢; have HO_107001 := n0_; have K101 := n1_; have K102 := n2_; have K106 := n3_; have HB := n4_; clear n0_ n1_ n2_ n3_ n4_; replace HO_107001 := qa_.mk (Kd.R_drew HO_107001.out); replace K101 := ad_ K101; replace K102 := ad_ K102; replace K106 := ad_ K106; replace HB := hd_ HB; refine qdl_ (n := 7) (S := fun w' => w'.cell? ⟨g102, 0, none⟩ = some (.string x103000_32) ∧ w'.cell? ⟨g102, 1, none⟩ = some (.int .i64 t131)) (ds := []) (bs 7 0) (by kernel_rfl) rfl rfl (bc2o K102.out) (fun qal_ => ?_); generalize w64.drew = w65 at HO_107001 K101 K102 K106 HB qal_ ⊢; refine pkn_ 0 62 7 1 ?_; refine pkn_ 1 63 7 3 ?_; refine pkn_ 2 64 7 7 ?_; refine pkn_ 3 65 7 15 ?_; refine tkK2n_ 4 66 7 31 qal_ ?_; refine one_ (i := 5) (N := none) (bs 7 63) rfl rfl (by kernel_rfl) (by decide) (fun K hK => ?_); have hs66 : w65.cell? ⟨g101, 0, none⟩ = some (.string ⟨#[]⟩) := (qd_ K101.out 0).trans rfl; have hfs66 := ql_ K101.out 0; have hns66_1 := N102_101.out; have hns66_2 := N106_101.out; have hms66_1 := N101_102.out; have hms66_2 := N101_106.out; have hs67 : w65.cell? ⟨g101, 1, none⟩ = some (.slice none 0 0) := (qd_ K101.out 1).trans rfl; have hfs67 := ql_ K101.out 1; have hns67_1 := N102_101.out; have hns67_2 := N106_101.out; have hms67_1 := N101_102.out; have hms67_2 := N101_106.out; have hs68 : w65.cell? ⟨g101, 2, none⟩ = some (.string ⟨#[]⟩) := (qd_ K101.out 2).trans rfl; have hfs68 := ql_ K101.out 2; have hns68_1 := N102_101.out; have hns68_2 := N106_101.out; have hms68_1 := N101_102.out; have hms68_2 := N101_106.out; have hs69 : w65.cell? ⟨g101, 3, none⟩ = some (.string ⟨#[]⟩) := (qd_ K101.out 3).trans rfl; have hfs69 := ql_ K101.out 3; have hns69_1 := N102_101.out; have hns69_2 := N106_101.out; have hms69_1 := N101_102.out; have hms69_2 := N101_106.out; have hs70 : w65.cell? ⟨g101, 4, none⟩ = some (.int .i64 0) := (qd_ K101.out 4).trans rfl; have hfs70 := ql_ K101.out 4; have hns70_1 := N102_101.out; have hns70_2 := N106_101.out; have hms70_1 := N101_102.out; have hms70_2 := N101_106.out; have hs71 : w65.cell? ⟨g101, 5, none⟩ = some (.int .i64 0) := (qd_ K101.out 5).trans rfl; have hfs71 := ql_ K101.out 5; have hns71_1 := N102_101.out; have hns71_2 := N106_101.out; have hms71_1 := N101_102.out; have hms71_2 := N101_106.out; have hs72 : w65.cell? ⟨g101, 6, none⟩ = some (.string ⟨#[]⟩) := (qd_ K101.out 6).trans rfl; have hfs72 := ql_ K101.out 6; have hns72_1 := N102_101.out; have hns72_2 := N106_101.out; have hms72_1 := N101_102.out; have hms72_2 := N101_106.out; have hs73 : w65.cell? ⟨g101, 7, none⟩ = some (.string ⟨#[]⟩) := (qd_ K101.out 7).trans rfl; have hfs73 := ql_ K101.out 7; have hns73_1 := N102_101.out; have hns73_2 := N106_101.out; have hms73_1 := N101_102.out; have hms73_2 := N101_106.out; have hs74 : w65.cell? ⟨g101, 8, none⟩ = some (.int .i64 0) := (qd_ K101.out 8).trans rfl
     have hfs74 := ql_ K101.out 8; have hns74_1 := N102_101.out; have hns74_2 := N106_101.out; have hms74_1 := N101_102.out; have hms74_2 := N101_106.out; have hs75 : w65.cell? ⟨g101, 9, none⟩ = some (.int .i64 0) := (qd_ K101.out 9).trans rfl; have hfs75 := ql_ K101.out 9; have hns75_1 := N102_101.out; have hns75_2 := N106_101.out; have hms75_1 := N101_102.out; have hms75_2 := N101_106.out; have hs76 : w65.cell? ⟨g101, 10, none⟩ = some (.string ⟨#[]⟩) := (qd_ K101.out 10).trans rfl; have hfs76 := ql_ K101.out 10; have hns76_1 := N102_101.out; have hns76_2 := N106_101.out; have hms76_1 := N101_102.out; have hms76_2 := N101_106.out; refine skip_ (w1 := ?_) (by rfl) rfl ?_ ?_; rotate_left
     ·go_simp
      rfl
     refine hK.out _ _ ⟨((qj_ (p := ⟨g101, _, none⟩) N102_101.out _).trans (((qj_ (p := ⟨g101, _, none⟩) N102_101.out _).trans (((qj_ (p := ⟨g101, _, none⟩) N102_101.out _).trans (((qj_ (p := ⟨g101, _, none⟩) N102_101.out _).trans (((qj_ (p := ⟨g101, _, none⟩) N102_101.out _).trans (((qj_ (p := ⟨g101, _, none⟩) N102_101.out _).trans (((qj_ (p := ⟨g101, _, none⟩) N102_101.out _).trans (((qj_ (p := ⟨g101, _, none⟩) N102_101.out _).trans (((qj_ (p := ⟨g101, _, none⟩) N102_101.out _).trans (((qj_ (p := ⟨g101, _, none⟩) N102_101.out _).trans (((qj_ (p := ⟨g101, _, none⟩) N102_101.out _).trans (qal_.1)))))))))))))))))))))), ((qj_ (p := ⟨g101, _, none⟩) N102_101.out _).trans (((qj_ (p := ⟨g101, _, none⟩) N102_101.out _).trans (((qj_ (p := ⟨g101, _, none⟩) N102_101.out _).trans (((qj_ (p := ⟨g101, _, none⟩) N102_101.out _).trans (((qj_ (p := ⟨g101, _, none⟩) N102_101.out _).trans (((qj_ (p := ⟨g101, _, none⟩) N102_101.out _).trans (((qj_ (p := ⟨g101, _, none⟩) N102_101.out _).trans (((qj_ (p := ⟨g101, _, none⟩) N102_101.out _).trans (((qj_ (p := ⟨g101, _, none⟩) N102_101.out _).trans (((qj_ (p := ⟨g101, _, none⟩) N102_101.out _).trans (((qj_ (p := ⟨g101, _, none⟩) N102_101.out _).trans (qal_.2))))))))))))))))))))))⟩ (fun qal_ => ?_); clear hK K; refine pkn_ 6 3 7 127 ?_; refine done_ (by kernel_rfl) ?_; try go_wp2
     refine bodyPost_ret (qby_ rfl _ _ g101 26 #[.string ⟨#[]⟩, .slice none 0 0, .string ⟨#[]⟩, .string ⟨#[]⟩, .int .i64 0, .int .i64 0, .string ⟨#[]⟩, .string ⟨#[]⟩, .int .i64 0, .int .i64 0, .string ⟨#[]⟩] (0, 0) _ rfl (by have b_ := K101; exact zb_) underlying26 rfl (by kernel_rfl)) rfl ?_; exact ⟨_, z3_, z6_, hs_⟩
mutual
def qu_.j0 : Nat → ByteArray → Int → ByteArray → Int → ByteArray → ByteArray → ByteArray → Int → Int → ByteArray → Option (ByteArray × Int × ByteArray × ByteArray × ByteArray × Int × Int × ByteArray × Int)
 | 0, _, _, _, _, _, _, _, _, _, _ => none
 | k + 1, x103000, x103001, x107000, x107001, x107002, x107003, x107004, x107005, x107006, x107007 => (qba_.f x103000 x103001 ⟨#[116, 97, 103, 32]⟩).bind fun bt113 => ((qay_.f k bt113.2.1 bt113.2.2 ⟨#[116, 97, 103, 103, 101, 114, 32]⟩).bind fun bt116 => ((qba_.f bt116.2.2.2.2.1 bt116.2.2.2.2.2 ⟨#[]⟩).bind fun bt122 => (if bt122.1.toList = ([] : List UInt8) then (qu_.j1 k bt122.2.1 bt122.2.2 x107000 x107001 bt113.1 bt116.1 bt116.2.1 bt116.2.2.1 bt116.2.2.2.1 x107007) else ((qbg_.f bt122.2.1 bt122.2.2 2).bind fun bt125 => (qu_.j1 k bt125.1 bt125.2 x107000 x107001 bt113.1 bt116.1 bt116.2.1 bt116.2.2.1 bt116.2.2.2.1 x107007)))))
def qu_.j1 : Nat → ByteArray → Int → ByteArray → Int → ByteArray → ByteArray → ByteArray → Int → Int → ByteArray → Option (ByteArray × Int × ByteArray × ByteArray × ByteArray × Int × Int × ByteArray × Int)
 | 0, _, _, _, _, _, _, _, _, _, _ => none
 | k + 1, x103000, x103001, x107000, x107001, x107002, x107003, x107004, x107005, x107006, x107007 => if x103001 = 0 then ((qak_.f k x107000 x107001 x107002 x107003 x107004 x107005 x107006 x103000).bind fun t127 => (if t127 = 0 then (some (x107000, x107001, x107002, x107003, x107004, x107005, x107006, x103000, 0)) else (some ((⟨#[]⟩ : ByteArray), 0, (⟨#[]⟩ : ByteArray), (⟨#[]⟩ : ByteArray), (⟨#[]⟩ : ByteArray), 0, 0, (⟨#[]⟩ : ByteArray), t127)))) else (some ((⟨#[]⟩ : ByteArray), 0, (⟨#[]⟩ : ByteArray), (⟨#[]⟩ : ByteArray), (⟨#[]⟩ : ByteArray), 0, 0, (⟨#[]⟩ : ByteArray), x103001))
end
def qu_.f (k : Nat) (a0 : ByteArray) : Option (ByteArray × Int × ByteArray × ByteArray × ByteArray × Int × Int × ByteArray × Int) := (qbf_.f k a0 0 ⟨#[111, 98, 106, 101, 99, 116, 32]⟩).bind fun bt103 => ((qba_.f bt103.2.1 bt103.2.2 ⟨#[116, 121, 112, 101, 32]⟩).bind fun bt107 => ((qet_.f bt107.1).bind fun t110 => (if t110 = 0 then ((qbg_.f bt107.2.1 bt107.2.2 2).bind fun bt111 => (qu_.j0 k bt111.1 bt111.2 bt103.1 t110 ⟨#[]⟩ ⟨#[]⟩ ⟨#[]⟩ 0 0 ⟨#[]⟩)) else (qu_.j0 k bt107.2.1 bt107.2.2 bt103.1 t110 ⟨#[]⟩ ⟨#[]⟩ ⟨#[]⟩ 0 0 ⟨#[]⟩))))
theorem qu_.mono_l : ∀ k, (∀ y0 y1 y2 y3 y4 y5 y6 y7 y8 y9, LeO (qu_.j0 k y0 y1 y2 y3 y4 y5 y6 y7 y8 y9) (qu_.j0 (k + 1) y0 y1 y2 y3 y4 y5 y6 y7 y8 y9)) ∧ (∀ y0 y1 y2 y3 y4 y5 y6 y7 y8 y9, LeO (qu_.j1 k y0 y1 y2 y3 y4 y5 y6 y7 y8 y9) (qu_.j1 (k + 1) y0 y1 y2 y3 y4 y5 y6 y7 y8 y9))
 | 0 => ⟨fun _ _ _ _ _ _ _ _ _ _ r h => by simp [qu_.j0] at h, fun _ _ _ _ _ _ _ _ _ _ r h => by simp [qu_.j1] at h⟩
 | k + 1 => by
  obtain ⟨ih0, ih1⟩ := qu_.mono_l k
  refine ⟨?_, ?_⟩
  ·intro y0 y1 y2 y3 y4 y5 y6 y7 y8 y9
   unfold qu_.j0
   have m0_ := @ih0
   have m1_ := @ih1
   have m2_ := @qak_.mono
   have m3_ := @qbf_.mono
   have m4_ := @qay_.mono
   exact mz_
  ·intro y0 y1 y2 y3 y4 y5 y6 y7 y8 y9
   unfold qu_.j1
   have m0_ := @ih0
   have m1_ := @ih1
   have m2_ := @qak_.mono
   have m3_ := @qbf_.mono
   have m4_ := @qay_.mono
   exact mz_
theorem qu_.mono : ∀ a0 k, LeO (qu_.f k a0) (qu_.f (k + 1) a0) := by
 intro a0 k; obtain ⟨ih0, ih1⟩ := qu_.mono_l k; unfold qu_.f; have m0_ := @ih0; have m1_ := @ih1; have m2_ := @qak_.mono; have m3_ := @qbf_.mono; have m4_ := @qay_.mono; exact mz_
theorem qu_.calls (k : Nat) (a0 : ByteArray) (r1 : ByteArray) (r2 : Int) (r3 : ByteArray) (r4 : ByteArray) (r5 : ByteArray) (r6 : Int) (r7 : Int) (r8 : ByteArray) (r9 : Int) (w : World) (hgv : GV w) (h : qu_.f k a0 = some (r1, r2, r3, r4, r5, r6, r7, r8, r9)) :
  Calls Tryz.prog 23 #[.string a0] w fun e w' => e = .returned (.tuple #[.agg #[.string r1, .int .i64 r2, .string r3, .string r4, .string r5, .int .i64 r6, .int .i64 r7, .string r8], .int .i64 r9]) ∧ Below w.heap.size w w' := by
 have hu37 := underlying37; have hu87 := underlying87; have hu24 := underlying24; have HB := qa_.mk (Below.refl w.heap.size w); unfold qu_.f at h; have H := h; clear h; obtain ⟨⟨t103, t104, t105⟩, A2, H⟩ := bx_ H; dsimp only at H; obtain ⟨⟨t107, t108, t109⟩, A3, H⟩ := bx_ H; dsimp only at H; obtain ⟨t110, A4, H⟩ := bx_ H; have HC5 := qa_.mk H; clear H; go_enter func23, ntmps23; go_upto_if 18 with (first | ((with_reducible refine qk_ (N := 2) rfl ?_); refine be_ (cs := #[.string ⟨#[]⟩, .int .i64 0, .string ⟨#[]⟩, .string ⟨#[]⟩, .string ⟨#[]⟩, .int .i64 0, .int .i64 0, .string ⟨#[]⟩]) (t := 37) ?_; intro g101 hg w6 hbox hb; have K101 := qa_.mk (hbox); have W101 := ag_ hg HB; have E101 := ag_ hg HB; replace HB := ah_ HB hb; clear hb hbox hg) | ((with_reducible refine qk_ (N := 8) rfl ?_); refine be_ (cs := #[.string a0, .int .i64 0]) (t := 87) ?_; intro g102 hg w7 hbox hb; have K102 := qa_.mk (hbox); have W102 := qa_.mk ((by rw [hg]; exact (qn_ (hs_)) : w.heap.size ≤ g102)); have E102 := qa_.mk ((by rw [hg]; exact (qn_ (hs_)) : w.heap.size ≤ g102)); replace HB := qa_.mk (qc_ (hs_) hb); have N101_102 := qa_.mk (nl2_ hg K101.out); have N102_101 := qa_.mk (ng2_ hg K101.out); replace K101 := ab_ K101 hb; clear hb hbox hg) | ((with_reducible refine qb_ (f := 70) rfl ?_); refine gl_ (some 10) func70 #[.pointer (some ⟨g102, 0, none⟩), .string ⟨#[111, 98, 106, 101, 99, 116, 32]⟩] ?_; (with_reducible refine (qbf_.calls k g102 a0 0 ⟨#[111, 98, 106, 101, 99, 116, 32]⟩ t103 t104 t105 w _ ?side1 ?side2 ?side3 A2.out).mono ?_); (case side1 => exact (show IsS87 w _ g102 a0 0 from ⟨(bk_ K102.out), E102.out⟩)); (case side2 => repeat (first | (with_reducible first | exact HB.out | apply qap_ | apply qar_ | apply qbh_ | refine qt_ ?_ (IsS87.ge HI102.out) | refine qt_ ?_ E101.out) | exact HB.out)); (case side3 => exact hgv); rintro e w8 ⟨rfl, hi, hb, hk⟩; refine ⟨_, rfl, ?_⟩; replace K101 := qa_.mk (qad_.blk hk (g' := g101) (o := .cells #[.string ⟨#[]⟩, .int .i64 0, .string ⟨#[]⟩, .string ⟨#[]⟩, .string ⟨#[]⟩, .int .i64 0, .int .i64 0, .string ⟨#[]⟩] 37 (0, 0)) (bk_ K101.out) N101_102.out (by simp)); replace HB := qa_.mk (hb); replace K102 := qa_.mk (hi.1); (try clear hb); (try clear hb2); (try clear hk); (try clear hi)) | ((with_reducible refine qk_ (N := 5) rfl ?_); refine be_ (cs := #[.string ⟨#[]⟩, .int .i64 0, .string ⟨#[]⟩, .string ⟨#[]⟩, .string ⟨#[]⟩, .int .i64 0, .int .i64 0, .string ⟨#[]⟩]) (t := 37) ?_; intro g106 hg w9 hbox hb; have K106 := qa_.mk (hbox); have W106 := qa_.mk ((by rw [hg]; exact (qn_ (hs_)) : w.heap.size ≤ g106)); have E106 := qa_.mk ((by rw [hg]; exact (qn_ (hs_)) : w.heap.size ≤ g106)); replace HB := qa_.mk (qc_ (hs_) hb); have N101_106 := qa_.mk (nl2_ hg K101.out); have N106_101 := qa_.mk (ng2_ hg K101.out); replace K101 := ab_ K101 hb; have N102_106 := qa_.mk (nl2_ hg K102.out); have N106_102 := qa_.mk (ng2_ hg K102.out); replace K102 := ab_ K102 hb; clear hb hbox hg; have hnb10 := N106_101.out; have hnc10 := N101_106.out; have hnb11 := N106_102.out; have hnc11 := N102_106.out; obtain ⟨Z12_0, Z12_1, Z12_2, Z12_3, Z12_4, Z12_5, Z12_6, Z12_7, F12⟩ := bc8 K106.out) | ((with_reducible refine qb_ (f := 73) rfl ?_); refine gl_ (some 13) func73 #[.pointer (some ⟨g102, 0, none⟩), .string ⟨#[116, 121, 112, 101, 32]⟩] ?_; (with_reducible refine (qba_.calls g102 t104 t105 ⟨#[116, 121, 112, 101, 32]⟩ t107 t108 t109 w _ ?side1 ?side2 ?side3 A3.out).mono ?_); (case side1 => exact (show IsS87 w _ g102 t104 t105 from ⟨(by have b_ := K102; have f_ := N102_106; exact zb_), E102.out⟩)); (case side2 => repeat (first | (with_reducible first | exact HB.out | apply qap_ | apply qar_ | apply qbh_ | refine qt_ ?_ (IsS87.ge HI102.out) | refine qt_ ?_ E101.out | refine qt_ ?_ E106.out) | exact HB.out)); (case side3 => exact hgv); rintro e w13 ⟨rfl, hi, hb, hk⟩; refine ⟨_, rfl, ?_⟩; replace K101 := qa_.mk (qad_.blk hk (g' := g101) (o := .cells #[.string ⟨#[]⟩, .int .i64 0, .string ⟨#[]⟩, .string ⟨#[]⟩, .string ⟨#[]⟩, .int .i64 0, .int .i64 0, .string ⟨#[]⟩] 37 (0, 0)) (by have b_ := K101; have f_ := N101_106; exact zb_) N101_102.out (by simp)); replace K106 := qa_.mk (qad_.blk hk (g' := g106) (o := .cells #[.string t103, .int .i64 0, .string ⟨#[]⟩, .string ⟨#[]⟩, .string ⟨#[]⟩, .int .i64 0, .int .i64 0, .string ⟨#[]⟩] 37 (0, 0)) (by have b_ := K106; exact zb_) N106_102.out (by simp)); replace HB := qa_.mk (hb); replace K102 := qa_.mk (hi.1); (try clear hb); (try clear hb2); (try clear hk); (try clear hi)) | ((with_reducible refine qb_ (f := 77) rfl ?_); refine gl_ (some 14) func77 #[.string t107] ?_; refine cm_ (qet_.calls t107 t110 _ A4.out) fun w14 hb => ?_; replace K101 := ab_ K101 hb; replace K102 := ab_ K102 hb; replace K106 := ab_ K106 hb; replace HB := qa_.mk (qc_ (hs_) hb); (try clear hb); (try clear hb2); (try clear hk); (try clear hi); obtain ⟨Z15_0, Z15_1, Z15_2, Z15_3, Z15_4, Z15_5, Z15_6, Z15_7, F15⟩ := bc8 K106.out))
 (try simp only [Act.put, List.setIfInBounds_toArray, List.set_cons_zero, List.set_cons_succ])
 go_cut [] (fun wc => ∃ (kq : Nat) (x103000_4 : ByteArray) (x103001_4 : Int), qa_ (qu_.j0 kq x103000_4 x103001_4 t103 t110 ⟨#[]⟩ ⟨#[]⟩ ⟨#[]⟩ 0 0 ⟨#[]⟩ = some (r1, r2, r3, r4, r5, r6, r7, r8, r9)) ∧ qa_ (kq ≤ k) ∧ qa_ (wc.heap[g101]? = some (.cells #[.string ⟨#[]⟩, .int .i64 0, .string ⟨#[]⟩, .string ⟨#[]⟩, .string ⟨#[]⟩, .int .i64 0, .int .i64 0, .string ⟨#[]⟩] 37 (0, 0))) ∧ qa_ (wc.heap[g102]? = some (.cells #[.string x103000_4, .int .i64 x103001_4] 87 (0, 0))) ∧ qa_ (wc.heap[g106]? = some (.cells #[.string t103, .int .i64 t110, .string ⟨#[]⟩, .string ⟨#[]⟩, .string ⟨#[]⟩, .int .i64 0, .int .i64 0, .string ⟨#[]⟩] 37 (0, 0))) ∧ qa_ (Below w.heap.size w wc))
 case first =>
  have H := HC5.out; clear HC5; by_cases c16 : t110 = 0; rotate_left
  ·rw [if_neg c16] at H; have c16b0 := ef_ c16; have c16b1 := nt_ c16; (first | rw [c16b0] | (simp only [i64_w, i32_w]; rw [c16b0]) | skip); (try rw [c16b8])
   have H' := qa_.mk H; clear H; go_wp2
   go_meet
   case rel => exact ⟨_, (t108), (t109), H', ⟨z4_⟩, ⟨by have b_ := K101; have f_ := N101_106; exact zb_⟩, ⟨by have b_ := K102; have f_ := N102_106; exact zb_⟩, ⟨by have b_ := K106; exact zb_⟩, ⟨hs_⟩⟩
  rw [if_pos c16] at H; have c16b0 := et_ c16; have c16b1 := nf_ c16; clear c16; (first | rw [c16b0] | (simp only [i64_w, i32_w]; rw [c16b0]) | skip); (try rw [c16b8])
  obtain ⟨⟨t111, t112⟩, A17, H⟩ := bx_ H; dsimp only at H; have H' := qa_.mk H; clear H; go_wp2_with (first | ((with_reducible refine qb_ (f := 74) rfl ?_); refine gl_ (some 20) func74 #[.pointer (some ⟨g102, 0, none⟩), .int .i64 2] ?_; (with_reducible refine (qbg_.calls g102 t108 t109 2 t111 t112 w _ ?side1 ?side2 A17.out).mono ?_); (case side1 => exact (show IsS87 w _ g102 t108 t109 from ⟨(by have b_ := K102; have f_ := N102_106; exact zb_), E102.out⟩)); (case side2 => repeat (first | (with_reducible first | exact HB.out | apply qap_ | apply qar_ | apply qbh_ | refine qt_ ?_ (IsS87.ge HI102.out) | refine qt_ ?_ E101.out | refine qt_ ?_ E106.out) | exact HB.out)); rintro e w18 ⟨rfl, hi, hb, hk⟩; refine ⟨_, rfl, ?_⟩; replace K101 := qa_.mk (qad_.blk hk (g' := g101) (o := .cells #[.string ⟨#[]⟩, .int .i64 0, .string ⟨#[]⟩, .string ⟨#[]⟩, .string ⟨#[]⟩, .int .i64 0, .int .i64 0, .string ⟨#[]⟩] 37 (0, 0)) (by have b_ := K101; have f_ := N101_106; exact zb_) N101_102.out (by simp)); replace K106 := qa_.mk (qad_.blk hk (g' := g106) (o := .cells #[.string t103, .int .i64 t110, .string ⟨#[]⟩, .string ⟨#[]⟩, .string ⟨#[]⟩, .int .i64 0, .int .i64 0, .string ⟨#[]⟩] 37 (0, 0)) (by have b_ := K106; exact zb_) N106_102.out (by simp)); replace HB := qa_.mk (hb); replace K102 := qa_.mk (hi.1); (try clear hb); (try clear hb2); (try clear hk); (try clear hi)))
  go_meet
  case rel => exact ⟨_, (t111), (t112), H', ⟨z4_⟩, ⟨bk_ K101.out⟩, ⟨bk_ K102.out⟩, ⟨bk_ K106.out⟩, ⟨hs_⟩⟩
 case rest =>
  clear HC5; try clear c1
  try clear c2
  try clear p2
  try clear c7
  try clear c10
  try clear c11
  try clear c16
  try clear c16b0
  try clear c16b1
  try clear Z12_0 Z12_1 Z12_2 Z12_3 Z12_4 Z12_5 Z12_6 Z12_7
  try clear Z15_0 Z15_1 Z15_2 Z15_3 Z15_4 Z15_5 Z15_6 Z15_7
  try clear F12
  try clear F15
  obtain ⟨kq, x103000_4, x103001_4, HA, HJ4, K101, K102, K106, HB⟩ := hcut
  cases kq with
  | zero => exact absurd HA.out (by simp [qu_.j0])
  | succ kj4 =>
   have H := HA.out; clear HA; simp only [qu_.j0] at H; obtain ⟨⟨t113, t114, t115⟩, A19, H⟩ := bx_ H; dsimp only at H; obtain ⟨⟨t116, t117, t118, t119, t120, t121⟩, A20, H⟩ := bx_ H; dsimp only at H; obtain ⟨⟨t122, t123, t124⟩, A21, H⟩ := bx_ H; dsimp only at H; have HC22 := qa_.mk H; clear H; go_upto_if 29 with (first | ((with_reducible refine qb_ (f := 73) rfl ?_); refine gl_ (some 22) func73 #[.pointer (some ⟨g102, 0, none⟩), .string ⟨#[116, 97, 103, 32]⟩] ?_; (with_reducible refine (qba_.calls g102 x103000_4 x103001_4 ⟨#[116, 97, 103, 32]⟩ t113 t114 t115 w _ ?side1 ?side2 ?side3 A19.out).mono ?_); (case side1 => exact (show IsS87 w _ g102 x103000_4 x103001_4 from ⟨(bk_ K102.out), E102.out⟩)); (case side2 => repeat (first | (with_reducible first | exact HB.out | apply qap_ | apply qar_ | apply qbh_ | refine qt_ ?_ (IsS87.ge HI102.out) | refine qt_ ?_ E101.out | refine qt_ ?_ E106.out) | exact HB.out)); (case side3 => exact hgv); rintro e w23 ⟨rfl, hi, hb, hk⟩; refine ⟨_, rfl, ?_⟩; replace K101 := qa_.mk (qad_.blk hk (g' := g101) (o := .cells #[.string ⟨#[]⟩, .int .i64 0, .string ⟨#[]⟩, .string ⟨#[]⟩, .string ⟨#[]⟩, .int .i64 0, .int .i64 0, .string ⟨#[]⟩] 37 (0, 0)) (bk_ K101.out) N101_102.out (by simp)); replace K106 := qa_.mk (qad_.blk hk (g' := g106) (o := .cells #[.string t103, .int .i64 t110, .string ⟨#[]⟩, .string ⟨#[]⟩, .string ⟨#[]⟩, .int .i64 0, .int .i64 0, .string ⟨#[]⟩] 37 (0, 0)) (bk_ K106.out) N106_102.out (by simp)); replace HB := qa_.mk (hb); replace K102 := qa_.mk (hi.1); (try clear hb); (try clear hb2); (try clear hk); (try clear hi); have hnb24 := N106_101.out; have hnc24 := N101_106.out; have hnb25 := N106_102.out; have hnc25 := N102_106.out; obtain ⟨Z26_0, Z26_1, Z26_2, Z26_3, Z26_4, Z26_5, Z26_6, Z26_7, F26⟩ := bc8 K106.out) | ((with_reducible refine qb_ (f := 72) rfl ?_); refine gl_ (some 25) func72 #[.pointer (some ⟨g102, 0, none⟩), .string ⟨#[116, 97, 103, 103, 101, 114, 32]⟩] ?_; (with_reducible refine (qay_.calls kj4 g102 t114 t115 ⟨#[116, 97, 103, 103, 101, 114, 32]⟩ t116 t117 t118 t119 t120 t121 w _ ?side1 ?side2 ?side3 A20.out).mono ?_); (case side1 => exact (show IsS87 w _ g102 t114 t115 from ⟨(by have b_ := K102; have f_ := N102_106; exact zb_), E102.out⟩)); (case side2 => repeat (first | (with_reducible first | exact HB.out | apply qap_ | apply qar_ | apply qbh_ | refine qt_ ?_ (IsS87.ge HI102.out) | refine qt_ ?_ E101.out | refine qt_ ?_ E106.out) | exact HB.out)); (case side3 => exact hgv); rintro e w27 ⟨rfl, hi, hb, hk⟩; refine ⟨_, rfl, ?_⟩; replace K101 := qa_.mk (qad_.blk hk (g' := g101) (o := .cells #[.string ⟨#[]⟩, .int .i64 0, .string ⟨#[]⟩, .string ⟨#[]⟩, .string ⟨#[]⟩, .int .i64 0, .int .i64 0, .string ⟨#[]⟩] 37 (0, 0)) (by have b_ := K101; have f_ := N101_106; exact zb_) N101_102.out (by simp)); replace K106 := qa_.mk (qad_.blk hk (g' := g106) (o := .cells #[.string t103, .int .i64 t110, .string t113, .string ⟨#[]⟩, .string ⟨#[]⟩, .int .i64 0, .int .i64 0, .string ⟨#[]⟩] 37 (0, 0)) (by have b_ := K106; exact zb_) N106_102.out (by simp)); replace HB := qa_.mk (hb); replace K102 := qa_.mk (hi.1); (try clear hb); (try clear hb2); (try clear hk); (try clear hi); obtain ⟨Z28_0, Z28_1, Z28_2, Z28_3, Z28_4, Z28_5, Z28_6, Z28_7, F28⟩ := bc8 K106.out) | ((with_reducible refine qb_ (f := 73) rfl ?_); refine gl_ (some 28) func73 #[.pointer (some ⟨g102, 0, none⟩), .string ⟨#[]⟩] ?_; (with_reducible refine (qba_.calls g102 t120 t121 ⟨#[]⟩ t122 t123 t124 w _ ?side1 ?side2 ?side3 A21.out).mono ?_); (case side1 => exact (show IsS87 w _ g102 t120 t121 from ⟨(by have b_ := K102; have f_ := N102_106; exact zb_), E102.out⟩)); (case side2 => repeat (first | (with_reducible first | exact HB.out | apply qap_ | apply qar_ | apply qbh_ | refine qt_ ?_ (IsS87.ge HI102.out) | refine qt_ ?_ E101.out | refine qt_ ?_ E106.out) | exact HB.out)); (case side3 => exact hgv); rintro e w29 ⟨rfl, hi, hb, hk⟩; refine ⟨_, rfl, ?_⟩; replace K101 := qa_.mk (qad_.blk hk (g' := g101) (o := .cells #[.string ⟨#[]⟩, .int .i64 0, .string ⟨#[]⟩, .string ⟨#[]⟩, .string ⟨#[]⟩, .int .i64 0, .int .i64 0, .string ⟨#[]⟩] 37 (0, 0)) (by have b_ := K101; have f_ := N101_106; exact zb_) N101_102.out (by simp)); replace K106 := qa_.mk (qad_.blk hk (g' := g106) (o := .cells #[.string t103, .int .i64 t110, .string t113, .string t116, .string t117, .int .i64 t118, .int .i64 t119, .string ⟨#[]⟩] 37 (0, 0)) (by have b_ := K106; exact zb_) N106_102.out (by simp)); replace HB := qa_.mk (hb); replace K102 := qa_.mk (hi.1); (try clear hb); (try clear hb2); (try clear hk); (try clear hi)))
   (try simp only [Act.put, List.setIfInBounds_toArray, List.set_cons_zero, List.set_cons_succ])
   go_cut [] (fun wc => ∃ (kq : Nat) (x103000_21 : ByteArray) (x103001_21 : Int), qa_ (qu_.j1 kq x103000_21 x103001_21 t103 t110 t113 t116 t117 t118 t119 ⟨#[]⟩ = some (r1, r2, r3, r4, r5, r6, r7, r8, r9)) ∧ qa_ (kq ≤ kj4) ∧ qa_ (wc.heap[g101]? = some (.cells #[.string ⟨#[]⟩, .int .i64 0, .string ⟨#[]⟩, .string ⟨#[]⟩, .string ⟨#[]⟩, .int .i64 0, .int .i64 0, .string ⟨#[]⟩] 37 (0, 0))) ∧ qa_ (wc.heap[g102]? = some (.cells #[.string x103000_21, .int .i64 x103001_21] 87 (0, 0))) ∧ qa_ (wc.heap[g106]? = some (.cells #[.string t103, .int .i64 t110, .string t113, .string t116, .string t117, .int .i64 t118, .int .i64 t119, .string ⟨#[]⟩] 37 (0, 0))) ∧ qa_ (Below w.heap.size w wc))
   case first =>
    have H := HC22.out; clear HC22; by_cases c30 : t122.toList = ([] : List UInt8)
    ·rw [if_pos c30] at H; have c30b0 := et_ c30; have c30b1 := nf_ c30; (try (have c30b8 : (!t122.toList.isEmpty) = false := (by have h_ := c30b1; rw [qbq_] at h_; exact h_))); (try (have c30b9 : t122.toList.isEmpty = true := (by have h_ := c30b1; rw [qbq_] at h_; simpa using h_)))
     clear c30; (first | rw [c30b0] | (simp only [i64_w, i32_w]; rw [c30b0]) | skip); (try rw [c30b8])
     have H' := qa_.mk H; clear H; go_wp2
     go_meet
     case rel => exact ⟨_, (t123), (t124), H', ⟨by have := HJ4.out; first | omega | exact Nat.le_refl _⟩, ⟨bk_ K101.out⟩, ⟨bk_ K102.out⟩, ⟨bk_ K106.out⟩, ⟨hs_⟩⟩
    rw [if_neg c30] at H; have c30b0 := ef_ c30; have c30b1 := nt_ c30; (try (have c30b8 : (!t122.toList.isEmpty) = true := (by have h_ := c30b1; rw [qbq_] at h_; exact h_))); (try (have c30b9 : t122.toList.isEmpty = false := (by have h_ := c30b1; rw [qbq_] at h_; simpa using h_)))
    (first | rw [c30b0] | (simp only [i64_w, i32_w]; rw [c30b0]) | skip)
    (try rw [c30b8])
    obtain ⟨⟨t125, t126⟩, A31, H⟩ := bx_ H; dsimp only at H; have H' := qa_.mk H; clear H; go_wp2_with (first | ((with_reducible refine qb_ (f := 74) rfl ?_); refine gl_ (some 31) func74 #[.pointer (some ⟨g102, 0, none⟩), .int .i64 2] ?_; (with_reducible refine (qbg_.calls g102 t123 t124 2 t125 t126 w _ ?side1 ?side2 A31.out).mono ?_); (case side1 => exact (show IsS87 w _ g102 t123 t124 from ⟨(bk_ K102.out), E102.out⟩)); (case side2 => repeat (first | (with_reducible first | exact HB.out | apply qap_ | apply qar_ | apply qbh_ | refine qt_ ?_ (IsS87.ge HI102.out) | refine qt_ ?_ E101.out | refine qt_ ?_ E106.out) | exact HB.out)); rintro e w32 ⟨rfl, hi, hb, hk⟩; refine ⟨_, rfl, ?_⟩; replace K101 := qa_.mk (qad_.blk hk (g' := g101) (o := .cells #[.string ⟨#[]⟩, .int .i64 0, .string ⟨#[]⟩, .string ⟨#[]⟩, .string ⟨#[]⟩, .int .i64 0, .int .i64 0, .string ⟨#[]⟩] 37 (0, 0)) (bk_ K101.out) N101_102.out (by simp)); replace K106 := qa_.mk (qad_.blk hk (g' := g106) (o := .cells #[.string t103, .int .i64 t110, .string t113, .string t116, .string t117, .int .i64 t118, .int .i64 t119, .string ⟨#[]⟩] 37 (0, 0)) (bk_ K106.out) N106_102.out (by simp)); replace HB := qa_.mk (hb); replace K102 := qa_.mk (hi.1); (try clear hb); (try clear hb2); (try clear hk); (try clear hi)))
    go_meet
    case rel => exact ⟨_, (t125), (t126), H', ⟨by have := HJ4.out; first | omega | exact Nat.le_refl _⟩, ⟨bk_ K101.out⟩, ⟨bk_ K102.out⟩, ⟨bk_ K106.out⟩, ⟨hs_⟩⟩
   case rest =>
    clear HC22; try clear c1
    try clear c2
    try clear p2
    try clear c3
    try clear c7
    try clear c10
    try clear c11
    try clear c16
    try clear c16b0
    try clear c16b1
    try clear c23
    try clear c24
    try clear c25
    try clear c30
    try clear c30b0
    try clear c30b1
    try clear Z12_0 Z12_1 Z12_2 Z12_3 Z12_4 Z12_5 Z12_6 Z12_7
    try clear Z15_0 Z15_1 Z15_2 Z15_3 Z15_4 Z15_5 Z15_6 Z15_7
    try clear Z26_0 Z26_1 Z26_2 Z26_3 Z26_4 Z26_5 Z26_6 Z26_7
    try clear Z28_0 Z28_1 Z28_2 Z28_3 Z28_4 Z28_5 Z28_6 Z28_7
    try clear F12
    try clear F15
    try clear F26
    try clear F28
    try clear p2
    obtain ⟨kq, x103000_21, x103001_21, HA, HJ21, K101, K102, K106, HB⟩ := hcut
    cases kq with
    | zero => exact absurd HA.out (by simp [qu_.j1])
    | succ kj21 =>
     have H := HA.out; clear HA; simp only [qu_.j1] at H; by_cases c33 : x103001_21 = 0; rotate_left
     ·rw [if_neg c33] at H; have c33b0 := ef_ c33; have c33b1 := nt_ c33; obtain ⟨rfl, rfl, rfl, rfl, rfl, rfl, rfl, rfl, rfl⟩ := pj9_ H; have hnb62 := N102_101.out; have hnc62 := N101_102.out; have hnb63 := N102_106.out; have hnc63 := N106_102.out; obtain ⟨Z64_0, Z64_1, F64⟩ := bc2 K102.out; have hnb65 := N106_101.out; have hnc65 := N101_106.out; obtain ⟨Z66_0, Z66_1, Z66_2, Z66_3, Z66_4, Z66_5, Z66_6, Z66_7, F66⟩ := bc8 K106.out; try go_wp2
      have n0_ : qa_ ((wc.setCell ⟨g106, 7, none⟩ (.string x103000_21)).heap[g101]? = some (.cells #[.string ⟨#[]⟩, .int .i64 0, .string ⟨#[]⟩, .string ⟨#[]⟩, .string ⟨#[]⟩, .int .i64 0, .int .i64 0, .string ⟨#[]⟩] 37 (0, 0))) := ⟨by have b_ := K101; have f_ := N101_106; exact zb_⟩; have n1_ : qa_ ((wc.setCell ⟨g106, 7, none⟩ (.string x103000_21)).heap[g102]? = some (.cells #[.string x103000_21, .int .i64 x103001_21] 87 (0, 0))) := ⟨by have b_ := K102; have f_ := N102_106; exact zb_⟩; have n2_ : qa_ ((wc.setCell ⟨g106, 7, none⟩ (.string x103000_21)).heap[g106]? = some (.cells #[.string t103, .int .i64 t110, .string t113, .string t116, .string t117, .int .i64 t118, .int .i64 t119, .string x103000_21] 37 (0, 0))) := ⟨by have b_ := K106; exact zb_⟩; have n3_ : qa_ (Below w.heap.size w (wc.setCell ⟨g106, 7, none⟩ (.string x103000_21))) := ⟨hs_⟩; (try clear K101)
      (try clear K102)
      (try clear K106)
      (try clear HB)
      generalize (wc.setCell ⟨g106, 7, none⟩ (.string x103000_21)) = w67 at n0_ n1_ n2_ n3_ ⊢; have K101 := n0_; have K102 := n1_; have K106 := n2_; have HB := n3_; clear n0_ n1_ n2_ n3_; replace K101 := ad_ K101; replace K102 := ad_ K102; replace K106 := ad_ K106; replace HB := hd_ HB; refine qdl_ (n := 7) (S := fun w' => w'.cell? ⟨g102, 0, none⟩ = some (.string x103000_21) ∧ w'.cell? ⟨g102, 1, none⟩ = some (.int .i64 x103001_21)) (ds := []) (bs 7 0) (by kernel_rfl) rfl rfl (bc2o K102.out) (fun qal_ => ?_); generalize w67.drew = w68 at K101 K102 K106 HB qal_ ⊢; refine pkn_ 0 52 7 1 ?_; refine pkn_ 1 53 7 3 ?_; refine pkn_ 2 54 7 7 ?_; refine pkn_ 3 55 7 15 ?_; refine tkK2n_ 4 56 7 31 qal_ ?_; refine one_ (i := 5) (N := none) (bs 7 63) rfl rfl (by kernel_rfl) (by decide) (fun K hK => ?_); have hs69 : w68.cell? ⟨g101, 0, none⟩ = some (.string ⟨#[]⟩) := (qd_ K101.out 0).trans rfl; have hfs69 := ql_ K101.out 0; have hns69_1 := N102_101.out; have hns69_2 := N106_101.out; have hms69_1 := N101_102.out; have hms69_2 := N101_106.out; have hs70 : w68.cell? ⟨g101, 1, none⟩ = some (.int .i64 0) := (qd_ K101.out 1).trans rfl; have hfs70 := ql_ K101.out 1; have hns70_1 := N102_101.out; have hns70_2 := N106_101.out; have hms70_1 := N101_102.out; have hms70_2 := N101_106.out; have hs71 : w68.cell? ⟨g101, 2, none⟩ = some (.string ⟨#[]⟩) := (qd_ K101.out 2).trans rfl; have hfs71 := ql_ K101.out 2; have hns71_1 := N102_101.out; have hns71_2 := N106_101.out; have hms71_1 := N101_102.out; have hms71_2 := N101_106.out; have hs72 : w68.cell? ⟨g101, 3, none⟩ = some (.string ⟨#[]⟩) := (qd_ K101.out 3).trans rfl; have hfs72 := ql_ K101.out 3; have hns72_1 := N102_101.out; have hns72_2 := N106_101.out; have hms72_1 := N101_102.out; have hms72_2 := N101_106.out; have hs73 : w68.cell? ⟨g101, 4, none⟩ = some (.string ⟨#[]⟩) := (qd_ K101.out 4).trans rfl; have hfs73 := ql_ K101.out 4; have hns73_1 := N102_101.out; have hns73_2 := N106_101.out; have hms73_1 := N101_102.out; have hms73_2 := N101_106.out; have hs74 : w68.cell? ⟨g101, 5, none⟩ = some (.int .i64 0) := (qd_ K101.out 5).trans rfl; have hfs74 := ql_ K101.out 5; have hns74_1 := N102_101.out; have hns74_2 := N106_101.out; have hms74_1 := N101_102.out; have hms74_2 := N101_106.out; have hs75 : w68.cell? ⟨g101, 6, none⟩ = some (.int .i64 0) := (qd_ K101.out 6).trans rfl; have hfs75 := ql_ K101.out 6; have hns75_1 := N102_101.out; have hns75_2 := N106_101.out; have hms75_1 := N101_102.out; have hms75_2 := N101_106.out; have hs76 : w68.cell? ⟨g101, 7, none⟩ = some (.string ⟨#[]⟩) := (qd_ K101.out 7).trans rfl; have hfs76 := ql_ K101.out 7; have hns76_1 := N102_101.out; have hns76_2 := N106_101.out; have hms76_1 := N101_102.out; have hms76_2 := N101_106.out; refine skip_ (w1 := ?_) (by rfl) rfl ?_ ?_; rotate_left
      ·go_simp
       rfl
      refine hK.out _ _ ⟨((qj_ (p := ⟨g101, _, none⟩) N102_101.out _).trans (((qj_ (p := ⟨g101, _, none⟩) N102_101.out _).trans (((qj_ (p := ⟨g101, _, none⟩) N102_101.out _).trans (((qj_ (p := ⟨g101, _, none⟩) N102_101.out _).trans (((qj_ (p := ⟨g101, _, none⟩) N102_101.out _).trans (((qj_ (p := ⟨g101, _, none⟩) N102_101.out _).trans (((qj_ (p := ⟨g101, _, none⟩) N102_101.out _).trans (((qj_ (p := ⟨g101, _, none⟩) N102_101.out _).trans (qal_.1)))))))))))))))), ((qj_ (p := ⟨g101, _, none⟩) N102_101.out _).trans (((qj_ (p := ⟨g101, _, none⟩) N102_101.out _).trans (((qj_ (p := ⟨g101, _, none⟩) N102_101.out _).trans (((qj_ (p := ⟨g101, _, none⟩) N102_101.out _).trans (((qj_ (p := ⟨g101, _, none⟩) N102_101.out _).trans (((qj_ (p := ⟨g101, _, none⟩) N102_101.out _).trans (((qj_ (p := ⟨g101, _, none⟩) N102_101.out _).trans (((qj_ (p := ⟨g101, _, none⟩) N102_101.out _).trans (qal_.2))))))))))))))))⟩ (fun qal_ => ?_); clear hK K; refine pkn_ 6 3 7 127 ?_; refine done_ (by kernel_rfl) ?_; try go_wp2
      refine bodyPost_ret (qby_ rfl _ _ g101 37 #[.string ⟨#[]⟩, .int .i64 0, .string ⟨#[]⟩, .string ⟨#[]⟩, .string ⟨#[]⟩, .int .i64 0, .int .i64 0, .string ⟨#[]⟩] (0, 0) _ rfl (by have b_ := K101; exact zb_) underlying37 rfl (by kernel_rfl)) rfl ?_; exact ⟨z3_, hs_⟩
     rw [if_pos c33] at H; have c33b0 := et_ c33; have c33b1 := nf_ c33; clear c33; obtain ⟨t127, A34, H⟩ := bx_ H; by_cases c35 : t127 = 0
     ·rw [if_pos c35] at H; have c35b0 := et_ c35; have c35b1 := nf_ c35; clear c35; obtain ⟨rfl, rfl, rfl, rfl, rfl, rfl, rfl, rfl, rfl⟩ := pj9_ H; have hnb36 := N102_101.out; have hnc36 := N101_102.out; have hnb37 := N102_106.out; have hnc37 := N106_102.out; obtain ⟨Z38_0, Z38_1, F38⟩ := bc2 K102.out; have hnb39 := N106_101.out; have hnc39 := N101_106.out; obtain ⟨Z40_0, Z40_1, Z40_2, Z40_3, Z40_4, Z40_5, Z40_6, Z40_7, F40⟩ := bc8 K106.out; go_wp2_with (first | ((with_reducible refine qb_ (f := 27) rfl ?_); refine gl_ (some 44) func27 #[.agg #[.string t103, .int .i64 t110, .string t113, .string t116, .string t117, .int .i64 t118, .int .i64 t119, .string x103000_21]] ?_; (with_reducible refine (qak_.calls kj21 t103 t110 t113 t116 t117 t118 t119 x103000_21 t127 _ ?side1 A34.out).mono ?_); (case side1 => exact GV.below hgv (hs_)); rintro e w41 ⟨rfl, hb⟩; refine ⟨_, rfl, ?_⟩; replace K101 := qa_.mk (qab_ (g := g101) (o := .cells #[.string ⟨#[]⟩, .int .i64 0, .string ⟨#[]⟩, .string ⟨#[]⟩, .string ⟨#[]⟩, .int .i64 0, .int .i64 0, .string ⟨#[]⟩] 37 (0, 0)) (by have b_ := K101; have f_ := N101_106; exact zb_) hb); replace K102 := qa_.mk (qab_ (g := g102) (o := .cells #[.string x103000_21, .int .i64 x103001_21] 87 (0, 0)) (by have b_ := K102; have f_ := N102_106; exact zb_) hb); replace K106 := qa_.mk (qab_ (g := g106) (o := .cells #[.string t103, .int .i64 t110, .string t113, .string t116, .string t117, .int .i64 t118, .int .i64 t119, .string x103000_21] 37 (0, 0)) (by have b_ := K106; exact zb_) hb); replace HB := qa_.mk (qc_ (hs_) hb); (try clear hb); (try clear hb2); (try clear hk); (try clear hi); obtain ⟨Z42_0, Z42_1, F42⟩ := bc2 K102.out; obtain ⟨Z43_0, Z43_1, Z43_2, Z43_3, Z43_4, Z43_5, Z43_6, Z43_7, F43⟩ := bc8 K106.out; obtain ⟨Z44_0, Z44_1, Z44_2, Z44_3, Z44_4, Z44_5, Z44_6, Z44_7, F44⟩ := bc8 K101.out)); refine bodyPost_ret (qby_ rfl _ _ g101 37 #[.string t103, .int .i64 t110, .string t113, .string t116, .string t117, .int .i64 t118, .int .i64 t119, .string x103000_21] (0, 0) _ rfl (by have b_ := K101; have f_ := N101_102; exact zb_) underlying37 rfl (by kernel_rfl)) rfl ?_; exact ⟨z3_, hs_⟩
     rw [if_neg c35] at H; have c35b0 := ef_ c35; have c35b1 := nt_ c35; obtain ⟨rfl, rfl, rfl, rfl, rfl, rfl, rfl, rfl, rfl⟩ := pj9_ H; have hnb45 := N102_101.out; have hnc45 := N101_102.out; have hnb46 := N102_106.out; have hnc46 := N106_102.out; obtain ⟨Z47_0, Z47_1, F47⟩ := bc2 K102.out; have hnb48 := N106_101.out; have hnc48 := N101_106.out; obtain ⟨Z49_0, Z49_1, Z49_2, Z49_3, Z49_4, Z49_5, Z49_6, Z49_7, F49⟩ := bc8 K106.out; try go_wp2_with (first | ((with_reducible refine qb_ (f := 27) rfl ?_); refine gl_ (some 44) func27 #[.agg #[.string t103, .int .i64 t110, .string t113, .string t116, .string t117, .int .i64 t118, .int .i64 t119, .string x103000_21]] ?_; (with_reducible refine (qak_.calls kj21 t103 t110 t113 t116 t117 t118 t119 x103000_21 t127 _ ?side1 A34.out).mono ?_); (case side1 => exact GV.below hgv (hs_)); rintro e w50 ⟨rfl, hb⟩; refine ⟨_, rfl, ?_⟩; replace K101 := qa_.mk (qab_ (g := g101) (o := .cells #[.string ⟨#[]⟩, .int .i64 0, .string ⟨#[]⟩, .string ⟨#[]⟩, .string ⟨#[]⟩, .int .i64 0, .int .i64 0, .string ⟨#[]⟩] 37 (0, 0)) (by have b_ := K101; have f_ := N101_106; exact zb_) hb); replace K102 := qa_.mk (qab_ (g := g102) (o := .cells #[.string x103000_21, .int .i64 x103001_21] 87 (0, 0)) (by have b_ := K102; have f_ := N102_106; exact zb_) hb); replace K106 := qa_.mk (qab_ (g := g106) (o := .cells #[.string t103, .int .i64 t110, .string t113, .string t116, .string t117, .int .i64 t118, .int .i64 t119, .string x103000_21] 37 (0, 0)) (by have b_ := K106; exact zb_) hb); replace HB := qa_.mk (qc_ (hs_) hb); (try clear hb); (try clear hb2); (try clear hk); (try clear hi); obtain ⟨Z51_0, Z51_1, F51⟩ := bc2 K102.out)); have n0_ : qa_ ((w50.setCell ⟨g102, 1, none⟩ (.int .i64 t127)).heap[g101]? = some (.cells #[.string ⟨#[]⟩, .int .i64 0, .string ⟨#[]⟩, .string ⟨#[]⟩, .string ⟨#[]⟩, .int .i64 0, .int .i64 0, .string ⟨#[]⟩] 37 (0, 0))) := ⟨by have b_ := K101; have f_ := N101_102; exact zb_⟩; have n1_ : qa_ ((w50.setCell ⟨g102, 1, none⟩ (.int .i64 t127)).heap[g102]? = some (.cells #[.string x103000_21, .int .i64 t127] 87 (0, 0))) := ⟨by have b_ := K102; exact zb_⟩; have n2_ : qa_ ((w50.setCell ⟨g102, 1, none⟩ (.int .i64 t127)).heap[g106]? = some (.cells #[.string t103, .int .i64 t110, .string t113, .string t116, .string t117, .int .i64 t118, .int .i64 t119, .string x103000_21] 37 (0, 0))) := ⟨by have b_ := K106; have f_ := N106_102; exact zb_⟩; have n3_ : qa_ (Below w.heap.size w (w50.setCell ⟨g102, 1, none⟩ (.int .i64 t127))) := ⟨hs_⟩; (try clear K101)
     (try clear K102)
     (try clear K106)
     (try clear HB)
     generalize (w50.setCell ⟨g102, 1, none⟩ (.int .i64 t127)) = w52 at n0_ n1_ n2_ n3_ ⊢; have K101 := n0_; have K102 := n1_; have K106 := n2_; have HB := n3_; clear n0_ n1_ n2_ n3_; replace K101 := ad_ K101; replace K102 := ad_ K102; replace K106 := ad_ K106; replace HB := hd_ HB; refine qdl_ (n := 7) (S := fun w' => w'.cell? ⟨g102, 0, none⟩ = some (.string x103000_21) ∧ w'.cell? ⟨g102, 1, none⟩ = some (.int .i64 t127)) (ds := []) (bs 7 0) (by kernel_rfl) rfl rfl (bc2o K102.out) (fun qal_ => ?_); generalize w52.drew = w53 at K101 K102 K106 HB qal_ ⊢; refine pkn_ 0 52 7 1 ?_; refine pkn_ 1 53 7 3 ?_; refine pkn_ 2 54 7 7 ?_; refine pkn_ 3 55 7 15 ?_; refine tkK2n_ 4 56 7 31 qal_ ?_; refine one_ (i := 5) (N := none) (bs 7 63) rfl rfl (by kernel_rfl) (by decide) (fun K hK => ?_); have hs54 : w53.cell? ⟨g101, 0, none⟩ = some (.string ⟨#[]⟩) := (qd_ K101.out 0).trans rfl; have hfs54 := ql_ K101.out 0; have hns54_1 := N102_101.out; have hns54_2 := N106_101.out; have hms54_1 := N101_102.out; have hms54_2 := N101_106.out; have hs55 : w53.cell? ⟨g101, 1, none⟩ = some (.int .i64 0) := (qd_ K101.out 1).trans rfl; have hfs55 := ql_ K101.out 1; have hns55_1 := N102_101.out; have hns55_2 := N106_101.out; have hms55_1 := N101_102.out; have hms55_2 := N101_106.out; have hs56 : w53.cell? ⟨g101, 2, none⟩ = some (.string ⟨#[]⟩) := (qd_ K101.out 2).trans rfl; have hfs56 := ql_ K101.out 2; have hns56_1 := N102_101.out; have hns56_2 := N106_101.out; have hms56_1 := N101_102.out; have hms56_2 := N101_106.out; have hs57 : w53.cell? ⟨g101, 3, none⟩ = some (.string ⟨#[]⟩) := (qd_ K101.out 3).trans rfl; have hfs57 := ql_ K101.out 3; have hns57_1 := N102_101.out; have hns57_2 := N106_101.out; have hms57_1 := N101_102.out; have hms57_2 := N101_106.out; have hs58 : w53.cell? ⟨g101, 4, none⟩ = some (.string ⟨#[]⟩) := (qd_ K101.out 4).trans rfl; have hfs58 := ql_ K101.out 4; have hns58_1 := N102_101.out; have hns58_2 := N106_101.out; have hms58_1 := N101_102.out; have hms58_2 := N101_106.out; have hs59 : w53.cell? ⟨g101, 5, none⟩ = some (.int .i64 0) := (qd_ K101.out 5).trans rfl; have hfs59 := ql_ K101.out 5; have hns59_1 := N102_101.out; have hns59_2 := N106_101.out; have hms59_1 := N101_102.out; have hms59_2 := N101_106.out; have hs60 : w53.cell? ⟨g101, 6, none⟩ = some (.int .i64 0) := (qd_ K101.out 6).trans rfl; have hfs60 := ql_ K101.out 6; have hns60_1 := N102_101.out; have hns60_2 := N106_101.out; have hms60_1 := N101_102.out; have hms60_2 := N101_106.out; have hs61 : w53.cell? ⟨g101, 7, none⟩ = some (.string ⟨#[]⟩) := (qd_ K101.out 7).trans rfl; have hfs61 := ql_ K101.out 7; have hns61_1 := N102_101.out; have hns61_2 := N106_101.out; have hms61_1 := N101_102.out; have hms61_2 := N101_106.out; refine skip_ (w1 := ?_) (by rfl) rfl ?_ ?_; rotate_left
     ·go_simp
      rfl
     refine hK.out _ _ ⟨((qj_ (p := ⟨g101, _, none⟩) N102_101.out _).trans (((qj_ (p := ⟨g101, _, none⟩) N102_101.out _).trans (((qj_ (p := ⟨g101, _, none⟩) N102_101.out _).trans (((qj_ (p := ⟨g101, _, none⟩) N102_101.out _).trans (((qj_ (p := ⟨g101, _, none⟩) N102_101.out _).trans (((qj_ (p := ⟨g101, _, none⟩) N102_101.out _).trans (((qj_ (p := ⟨g101, _, none⟩) N102_101.out _).trans (((qj_ (p := ⟨g101, _, none⟩) N102_101.out _).trans (qal_.1)))))))))))))))), ((qj_ (p := ⟨g101, _, none⟩) N102_101.out _).trans (((qj_ (p := ⟨g101, _, none⟩) N102_101.out _).trans (((qj_ (p := ⟨g101, _, none⟩) N102_101.out _).trans (((qj_ (p := ⟨g101, _, none⟩) N102_101.out _).trans (((qj_ (p := ⟨g101, _, none⟩) N102_101.out _).trans (((qj_ (p := ⟨g101, _, none⟩) N102_101.out _).trans (((qj_ (p := ⟨g101, _, none⟩) N102_101.out _).trans (((qj_ (p := ⟨g101, _, none⟩) N102_101.out _).trans (qal_.2))))))))))))))))⟩ (fun qal_ => ?_); clear hK K; refine pkn_ 6 3 7 127 ?_; refine done_ (by kernel_rfl) ?_; try go_wp2
     refine bodyPost_ret (qby_ rfl _ _ g101 37 #[.string ⟨#[]⟩, .int .i64 0, .string ⟨#[]⟩, .string ⟨#[]⟩, .string ⟨#[]⟩, .int .i64 0, .int .i64 0, .string ⟨#[]⟩] (0, 0) _ rfl (by have b_ := K101; exact zb_) underlying37 rfl (by kernel_rfl)) rfl ?_; exact ⟨z3_, hs_⟩
def qcm_.f  : Option (ByteArray × ByteArray × Int × Int) := some ((⟨#[97]⟩ : ByteArray), (⟨#[97, 64, 98]⟩ : ByteArray), 5, 60)
theorem qcm_.calls  (r1 : ByteArray) (r2 : ByteArray) (r3 : Int) (r4 : Int) (w : World) (h : qcm_.f  = some (r1, r2, r3, r4)) :
  Calls Tryz.prog 63 #[] w fun e w' => e = .returned (.agg #[.string r1, .string r2, .int .i64 r3, .int .i64 r4]) ∧ Below w.heap.size w w' := by
 have hu24 := underlying24; have HB := qa_.mk (Below.refl w.heap.size w); unfold qcm_.f at h; have H := h; clear h; obtain ⟨rfl, rfl, rfl, rfl⟩ := pj4_ H; go_enter func63, ntmps63; go_wp2_with (first | ((with_reducible refine qk_ (N := 0) rfl ?_); refine be_ (cs := #[.string ⟨#[]⟩, .string ⟨#[]⟩, .int .i64 0, .int .i64 0]) (t := 24) ?_; intro g139 hg w1 hbox hb; have K139 := qa_.mk (hbox); have W139 := ag_ hg HB; have E139 := ag_ hg HB; replace HB := ah_ HB hb; clear hb hbox hg; obtain ⟨Z2_0, Z2_1, Z2_2, Z2_3, F2⟩ := bc4 K139.out)); refine bodyPost_ret (results_cell_row rfl _ _ g139 24 #[.string ⟨#[97]⟩, .string ⟨#[97, 64, 98]⟩, .int .i64 5, .int .i64 60] (0, 0) _ rfl (by have b_ := K139; exact zb_) underlying24 rfl (by kernel_rfl)) rfl ?_; exact ⟨z3_, hs_⟩
def qch_.f (a0_0 : Int) (a0_1 : ByteArray) : Option (ByteArray × Int) := (qcu_.f a0_0).bind fun t135 => (if t135.toList = ([] : List UInt8) then (some ((⟨#[]⟩ : ByteArray), 140)) else (if (a0_1.size : Int) > 1048576 then (some ((⟨#[]⟩ : ByteArray), 4)) else (if t135.size + 1 ≤ 9223372036854775807 then ((qcg_.f (a0_1.size : Int)).bind fun t136 => (if (t135 ++ (⟨#[32]⟩ : ByteArray)).size + t136.size ≤ 9223372036854775807 then (if ((t135 ++ (⟨#[32]⟩ : ByteArray)) ++ t136).size + 1 ≤ 9223372036854775807 then (if (((t135 ++ (⟨#[32]⟩ : ByteArray)) ++ t136) ++ (⟨#[0]⟩ : ByteArray)).size + a0_1.size ≤ 9223372036854775807 then (some ((((t135 ++ (⟨#[32]⟩ : ByteArray)) ++ t136) ++ (⟨#[0]⟩ : ByteArray)) ++ a0_1, 0)) else (none)) else (none)) else (none))) else (none))))
def qch_.T6 : Bool × List (List Nat × List Nat) := (true, [([], []), ([0], [0]), ([], []), ([2], [2]), ([3], [3]), ([4], [4]), ([1, 5], [1, 5]), ([6], [6]), ([], []), ([8], [8]), ([7, 9], [7, 9]), ([10, 5, 0, 1, 2, 3, 4, 5, 6, 7, 8, 9, 10], [10]), ([11, 0, 1, 2, 3, 4, 5, 6, 7, 8, 9, 10, 11], [])])
def qch_.B6 : List Nat := [0, 1, 0, 4, 12, 28, 63, 127, 0, 256, 1023, 2047, 4095]
theorem qch_.tab6 : rtab .any (opsOf Tryz.f97 6) = qch_.T6 := by kernel_rfl
theorem qch_.bits6 : qdi_ qch_.T6.2 qch_.B6 = true := by kernel_rfl
theorem qch_.calls (a0_0 : Int) (a0_1 : ByteArray) (r1 : ByteArray) (r2 : Int) (w : World) (hgv : GV w) (h : qch_.f a0_0 a0_1 = some (r1, r2)) :
  Calls Tryz.prog 97 #[.agg #[.int .i64 a0_0, .string a0_1]] w fun e w' => e = .returned (.tuple #[.string r1, .int .i64 r2]) ∧ Below w.heap.size w w' := by
 have hu50 := underlying50; have HB := qa_.mk (Below.refl w.heap.size w); unfold qch_.f at h; have H := h; clear h; obtain ⟨t135, A2, H⟩ := bx_ H; by_cases c3 : t135.toList = ([] : List UInt8)
 ·rw [if_pos c3] at H; have c3b0 := et_ c3; have c3b1 := nf_ c3; clear c3; obtain ⟨rfl, rfl⟩ := pj2_ H; go_enter func97, ntmps97; go_wp2_with (first | ((with_reducible refine qk_ (N := 1) rfl ?_); refine be_ (cs := #[.int .i64 a0_0, .string a0_1]) (t := 50) ?_; intro g134 hg w4 hbox hb; have K134 := qa_.mk (hbox); have W134 := ag_ hg HB; have E134 := ag_ hg HB; replace HB := ah_ HB hb; clear hb hbox hg; obtain ⟨Z5_0, Z5_1, F5⟩ := bc2 K134.out) | ((with_reducible refine qb_ (f := 79) rfl ?_); refine gl_ (some 7) func79 #[.int .i64 a0_0] ?_; refine cm_ (qcu_.calls a0_0 t135 _ A2.out) fun w6 hb => ?_; replace K134 := ab_ K134 hb; replace HB := qa_.mk (qc_ (hs_) hb); (try clear hb); (try clear hb2); (try clear hk); (try clear hi)))
  go_ret2
  exact ⟨z3_, hs_⟩
 rw [if_neg c3] at H; have c3b0 := ef_ c3; have c3b1 := nt_ c3; by_cases c7 : (a0_1.size : Int) > 1048576
 ·rw [if_pos c7] at H; have c7b0 := dt_ c7; have c7b1 : decide (1048576 < a0_1.size) = true := decide_eq_true (by omega); clear c7; obtain ⟨rfl, rfl⟩ := pj2_ H; go_enter func97, ntmps97; go_wp2_with (first | ((with_reducible refine qk_ (N := 1) rfl ?_); refine be_ (cs := #[.int .i64 a0_0, .string a0_1]) (t := 50) ?_; intro g134 hg w8 hbox hb; have K134 := qa_.mk (hbox); have W134 := ag_ hg HB; have E134 := ag_ hg HB; replace HB := ah_ HB hb; clear hb hbox hg; obtain ⟨Z9_0, Z9_1, F9⟩ := bc2 K134.out) | ((with_reducible refine qb_ (f := 79) rfl ?_); refine gl_ (some 7) func79 #[.int .i64 a0_0] ?_; refine cm_ (qcu_.calls a0_0 t135 _ A2.out) fun w10 hb => ?_; replace K134 := ab_ K134 hb; replace HB := qa_.mk (qc_ (hs_) hb); (try clear hb); (try clear hb2); (try clear hk); (try clear hi); obtain ⟨Z11_0, Z11_1, F11⟩ := bc2 K134.out)); go_ret2
  exact ⟨z3_, hs_⟩
 rw [if_neg c7] at H; have c7b0 := df_ c7; have c7b1 : decide (1048576 < a0_1.size) = false := decide_eq_false (by omega); clear c7; by_cases c12 : t135.size + 1 ≤ 9223372036854775807; rotate_left
 ·rw [if_neg c12] at H; exact no_ H
 rw [if_pos c12] at H; have c12b0 := eq_true c12; have c12b1 := dt_ c12; try have c12b2 := nl_ c12
 obtain ⟨t136, A13, H⟩ := bx_ H; by_cases c14 : (t135 ++ (⟨#[32]⟩ : ByteArray)).size + t136.size ≤ 9223372036854775807; rotate_left
 ·rw [if_neg c14] at H; exact no_ H
 rw [if_pos c14] at H; have c14b0 := eq_true c14; have c14b1 := dt_ c14; try have c14b3 : (9223372036854775807 < t135.size + 1 + t136.size) = False := have h_ := c14; ns_
 try have c14b2 := nl_ c14
 by_cases c15 : ((t135 ++ (⟨#[32]⟩ : ByteArray)) ++ t136).size + 1 ≤ 9223372036854775807; rotate_left
 ·rw [if_neg c15] at H; exact no_ H
 rw [if_pos c15] at H; have c15b0 := eq_true c15; have c15b1 := dt_ c15; try have c15b3 : (9223372036854775807 < t135.size + 1 + t136.size + 1) = False := have h_ := c15; ns_
 try have c15b2 := nl_ c15
 by_cases c16 : (((t135 ++ (⟨#[32]⟩ : ByteArray)) ++ t136) ++ (⟨#[0]⟩ : ByteArray)).size + a0_1.size ≤ 9223372036854775807; rotate_left
 ·rw [if_neg c16] at H; exact no_ H
 rw [if_pos c16] at H; have c16b0 := eq_true c16; have c16b1 := dt_ c16; try have c16b3 : (9223372036854775807 < t135.size + 1 + t136.size + 1 + a0_1.size) = False := have h_ := c16; ns_
 try have c16b2 := nl_ c16
 obtain ⟨rfl, rfl⟩ := pj2_ H; go_enter func97, ntmps97; try go_wp2_with (first | ((with_reducible refine qk_ (N := 1) rfl ?_); refine be_ (cs := #[.int .i64 a0_0, .string a0_1]) (t := 50) ?_; intro g134 hg w17 hbox hb; have K134 := qa_.mk (hbox); have W134 := ag_ hg HB; have E134 := ag_ hg HB; replace HB := ah_ HB hb; clear hb hbox hg; obtain ⟨Z18_0, Z18_1, F18⟩ := bc2 K134.out) | ((with_reducible refine qb_ (f := 79) rfl ?_); refine gl_ (some 7) func79 #[.int .i64 a0_0] ?_; refine cm_ (qcu_.calls a0_0 t135 _ A2.out) fun w19 hb => ?_; replace K134 := ab_ K134 hb; replace HB := qa_.mk (qc_ (hs_) hb); (try clear hb); (try clear hb2); (try clear hk); (try clear hi); obtain ⟨Z20_0, Z20_1, F20⟩ := bc2 K134.out)); replace K134 := ad_ K134; replace HB := hd_ HB; refine qdl_ (n := 13) (S := fun w' => w'.cell? ⟨g134, 0, none⟩ = some (.int .i64 a0_0) ∧ w'.cell? ⟨g134, 1, none⟩ = some (.string a0_1)) (ds := []) (bs 13 0) (by kernel_rfl) rfl rfl (bc2o K134.out) (fun qal_ => ?_); refine qds_ qch_.tab6 qch_.bits6 (fun HT_ HW_ => ?_); generalize w19.drew = w21 at K134 HB qal_ ⊢; refine pun_ 0 16 13 1 ?_; refine pun_ 1 17 13 3 ?_; refine pun_ 2 18 13 7 ?_; refine pun_ 8 24 13 263 ?_; refine tkW2n_ 3 19 13 271 qal_ ?_; refine pun_ 4 20 13 287 ?_; refine tkW2n_ 9 25 13 799 qal_ ?_; refine on_ 5 21 13 831 (fun K hK => ?_); refine goes_ func91 (by kernel_rfl) rfl #[.int .i64 (a0_1.size : Int)] (by rfl) rfl rfl z5_ ?_
 with_reducible refine (qcg_.calls (a0_1.size : Int) t136 _ ?side1 A13.out).mono ?_
 (case side1 => exact GV.below hgv (hs_))
 rintro e w22 ⟨rfl, hb⟩; refine ⟨_, rfl, ?_⟩; replace K134 := ab_ K134 hb; replace HB := qa_.mk (qc_ (hs_) hb); (try clear hb)
 (try clear hb2)
 (try clear hk)
 (try clear hi)
 refine hK.out _ _ (bc2o K134.out) (fun qal_ => ?_); clear hK K; refine norm_ (a' := ?_) ?_ ?_; rotate_left
 ·show Act.put _ (some 21) _ = _
  simp only [Act.put, List.setIfInBounds_toArray, List.set_cons_zero, List.set_cons_succ, i64_w, i32_w]; rfl
 refine pun_ 6 22 13 895 ?_; refine pun_ 7 23 13 1023 ?_; refine pun_ 10 26 13 2047 ?_; refine pun_ 11 2 13 4095 ?_; refine pun_ 12 3 13 8191 ?_; refine dn_ ?_; try go_wp2
 go_ret2
 exact ⟨z3_, hs_⟩
def qdp_.f (a0 : Int) : Option (ByteArray) := if a0 = 1 then (some (⟨#[49, 48, 48, 54, 52, 52, 32]⟩ : ByteArray)) else (if a0 = 2 then (some (⟨#[49, 48, 48, 55, 53, 53, 32]⟩ : ByteArray)) else (if a0 = 3 then (some (⟨#[49, 50, 48, 48, 48, 48, 32]⟩ : ByteArray)) else (if a0 = 4 then (some (⟨#[52, 48, 48, 48, 48, 32]⟩ : ByteArray)) else (some (⟨#[]⟩ : ByteArray)))))
theorem qdp_.calls (a0 : Int) (r : ByteArray) (w : World) (h : qdp_.f a0 = some r) :
  Calls Tryz.prog 191 #[.int .i64 a0] w fun e w' => e = .returned (.string r) ∧ Drawn0 w w' := by
 unfold qdp_.f at h; have H := h; clear h; by_cases c2 : a0 = 1
 ·rw [if_pos c2] at H; have c2b0 := et_ c2; have c2b1 := nf_ c2; clear c2; obtain rfl := oi_ H; go_enter func191, ntmps191; go_wp2
  go_ret
  exact ⟨z1_, z2_⟩
 rw [if_neg c2] at H; have c2b0 := ef_ c2; have c2b1 := nt_ c2; by_cases c3 : a0 = 2
 ·rw [if_pos c3] at H; have c3b0 := et_ c3; have c3b1 := nf_ c3; clear c3; obtain rfl := oi_ H; go_enter func191, ntmps191; go_wp2
  go_ret
  exact ⟨z1_, z2_⟩
 rw [if_neg c3] at H; have c3b0 := ef_ c3; have c3b1 := nt_ c3; by_cases c4 : a0 = 3
 ·rw [if_pos c4] at H; have c4b0 := et_ c4; have c4b1 := nf_ c4; clear c4; obtain rfl := oi_ H; go_enter func191, ntmps191; go_wp2
  go_ret
  exact ⟨z1_, z2_⟩
 rw [if_neg c4] at H; have c4b0 := ef_ c4; have c4b1 := nt_ c4; by_cases c5 : a0 = 4; rotate_left
 ·rw [if_neg c5] at H; have c5b0 := ef_ c5; have c5b1 := nt_ c5; obtain rfl := oi_ H; go_enter func191, ntmps191; go_wp2
  go_ret
  exact ⟨z1_, z2_⟩
 rw [if_pos c5] at H; have c5b0 := et_ c5; have c5b1 := nf_ c5; clear c5; obtain rfl := oi_ H; go_enter func191, ntmps191; go_wp2
 go_ret
 exact ⟨z1_, z2_⟩
def qcc_.l0 : Nat → ByteArray → Bool → Int → Option (Int × ByteArray × Int)
 | 0, _, _, _ => none
 | k + 1, x0, x5, x6 => if x6 ≤ 4 then ((qdp_.f x6).bind fun t115 => ((qca_.f x0 t115).bind fun bt116 => (if bt116.2 = true then (some (x6, bt116.1, 0)) else (if x5 = true then (qcc_.l0 k x0 true (wrap64 (x6 + 1))) else ((qdp_.f x6).bind fun t118 => ((qcj_.f t118 x0).bind fun t119 => (qcc_.l0 k x0 t119 (wrap64 (x6 + 1))))))))) else (if x5 = true then (some (0, (⟨#[]⟩ : ByteArray), 3)) else (some (0, (⟨#[]⟩ : ByteArray), 2)))
def qcc_.f (k : Nat) (a0 : ByteArray) : Option (Int × ByteArray × Int) := qcc_.l0 k a0 false 1
theorem qcc_.mono_l : ∀ k, (∀ y0 y1 y2, LeO (qcc_.l0 k y0 y1 y2) (qcc_.l0 (k + 1) y0 y1 y2))
 | 0 => fun _ _ _ r h => by simp [qcc_.l0] at h
 | k + 1 => by
  have ih0 := qcc_.mono_l k
  ·intro y0 y1 y2
   unfold qcc_.l0
   have m0_ := @ih0
   exact mz_
theorem qcc_.mono : ∀ a0 k, LeO (qcc_.f k a0) (qcc_.f (k + 1) a0) := by
 intro a0 k; have ih0 := qcc_.mono_l k; unfold qcc_.f; have m0_ := @ih0; exact mz_
theorem qcc_.calls (k : Nat) (a0 : ByteArray) (r1 : Int) (r2 : ByteArray) (r3 : Int) (w : World) (h : qcc_.f k a0 = some (r1, r2, r3)) :
  Calls Tryz.prog 148 #[.string a0] w fun e w' => e = .returned (.tuple #[.int .i64 r1, .string r2, .int .i64 r3]) ∧ Drawn0 w w' := by
 unfold qcc_.f at h; have H := h; clear h; have H' := qa_.mk H; clear H; go_enter func148, ntmps148; go_wp2
 go_loopg [5, 6] k (fun kq v5 v6 w' => ∃ (x5_1 : Bool) (x6_1 : Int), v5 = .bool x5_1 ∧ v6 = .int .i64 x6_1 ∧ qa_ (qcc_.l0 kq a0 x5_1 x6_1 = some (r1, r2, r3)) ∧ qa_ (kq ≤ k) ∧ Drawn0 w w')
 case atStart => exact ⟨(false), (1), z1_, z1_, H', ⟨Nat.le_refl _⟩, z2_⟩
 case round =>
  clear H'; try clear c1
  obtain ⟨x5_1, x6_1, rfl, rfl, HA, HK1, ⟨m1, rfl⟩⟩ := hrel
  cases gk with
  | zero => exact absurd HA.out (by simp [qcc_.l0])
  | succ k1 =>
   have H := HA.out; clear HA; simp only [qcc_.l0] at H; by_cases c2 : x6_1 ≤ 4; rotate_left
   ·rw [if_neg c2] at H; have c2b0 := df_ c2; clear c2; by_cases c9 : x5_1 = true
    ·subst c9; rw [if_pos rfl] at H; obtain ⟨rfl, rfl, rfl⟩ := pj3_ H; go_wp2
     go_ret3
     exact ⟨z1_, z2_⟩
    replace c9 := Bool.eq_false_iff.mpr c9; subst c9; rw [if_neg nft_] at H; obtain ⟨rfl, rfl, rfl⟩ := pj3_ H; go_wp2
    go_ret3
    exact ⟨z1_, z2_⟩
   rw [if_pos c2] at H; have c2b0 := dt_ c2; clear c2; obtain ⟨t115, A3, H⟩ := bx_ H; obtain ⟨⟨t116, t117⟩, A4, H⟩ := bx_ H; dsimp only at H; by_cases c5 : t117 = true
   ·subst c5; rw [if_pos rfl] at H; obtain ⟨rfl, rfl, rfl⟩ := pj3_ H; go_wp2_with (first | ((with_reducible refine qb_ (f := 191) rfl ?_); refine gl_ (some 16) func191 #[.int .i64 x6_1] ?_; refine cm_ (qdp_.calls x6_1 t115 _ A3.out) ?_; rintro w' ⟨nd, rfl⟩) | ((with_reducible refine qb_ (f := 142) rfl ?_); refine gl_ (some 17) func142 #[.string a0, .string t115] ?_; refine cm_ (qca_.calls a0 t115 t116 true _ A4.out) ?_; rintro w' ⟨nd, rfl⟩)); go_ret3
    exact ⟨z1_, z2_⟩
   replace c5 := Bool.eq_false_iff.mpr c5; subst c5; rw [if_neg nft_] at H; by_cases c6 : x5_1 = true
   ·subst c6; rw [if_pos rfl] at H; have H' := qa_.mk H; clear H; go_wp2_with (first | ((with_reducible refine qb_ (f := 191) rfl ?_); refine gl_ (some 16) func191 #[.int .i64 x6_1] ?_; refine cm_ (qdp_.calls x6_1 t115 _ A3.out) ?_; rintro w' ⟨nd, rfl⟩) | ((with_reducible refine qb_ (f := 142) rfl ?_); refine gl_ (some 17) func142 #[.string a0, .string t115] ?_; refine cm_ (qca_.calls a0 t115 t116 false _ A4.out) ?_; rintro w' ⟨nd, rfl⟩)); go_roundg k1
    case measure => have := HK1.out; omega
    case rel => exact ⟨(true), (wrap64 (x6_1 + 1)), z1_, z1_, H', ⟨by have := HK1.out; omega⟩, z2_⟩
   replace c6 := Bool.eq_false_iff.mpr c6; subst c6; rw [if_neg nft_] at H; obtain ⟨t118, A7, H⟩ := bx_ H; obtain ⟨t119, A8, H⟩ := bx_ H; have H' := qa_.mk H; clear H; have tk11_ : True := trivial; have tk12_ : True := trivial; go_wp2_with (first | (have _t := tk11_; (with_reducible refine qb_ (f := 191) rfl ?_); refine gl_ (some 16) func191 #[.int .i64 x6_1] ?_; refine cm_ (qdp_.calls x6_1 t115 _ A3.out) ?_; rintro w' ⟨nd, rfl⟩; clear tk11_) | ((with_reducible refine qb_ (f := 142) rfl ?_); refine gl_ (some 17) func142 #[.string a0, .string t115] ?_; refine cm_ (qca_.calls a0 t115 t116 false _ A4.out) ?_; rintro w' ⟨nd, rfl⟩) | (go_at_call 191; have _t := tk12_; (with_reducible refine (qdp_.calls x6_1 t118 _ A7.out).mono ?_); rintro e w' ⟨rfl, ⟨nd, rfl⟩⟩; clear tk12_) | (go_at_call 71; (with_reducible refine (qcj_.calls t118 a0 t119 _ A8.out).mono ?_); rintro e w' ⟨rfl, ⟨nd, rfl⟩⟩)); go_roundg k1
   case measure => have := HK1.out; omega
   case rel => exact ⟨(t119), (wrap64 (x6_1 + 1)), z1_, z1_, H', ⟨by have := HK1.out; omega⟩, z2_⟩
def qfc_.f (a0_0 : Int) (a0_1 : ByteArray) (a0_2 : ByteArray) : Option (ByteArray) := if a0_0 = 4 then (if a0_1.size + 1 ≤ 9223372036854775807 then (some (a0_1 ++ (⟨#[47]⟩ : ByteArray))) else (none)) else (some a0_1)
theorem qfc_.calls (a0_0 : Int) (a0_1 : ByteArray) (a0_2 : ByteArray) (r : ByteArray) (w : World) (h : qfc_.f a0_0 a0_1 a0_2 = some r) :
  Calls Tryz.prog 231 #[.agg #[.int .i64 a0_0, .string a0_1, .string a0_2]] w fun e w' => e = .returned (.string r) ∧ Below w.heap.size w w' := by
 have hu108 := underlying108; have HB := qa_.mk (Below.refl w.heap.size w); unfold qfc_.f at h; have H := h; clear h; by_cases c2 : a0_0 = 4; rotate_left
 ·rw [if_neg c2] at H; have c2b0 := ef_ c2; have c2b1 := nt_ c2; obtain rfl := oi_ H; go_enter func231, ntmps231; go_wp2_with (first | ((with_reducible refine qk_ (N := 1) rfl ?_); refine be_ (cs := #[.int .i64 a0_0, .string a0_1, .string a0_2]) (t := 108) ?_; intro g205 hg w6 hbox hb; have K205 := qa_.mk (hbox); have W205 := ag_ hg HB; have E205 := ag_ hg HB; replace HB := ah_ HB hb; clear hb hbox hg; obtain ⟨Z7_0, Z7_1, Z7_2, F7⟩ := bc3 K205.out)); go_ret
  exact ⟨z3_, hs_⟩
 rw [if_pos c2] at H; have c2b0 := et_ c2; have c2b1 := nf_ c2; clear c2; by_cases c3 : a0_1.size + 1 ≤ 9223372036854775807; rotate_left
 ·rw [if_neg c3] at H; exact no_ H
 rw [if_pos c3] at H; have c3b0 := eq_true c3; have c3b1 := dt_ c3; try have c3b2 := nl_ c3
 obtain rfl := oi_ H; go_enter func231, ntmps231; go_wp2_with (first | ((with_reducible refine qk_ (N := 1) rfl ?_); refine be_ (cs := #[.int .i64 a0_0, .string a0_1, .string a0_2]) (t := 108) ?_; intro g205 hg w4 hbox hb; have K205 := qa_.mk (hbox); have W205 := ag_ hg HB; have E205 := ag_ hg HB; replace HB := ah_ HB hb; clear hb hbox hg; obtain ⟨Z5_0, Z5_1, Z5_2, F5⟩ := bc3 K205.out)); go_ret
 exact ⟨z3_, hs_⟩
def qfe_.f (a0_0 : Int) (a0_1 : ByteArray) (a0_2 : ByteArray) (a1_0 : Int) (a1_1 : ByteArray) (a1_2 : ByteArray) : Option (Bool) := (qfc_.f a0_0 a0_1 a0_2).bind fun t177 => ((qfc_.f a1_0 a1_1 a1_2).bind fun t178 => (some (Op.bytesLess t177.toList t178.toList)))
theorem qfe_.calls (a0_0 : Int) (a0_1 : ByteArray) (a0_2 : ByteArray) (a1_0 : Int) (a1_1 : ByteArray) (a1_2 : ByteArray) (r : Bool) (w : World) (h : qfe_.f a0_0 a0_1 a0_2 a1_0 a1_1 a1_2 = some r) :
  Calls Tryz.prog 193 #[.agg #[.int .i64 a0_0, .string a0_1, .string a0_2], .agg #[.int .i64 a1_0, .string a1_1, .string a1_2]] w fun e w' => e = .returned (.bool r) ∧ Below w.heap.size w w' := by
 have hu108 := underlying108; have HB := qa_.mk (Below.refl w.heap.size w); unfold qfe_.f at h; have H := h; clear h; obtain ⟨t177, A3, H⟩ := bx_ H; obtain ⟨t178, A4, H⟩ := bx_ H; obtain rfl := oi_ H; go_enter func193, ntmps193; try go_wp2_with (first | ((with_reducible refine qk_ (N := 2) rfl ?_); refine be_ (cs := #[.int .i64 a0_0, .string a0_1, .string a0_2]) (t := 108) ?_; intro g175 hg w5 hbox hb; have K175 := qa_.mk (hbox); have W175 := ag_ hg HB; have E175 := ag_ hg HB; replace HB := ah_ HB hb; clear hb hbox hg) | ((with_reducible refine qk_ (N := 3) rfl ?_); refine be_ (cs := #[.int .i64 a1_0, .string a1_1, .string a1_2]) (t := 108) ?_; intro g176 hg w6 hbox hb; have K176 := qa_.mk (hbox); have W176 := qa_.mk ((by rw [hg]; exact (qn_ (hs_)) : w.heap.size ≤ g176)); have E176 := qa_.mk ((by rw [hg]; exact (qn_ (hs_)) : w.heap.size ≤ g176)); replace HB := qa_.mk (qc_ (hs_) hb); have N175_176 := qa_.mk (nl2_ hg K175.out); have N176_175 := qa_.mk (ng2_ hg K175.out); replace K175 := ab_ K175 hb; clear hb hbox hg)); replace K175 := ad_ K175; replace K176 := ad_ K176; replace HB := hd_ HB; refine qdl_ (n := 6) (S := fun w' => w'.cell? ⟨g175, 0, none⟩ = some (.int .i64 a0_0) ∧ w'.cell? ⟨g175, 1, none⟩ = some (.string a0_1) ∧ w'.cell? ⟨g175, 2, none⟩ = some (.string a0_2) ∧ w'.cell? ⟨g176, 0, none⟩ = some (.int .i64 a1_0) ∧ w'.cell? ⟨g176, 1, none⟩ = some (.string a1_1) ∧ w'.cell? ⟨g176, 2, none⟩ = some (.string a1_2)) (ds := []) (bs 6 0) (by kernel_rfl) rfl rfl ⟨(qd_ K175.out 0).trans rfl, (qd_ K175.out 1).trans rfl, (qd_ K175.out 2).trans rfl, (qd_ K176.out 0).trans rfl, (qd_ K176.out 1).trans rfl, (qd_ K176.out 2).trans rfl⟩ (fun qal_ => ?_); generalize w6.drew = w7 at K175 K176 HB qal_ ⊢; refine tkK6n_ 0 5 6 1 qal_ ?_; refine tkK6n_ 2 7 6 5 qal_ ?_; refine one_ (i := 1) (N := some 6) (bs 6 7) rfl rfl (by kernel_rfl) (by decide) (fun K hK => ?_); refine goes_ func231 (by kernel_rfl) rfl #[.agg #[.int .i64 a0_0, .string a0_1, .string a0_2]] (by rfl) rfl rfl z5_ ?_
 with_reducible refine (qfc_.calls a0_0 a0_1 a0_2 t177 _ A3.out).mono ?_
 rintro e w8 ⟨rfl, hb⟩; refine ⟨_, rfl, ?_⟩; replace K175 := ab_ K175 hb; replace K176 := ab_ K176 hb; replace HB := qa_.mk (qc_ (hs_) hb); (try clear hb)
 (try clear hb2)
 (try clear hk)
 (try clear hi)
 refine hK.out _ _ ⟨(qd_ K175.out 0).trans rfl, (qd_ K175.out 1).trans rfl, (qd_ K175.out 2).trans rfl, (qd_ K176.out 0).trans rfl, (qd_ K176.out 1).trans rfl, (qd_ K176.out 2).trans rfl⟩ (fun qal_ => ?_); clear hK K; refine norm_ (a' := ?_) ?_ ?_; rotate_left
 ·show Act.put _ (some 6) _ = _
  simp only [Act.put, List.setIfInBounds_toArray, List.set_cons_zero, List.set_cons_succ, i64_w, i32_w]; rfl
 refine one_ (i := 3) (N := some 8) (bs 6 15) rfl rfl (by kernel_rfl) (by decide) (fun K hK => ?_); refine goes_ func231 (by kernel_rfl) rfl #[.agg #[.int .i64 a1_0, .string a1_1, .string a1_2]] (by rfl) rfl rfl z5_ ?_
 with_reducible refine (qfc_.calls a1_0 a1_1 a1_2 t178 _ A4.out).mono ?_
 rintro e w9 ⟨rfl, hb⟩; refine ⟨_, rfl, ?_⟩; replace K175 := ab_ K175 hb; replace K176 := ab_ K176 hb; replace HB := qa_.mk (qc_ (hs_) hb); (try clear hb)
 (try clear hb2)
 (try clear hk)
 (try clear hi)
 refine hK.out _ _ ⟨(qd_ K175.out 0).trans rfl, (qd_ K175.out 1).trans rfl, (qd_ K175.out 2).trans rfl, (qd_ K176.out 0).trans rfl, (qd_ K176.out 1).trans rfl, (qd_ K176.out 2).trans rfl⟩ (fun qal_ => ?_); clear hK K; refine norm_ (a' := ?_) ?_ ?_; rotate_left
 ·show Act.put _ (some 8) _ = _
  simp only [Act.put, List.setIfInBounds_toArray, List.set_cons_zero, List.set_cons_succ, i64_w, i32_w]; rfl
 refine pkn_ 4 9 6 31 ?_; refine pkn_ 5 4 6 63 ?_; refine done_ (by kernel_rfl) ?_; try go_wp2
 go_ret
 exact ⟨z3_, hs_⟩
def qdm_.f (k : Nat) (a0_0 : Int) (a0_1 : ByteArray) (a0_2 : ByteArray) : Option (Bool) := if a0_0 ≥ 1 then (if a0_0 ≤ 4 then ((qcd_.f k a0_1).bind fun t121 => (if t121 = true then ((qci_.f a0_1 ⟨#[47]⟩).bind fun t122 => (if t122 = true then (some false) else ((qck_.f k a0_2).bind fun t123 => (some t123)))) else (some false))) else (some false)) else (some false)
theorem qdm_.mono : ∀ a0 a1 a2 k, LeO (qdm_.f k a0 a1 a2) (qdm_.f (k + 1) a0 a1 a2) := by
 intro a0 a1 a2 k; unfold qdm_.f; have m0_ := @qck_.mono; have m1_ := @qcd_.mono; exact mz_
theorem qdm_.calls (k : Nat) (a0_0 : Int) (a0_1 : ByteArray) (a0_2 : ByteArray) (r : Bool) (w : World) (hgv : GV w) (h : qdm_.f k a0_0 a0_1 a0_2 = some r) :
  Calls Tryz.prog 192 #[.agg #[.int .i64 a0_0, .string a0_1, .string a0_2]] w fun e w' => e = .returned (.bool r) ∧ Below w.heap.size w w' := by
 have hu108 := underlying108; have HB := qa_.mk (Below.refl w.heap.size w); unfold qdm_.f at h; have H := h; clear h; by_cases c2 : a0_0 ≥ 1; rotate_left
 ·rw [if_neg c2] at H; have c2b0 := df_ c2; clear c2; obtain rfl := oi_ H; go_enter func192, ntmps192; go_wp2_with (first | ((with_reducible refine qk_ (N := 1) rfl ?_); refine be_ (cs := #[.int .i64 a0_0, .string a0_1, .string a0_2]) (t := 108) ?_; intro g120 hg w22 hbox hb; have K120 := qa_.mk (hbox); have W120 := ag_ hg HB; have E120 := ag_ hg HB; replace HB := ah_ HB hb; clear hb hbox hg; obtain ⟨Z23_0, Z23_1, Z23_2, F23⟩ := bc3 K120.out)); go_ret
  exact ⟨z3_, hs_⟩
 rw [if_pos c2] at H; have c2b0 := dt_ c2; clear c2; by_cases c3 : a0_0 ≤ 4; rotate_left
 ·rw [if_neg c3] at H; have c3b0 := df_ c3; clear c3; obtain rfl := oi_ H; go_enter func192, ntmps192; go_wp2_with (first | ((with_reducible refine qk_ (N := 1) rfl ?_); refine be_ (cs := #[.int .i64 a0_0, .string a0_1, .string a0_2]) (t := 108) ?_; intro g120 hg w20 hbox hb; have K120 := qa_.mk (hbox); have W120 := ag_ hg HB; have E120 := ag_ hg HB; replace HB := ah_ HB hb; clear hb hbox hg; obtain ⟨Z21_0, Z21_1, Z21_2, F21⟩ := bc3 K120.out)); go_ret
  exact ⟨z3_, hs_⟩
 rw [if_pos c3] at H; have c3b0 := dt_ c3; clear c3; obtain ⟨t121, A4, H⟩ := bx_ H; by_cases c5 : t121 = true; rotate_left
 ·replace c5 := Bool.eq_false_iff.mpr c5; subst c5; rw [if_neg nft_] at H; obtain rfl := oi_ H; go_enter func192, ntmps192; go_wp2_with (first | ((with_reducible refine qk_ (N := 1) rfl ?_); refine be_ (cs := #[.int .i64 a0_0, .string a0_1, .string a0_2]) (t := 108) ?_; intro g120 hg w17 hbox hb; have K120 := qa_.mk (hbox); have W120 := ag_ hg HB; have E120 := ag_ hg HB; replace HB := ah_ HB hb; clear hb hbox hg; obtain ⟨Z18_0, Z18_1, Z18_2, F18⟩ := bc3 K120.out) | (go_at_call 156; (with_reducible refine (qcd_.calls k a0_1 false _ A4.out).mono ?_); rintro e w19 ⟨rfl, hb⟩; replace K120 := ab_ K120 hb; replace HB := qa_.mk (qc_ (hs_) hb); (try clear hb); (try clear hb2); (try clear hk); (try clear hi)))
  go_ret
  exact ⟨z3_, hs_⟩
 subst c5; rw [if_pos rfl] at H; obtain ⟨t122, A6, H⟩ := bx_ H; by_cases c7 : t122 = true
 ·subst c7; rw [if_pos rfl] at H; obtain rfl := oi_ H; go_enter func192, ntmps192; go_wp2_with (first | ((with_reducible refine qk_ (N := 1) rfl ?_); refine be_ (cs := #[.int .i64 a0_0, .string a0_1, .string a0_2]) (t := 108) ?_; intro g120 hg w8 hbox hb; have K120 := qa_.mk (hbox); have W120 := ag_ hg HB; have E120 := ag_ hg HB; replace HB := ah_ HB hb; clear hb hbox hg; obtain ⟨Z9_0, Z9_1, Z9_2, F9⟩ := bc3 K120.out) | (go_at_call 156; (with_reducible refine (qcd_.calls k a0_1 true _ A4.out).mono ?_); rintro e w10 ⟨rfl, hb⟩; replace K120 := ab_ K120 hb; replace HB := qa_.mk (qc_ (hs_) hb); (try clear hb); (try clear hb2); (try clear hk); (try clear hi); obtain ⟨Z11_0, Z11_1, Z11_2, F11⟩ := bc3 K120.out) | (go_at_call 68; (with_reducible refine (qci_.calls a0_1 ⟨#[47]⟩ true _ ?side1 A6.out).mono ?_); (case side1 => exact GV.below hgv (hs_)); rintro e w' ⟨rfl, ⟨nd, rfl⟩⟩)); go_ret
  exact ⟨z3_, hs_⟩
 replace c7 := Bool.eq_false_iff.mpr c7; subst c7; rw [if_neg nft_] at H; obtain ⟨t123, A12, H⟩ := bx_ H; obtain rfl := oi_ H; go_enter func192, ntmps192; go_wp2_with (first | ((with_reducible refine qk_ (N := 1) rfl ?_); refine be_ (cs := #[.int .i64 a0_0, .string a0_1, .string a0_2]) (t := 108) ?_; intro g120 hg w13 hbox hb; have K120 := qa_.mk (hbox); have W120 := ag_ hg HB; have E120 := ag_ hg HB; replace HB := ah_ HB hb; clear hb hbox hg; obtain ⟨Z14_0, Z14_1, Z14_2, F14⟩ := bc3 K120.out) | (go_at_call 156; (with_reducible refine (qcd_.calls k a0_1 true _ A4.out).mono ?_); rintro e w15 ⟨rfl, hb⟩; replace K120 := ab_ K120 hb; replace HB := qa_.mk (qc_ (hs_) hb); (try clear hb); (try clear hb2); (try clear hk); (try clear hi); obtain ⟨Z16_0, Z16_1, Z16_2, F16⟩ := bc3 K120.out) | (go_at_call 68; (with_reducible refine (qci_.calls a0_1 ⟨#[47]⟩ false _ ?side1 A6.out).mono ?_); (case side1 => exact GV.below hgv (hs_)); rintro e w' ⟨rfl, ⟨nd, rfl⟩⟩) | (go_at_call 65; (with_reducible refine (qck_.calls k a0_2 t123 _ A12.out).mono ?_); rintro e w' ⟨rfl, ⟨nd, rfl⟩⟩)); go_ret
 exact ⟨z3_, hs_⟩
end Go.Proofs.YtbhfbbfjdklfgaaGreatDoor.Q
namespace Go.Proofs.YtbhfbbfjdklfgaaGreatDoor.Q
open Go.Proofs.Tryz Go.RowKit Go.Maps Go.Proofs.YtbhfbbfjdklfgaaGreatDoorW.PrintWords Go.Proofs.YtbhfbbfjdklfgaaGreatDoorW.PrintLast Go.Proofs.YtbhfbbfjdklfgaaGreatDoorW.PrintMore
structure MSI where
  n : Nat
  f : List UInt8 → Option Int
def MSI.nil : MSI := ⟨0, fun _ => none⟩
def MSI.get (m : MSI) (k : ByteArray) : Int := (m.f k.data.toList).getD 0
def MSI.has (m : MSI) (k : ByteArray) : Bool := (m.f k.data.toList).isSome
def MSI.put (m : MSI) (k : ByteArray) (v : Int) : MSI := ⟨m.n + 1, fun x => if x = k.data.toList then some v else m.f x⟩
def qaq_ (w0 W : World) (g : Nat) (f0 : MSI) : Prop := w0.heap.size ≤ g ∧ ∃ D : DataW Unit, W.ownsMap Tryz.prog 9 (plainElem Tryz.prog 3) g f0.n D ∧
  ∀ s : List UInt8, s.length ≤ maxLen → D.atKey (.string s) (.lit (.int .i64 0)) = .lit (.int .i64 ((f0.f s).getD 0)) ∧ Maps.has D (.string s) = (f0.f s).isSome
theorem mapLaw : Keyed Tryz.prog 9 := string_keyed underlying9
theorem mapZero (w : World) : (zeroValue 3).run Tryz.prog w = .ok (.int .i64 0) w := by kernel_rfl
section
variable {w0 W W1 : World} {g : Nat} {f0 : MSI}
theorem qaq_.block (h : qaq_ w0 W g f0) : ∃ es clock, W.heap[g]? = some (.map es clock) := by
  obtain ⟨_, D, ⟨es, c, hb, _⟩, _⟩ := h
  exact ⟨es, c, hb⟩
theorem qaq_.grown {row : Option Nat} (h : qaq_ w0 W g f0) (hw : W.grownBy W1 row) (hne : some g ≠ row) : qaq_ w0 W1 g f0 := by
  obtain ⟨h0, D, h1, h2⟩ := h
  exact ⟨h0, D, h1.kept hw hne, h2⟩
theorem qaq_.below (h : qaq_ w0 W g f0) (hw : Below W.heap.size W W1) : qaq_ w0 W1 g f0 := h.grown (qez_ hw none) (by simp)
theorem qaq_.alloc (h : qaq_ w0 W g f0) (o : Obj) : qaq_ w0 (W.alloc o) g f0 := h.below (qap_ (Below.refl _ _) o)
theorem qaq_.drewN (h : qaq_ w0 W g f0) (m : Nat) : qaq_ w0 (W.drewN m) g f0 := h
theorem qaq_.drew (h : qaq_ w0 W g f0) : qaq_ w0 W.drew g f0 := h
theorem qaq_.at_ {m : Nat} (hq : W.drewN m = W1) (h : qaq_ w0 W g f0) : qaq_ w0 W1 g f0 := by subst hq; exact h
theorem qaq_.ge (h : qaq_ w0 W g f0) : w0.heap.size ≤ g := h.1
theorem qaq_.lt (h : qaq_ w0 W g f0) : g < W.heap.size := by
  obtain ⟨_, D, h1, _⟩ := h
  exact h1.lt
theorem qaq_.fresh (h : qaq_ w0 W g f0) : ∀ k, W.heap.size ≤ k → k ≠ g := fun k hk e => by have := h.lt; omega
theorem qaq_.far {p : Addr} (h : qaq_ w0 W g f0) (hne : g ≠ p.block) (u : Value) : qaq_ w0 (W.setCell p u) g f0 := by
  obtain ⟨h0, D, h1, h2⟩ := h
  exact ⟨h0, D, h1.setCell hne u, h2⟩
theorem qaq_.apart {α : Type} {d : Kd α} {e : Nat} {base : Nat} {ok : Nat → Prop} {v : Value} {xs : List α} (h : qaq_ w0 W g f0) (ho : d.R e W base ok v xs) (ht : ∀ q, q ∈ e :: d.E → q ≠ 176) : d.R e W base (fun k => ok k ∧ k ≠ g) v xs := by
  obtain ⟨es, c, hb⟩ := h.block
  refine Kd.R_mono (Kd.R_bound ho) (fun k hk => ⟨hk.1, ?_⟩)
  rintro rfl
  obtain ⟨_, _, _, q, _, cells, hc⟩ := hk
  rw [hc] at hb
  cases hb
theorem qaq_.own_ne {α : Type} {d : Kd α} {e : Nat} {base : Nat} {ok : Nat → Prop} {v : Value} {xs : List α} (h : qaq_ w0 W g f0) (ho : d.R e W base ok v xs) (ht : e ≠ 176) : some g ≠ v.ownBlock := by
  obtain ⟨es, c, hb⟩ := h.block
  intro he
  obtain ⟨_, _, _, q, _, cells, hc⟩ := (Kd.R_bound ho).1 g he.symm
  rw [hc] at hb
  cases hb
theorem qaq_.made (hb : W.ownsMap Tryz.prog 9 (plainElem (H := Unit) Tryz.prog 3) g 0 (.map [])) (hg : w0.heap.size ≤ g) : qaq_ w0 W g MSI.nil :=
  ⟨hg, .map [], hb, fun s hs => ⟨by simp [DataW.atKey, MSI.nil], by simp [Maps.has, MSI.nil]⟩⟩
end
section
variable {ops : Array Oper} {rest : List Oper} {o : Oper} {a : Act} {Q : Exit → Act → World → Prop} {w0 W : World} {g : Nat} {f0 : MSI}
theorem mkmap_event (hgd : o.guard = none) {N : Tmp} (hd : o.dst = some N) (hop : o.op = .makeMap 176 none)
    (h : ∀ g, g = W.heap.size → ∀ w1, w1.ownsMap Tryz.prog 9 (plainElem (H := Unit) Tryz.prog 3) g 0 (.map []) → Below W.heap.size W w1 → wpList Tryz.prog ops Q rest (a.put o.dst (.map (some g))) w1) : wpList Tryz.prog ops Q (o :: rest) a W := by
  have hmm := @run_makeMap Tryz.prog
  refine Kd.event_run hgd (v := .map (some W.heap.size)) (w1 := W.alloc (.map #[] 0)) ?_ (h _ rfl _ (World.ownsMap_made _ _ _ _) (qap_ (Below.refl _ _) _))
  simp [execOp, hop, hmm, Result.andThen]
theorem qaq_.look {m x : Operand} {k : ByteArray} (h : qaq_ w0 W g f0) (hgd : o.guard = none) (hop : o.op = .lookup 176 m x false) (hm : a.eval m = .map (some g)) (hx : a.eval x = .string k) (hs : k.size ≤ 9223372036854775807)
    (K : wpList Tryz.prog ops Q rest (a.put o.dst (.int .i64 (MSI.get f0 k))) W) : wpList Tryz.prog ops Q (o :: rest) a W := by
  obtain ⟨h0, D, h1, h2⟩ := h
  refine wpList_lookup_own_int _ hgd m x 176 hop 9 3 .i64 mapLaw underlying176 underlying3 (mapZero _) g f0.n D hm h1 _ _ hx (WideMaps.keyOf_string_mk underlying9 (by unfold maxLen; exact hs)) ?_
  intro c hat hwc
  have := (h2 k.data.toList (by unfold maxLen; exact hs)).1
  rw [this] at hat
  have e : c = MSI.get f0 k := by
    injection hat with hat
    injection hat with _ hat
    exact hat.symm
  rw [e]
  exact K
theorem qaq_.put_ {m x v : Operand} {k : ByteArray} {n : Int} (h : qaq_ w0 W g f0) (hgd : o.guard = none) (hop : o.op = .mapUpdate 176 m x v) (hm : a.eval m = .map (some g)) (hx : a.eval x = .string k) (hv : a.eval v = .int .i64 n) (hs : k.size ≤ 9223372036854775807) (hn : f0.n < 4611686018427387904) (hw : (Lit.int .i64 n).wf = true)
    (K : ∀ w1, qaq_ w0 w1 g (MSI.put f0 k n) → W.grownBy w1 (some g) → wpList Tryz.prog ops Q rest (a.put o.dst undef) w1) : wpList Tryz.prog ops Q (o :: rest) a W := by
  obtain ⟨h0, D, h1, h2⟩ := h
  have hk : keyOf Tryz.prog 9 (.string k) = some (.string k.data.toList) := WideMaps.keyOf_string_mk underlying9 (by unfold maxLen; exact hs)
  refine wpList_mapUpdate_own _ hgd m x v 176 hop 9 3 mapLaw underlying176 _ g f0.n D hm h1 (by unfold maxLen; omega) _ _ _ hx hv hk _ [] (plainElem_int underlying3 hw) ?_
  intro w1 hown hg
  refine K w1 ⟨h0, _, hown, fun s hl => ?_⟩ hg
  have hD : IsMap D := by
    obtain ⟨es, c, _, _, _, rfl⟩ := h1
    exact ⟨_, rfl⟩
  have hkl : WideAt.IsKeyLit (.string k.data.toList) := trivial
  by_cases e : s = k.data.toList
  · subst e
    refine ⟨?_, ?_⟩
    · rw [atKey_put_same hD hkl]; simp [MSI.put]
    · rw [has_put_same hD hkl]; simp [MSI.put]
  · have hne : (Lit.string s) ≠ .string k.data.toList := fun h => e (by injection h)
    have := h2 s hl
    refine ⟨?_, ?_⟩
    · rw [atKey_put_other hne, this.1]; simp [MSI.put, e]
    · rw [has_put_other hne, this.2]; simp [MSI.put, e]
end
end Go.Proofs.YtbhfbbfjdklfgaaGreatDoor.Q

