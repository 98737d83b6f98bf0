/- The law CommitLinks holds: for every input it returns true, and each argument reads afterwards as it read before. -/
import Derived.Test.YtbhfbbfjdklfgaaGreatDoorMCommitLinks6
import Derived.Test.YtbhfbbfjdklfgaaGreatDoorCards
set_option linter.unusedVariables false
set_option linter.unusedSimpArgs false
set_option maxHeartbeats 8000000
set_option maxRecDepth 100000
namespace Go.Proofs.YtbhfbbfjdklfgaaGreatDoor.commitLinks
open Go.ChangeShapes Go.WideShapes Go.ChangeAt Go.RowKit Go.Proofs.YtbhfbbfjdklfgaaGreatDoor.Ro Go.Proofs.YtbhfbbfjdklfgaaGreatDoor.Q YtbhfbbfjdklfgaaGreatDoorW.PrintWords
open Go.ChangeMaps (open_string shut_string)
theorem own : ownKnob Tryz.prog.godebug = none := by kernel_rfl
theorem laidOut : laidOutB Tryz.prog = true := by kernel_rfl
theorem opens50 : Opens Tryz.prog 50 k50 (fun y => ((Lit.int .i64 y.f0).wf = true ∧ y.f1.size ≤ 140737488351232)) := (Opens.struct (f := (fun x : S50 => (x.f0, x.f1))) (g := (fun a => (⟨a.1, a.2⟩ : S50))) Tryz.underlying50 (by kernel_rfl) (fun _ => rfl) (OpensF.cons rfl (by kernel_rfl) rfl (Opens.int Tryz.underlying3) (OpensF.one rfl (by kernel_rfl) (Opens.string Tryz.underlying9))))
set_option maxRecDepth 100000 in
theorem lifted (os : Os) (started : os.Started) (H : Type) (enc : TypeId × Value → H) :
    ReturnsInHanded {} Tryz.checked os 7 .any (fun w args => (Rows.commitLinksSpec.pre enc Tryz.prog Tryz.f7 [] false w args ∧ laidMetH Tryz.prog Rows.commitLinksRow.laid w) ∧ sizedMet enc Tryz.prog Tryz.f7 (OpenSpec.ofChange Rows.commitLinksSpec) false w args) (Rows.commitLinksSpec.post enc Tryz.prog Tryz.f7 false true false false) := by
  refine returnsInHanded_and_shaped (C := Tryz.checked) (X := fun w _ => laidMetH Tryz.prog Rows.commitLinksRow.laid w) (fun _ _ _ hh h => h.of_heap hh) own started (by kernel_rfl) Tryz.func7
    (ChangeSpec.witness_shaped (enc := enc) (C := Tryz.checked) (os := os) (X := fun w _ => laidMetH Tryz.prog Rows.commitLinksRow.laid w) false (World.laidAll Tryz.prog os Rows.commitLinksRow.laid) #[.agg #[.int .i64 0, .string ByteArray.empty]] 8 (World.laidAll_os _ _ _)
      (World.shaped_of_ZipB (by kernel_rfl) (by kernel_rfl)) (by kernel_rfl) (by kernel_rfl) (by kernel_rfl)
      (by rw [MakeChecks.laidMetH_plain _ _ _ (by kernel_rfl)]; exact laidMet_laidAll _ (by kernel_rfl) (by kernel_rfl))) ?_
  intro W base args ds gs before hval0 hW hcnd hsz0 hlm0 hsh0
  have hsz : (DataW.weightsEach Tryz.prog (Tryz.f7.params.toList ++ Rows.commitLinksSpec.plain.varTypes Tryz.prog) (ds ++ gs)).all (· ≤ reachBytes) = true := hsz0
  have hval : ∀ (j : Nat) t v, Tryz.f7.params[j]? = some t → args[j]? = some v → Value.okWide Tryz.prog W .any base t v := hval0
  have hW' := hW
  obtain ⟨p, q, hA0, hV, rfl, hfz, hnd⟩ := hW
  have hA : DataW.TrodAll enc Tryz.prog W 0 (fun _ => true) true Tryz.f7.params.toList args.toList ds p := hA0
  rw [Tryz.params7] at hA hval hsz
  obtain ⟨v0, vs0, d0, ds0, p0, q0, hargs, rfl, rfl, h0, r0⟩ := trodAll_cons hA
  obtain ⟨rfl, rfl, rfl⟩ := trodAll_nil r0
  obtain rfl : args = #[v0] := by cases args; simp_all
  obtain ⟨rfl, rfl⟩ := trodVars_none hV
  have lt0 := arg_lt h0
  obtain ⟨y0, hk0, w0⟩ := opens50.arg hsz (j := 0) rfl rfl h0
  obtain ⟨cs0, rfl, _⟩ := okWide_struct Tryz.underlying50 (hval 0 50 v0 rfl rfl)
  have hk0' := k50_open hk0
  have e0 := hk0'
  obtain rfl : cs0 = #[.int .i64 y0.f0, .string y0.f1] := by cases cs0; simpa [Value.cells] using e0
  obtain ⟨k, hp⟩ := Pure.CommitLinks _ w0
  clear hA0 hval0 hsz0 hsz
  refine (Q.qau_.calls k y0.f0 y0.f1 true W (GV.shaped hsh0 (l := Rows.commitLinksRow.laid) (by have h_ := hlm0; rw [MakeChecks.laidMetH_plain _ _ _ (by kernel_rfl)] at h_; exact h_) (.tail _ (.tail _ (.head _)))) hp).mono ?_
  rintro e W' ⟨rfl, bel0⟩
  have bel : Below W.heap.size W W' := bel0
  exact ⟨_, rfl, _, _, _, [], _, [], hW', trodAll_mk1 (shut_bool Tryz.underlying4 _), (trodAll_cons_mk (Below.trod laidOut (by kernel_rfl) (of_decide_eq_true (by kernel_rfl)) h0 bel lt0) trodAll_mk0), rfl, bel.frame _, fun h => by cases h⟩
theorem over : Rows.commitLinksRow.holds Tryz.pinned (OpenSpec.ofChange Rows.commitLinksSpec) :=
  OpenClaim.holds_of_wide 7 Tryz.f7 rfl rfl rfl rfl rfl rfl rfl ⟨rfl, rfl, rfl, rfl, rfl⟩ rfl rfl rfl rfl rfl (by kernel_rfl) Tryz.func7 joined
    (of_decide_eq_true (by kernel_rfl)) (by unfold Func.isWrapper; first | (rw [if_pos (by decide +kernel)]; kernel_rfl) | (rw [if_neg (by decide +kernel)]; exact ⟨rfl, rfl⟩))
    (fun os started H enc _ => lifted os started H enc)
theorem proved : Rows.CommitLinksSaid := over
theorem card_holds : Rows.CommitLinksCardSaid :=
  Claim7.holds_tied_plain_at .later [] [.data, .data, .data, .data, .sentinel, .sentinel, .pinned] true (true, "122aec7e533ec1bbbaac3b90e11b4338a89c93a5f0ce7185d6d93993e47251e7") true over (fun _ h => by cases h) jw (fun _ h => by cases h) commitLinks_row_tie rfl ⟨rfl, rfl⟩ jm rfl
    (fun f fn hf hfn => by
      obtain rfl : f = 7 := Option.some.inj ((show Tryz.prog.funcNamed "graftage/graftagelaw16.CommitLinks" = some 7 by kernel_rfl).symm.trans hf) |>.symm
      obtain rfl : fn = Tryz.f7 := (Option.some.inj (Tryz.func7.symm.trans hfn)).symm
      exact ⟨jl, fun j t ht => by
        rw [Tryz.params7] at ht
        have hm : t ∈ [50] := by simpa using Array.mem_of_getElem? ht
        have hall : ([50].all fun u => !Tryz.prog.wantsStandIn u) = true := by kernel_rfl
        exact (show Tryz.prog.wantsStandIn t = false by simpa using List.all_eq_true.1 hall t hm)⟩)
    jg
#print axioms card_holds
end Go.Proofs.YtbhfbbfjdklfgaaGreatDoor.commitLinks
namespace Go.Proofs.YtbhfbbfjdklfgaaGreatDoor
theorem commitLinks_holds : Rows.CommitLinksCardSaid := commitLinks.card_holds
end Go.Proofs.YtbhfbbfjdklfgaaGreatDoor

