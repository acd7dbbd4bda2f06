/- The law TopWeighedBoxes holds: for every input it returns true, and its arguments read as before. -/
import Derived.Test.YtmkholodkejomaaRows
import Derived.Test.YtmkholodkejomaaZRX
import Derived.Test.YtmkholodkejomaaZAbS
import Derived.WalkKit
import Derived.ProofKit
import Derived.OpenShut
import Derived.ShutString
import Derived.ChangeOld
import Derived.Below
import Derived.SizedLaws
namespace Go.Proofs.Ytmkholodkejomaa.topWeighedBoxes
open Go Go.ChangeShapes Go.WideShapes Go.ChangeAt Go.RowKit Go.Proofs.Ytmkholodkejomaa.Ab Go.Proofs.Ytmkholodkejomaa.Ab.T08
set_option linter.unusedVariables false
set_option maxRecDepth 100000
theorem own : ownKnob Try.prog.godebug = none := by kernel_rfl
theorem laidOut : laidOutB Try.prog = true := by kernel_rfl
theorem lifted (os : Os) (started : os.Started) (H : Type) (enc : TypeId × Value → H) :
    ReturnsInHanded {} Try.checked os 4 .any (Rows.topWeighedBoxesSpec.pre6 enc Try.prog Try.f4 Rows.topWeighedBoxesRow.domain false) (Rows.topWeighedBoxesSpec.post enc Try.prog Try.f4 false true false false) := by
  refine returnsInHanded_of_change_sized (C := Try.checked) own started (by kernel_rfl) Try.func4
    (ChangeSpec.witness6 (enc := enc) (C := Try.checked) false ⟨#[], #[.slice none 0 0, .int .u8 0], []⟩ 8 (by kernel_rfl) (by kernel_rfl) (by kernel_rfl) (by kernel_rfl)) ?_
  intro W base args ds gs before hval0 hW hcnd hsz0 _
  have hval : ∀ (j : Nat) t v, Try.f4.params[j]? = some t → args[j]? = some v → Value.okWide Try.prog W .any base t v := hval0
  have hW' := hW
  obtain ⟨p, q, hA0, hV, rfl, hfz, hnd⟩ := hW
  have hA : DataW.TrodAll enc Try.prog W 0 (fun _ => true) true Try.f4.params.toList args.toList ds p := hA0
  rw [Try.params4] at hA hval
  obtain ⟨v0, vs0, d0, ds0, p0, q0, hargs, rfl, rfl, h0, r0⟩ := trodAll_cons hA
  obtain ⟨v1, vs1, d1, ds1, p1, q1, rfl, rfl, rfl, h1, r1⟩ := trodAll_cons r0
  obtain ⟨rfl, rfl, rfl⟩ := trodAll_nil r1
  obtain rfl : args = #[v0, v1] := by cases args; simp_all
  obtain ⟨rfl, rfl⟩ := trodVars_none hV
  have k0 := h0
  have lt0 : ∀ x ∈ p0, x.block < W.heap.size := by obtain ⟨m, hm⟩ := k0; exact DataW.trod_lt m _ _ _ hm
  have k1 := h1
  have lt1 : ∀ x ∈ p1, x.block < W.heap.size := by obtain ⟨m, hm⟩ := k1; exact DataW.trod_lt m _ _ _ hm
  obtain ⟨e0, l0, f0, g0⟩ := arg_slice (n := 6) (row := [.int .u8, .int .u8]) (by kernel_rfl) Try.underlying22 (hval 0 22 v0 rfl rfl) h0
  obtain ⟨a0, rfl, o0⟩ := rows_okF b2R fit_b2 f0
  obtain ⟨a1, w1, o1⟩ := u8_arg Try.underlying5 (hval 1 5 v1 rfl rfl)
  have g1 : Rep W (mem0 W) (.v (.int .u8 a1)) v1 := by rw [w1]; exact .v _
  clear hA0 hval0 hsz0
  refine (law_calls (weighed_spec a0 a1 o0 o1) (w := W) (vs := #[v0, v1]) rfl (fun i a ha => ?_)).mono fun e W' ⟨he, bel⟩ => ?_
  · match i, ha with
    | 0, ha => cases ha; exact g0
    | 1, ha => cases ha; exact g1
  subst he
  exact ⟨_, rfl, _, _, _, [], _, [], hW', trodAll_mk1 (shut_bool Try.underlying4 _), (trodAll_cons_mk (Below.trod laidOut (by kernel_rfl) (of_decide_eq_true (by kernel_rfl)) k0 bel lt0) (trodAll_cons_mk (Below.trod laidOut (by kernel_rfl) (of_decide_eq_true (by kernel_rfl)) k1 bel lt1) trodAll_mk0)), rfl, bel.frame _, fun h => by cases h⟩
theorem over : Rows.topWeighedBoxesRow.holds Try.pinned (OpenSpec.ofChange Rows.topWeighedBoxesSpec) :=
  OpenClaim.holds_of_wide 4 Try.f4 rfl rfl rfl rfl rfl rfl rfl ⟨rfl, rfl, rfl, rfl, rfl⟩ rfl rfl rfl rfl rfl (by kernel_rfl) Try.func4 (by kernel_rfl)
    (of_decide_eq_true (by kernel_rfl)) (by unfold Func.isWrapper; first | (rw [if_pos (by decide +kernel)]; kernel_rfl) | (rw [if_neg (by decide +kernel)]; exact ⟨rfl, rfl⟩))
    (fun os started H enc _ => lifted os started H enc)
theorem proved : Rows.TopWeighedBoxesSaid := over
end Go.Proofs.Ytmkholodkejomaa.topWeighedBoxes
namespace Go.Proofs.Ytmkholodkejomaa
/-- The law, under a short name. -/
theorem topWeighedBoxes_holds : Rows.TopWeighedBoxesSaid := topWeighedBoxes.proved
#print axioms topWeighedBoxes_holds
end Go.Proofs.Ytmkholodkejomaa
