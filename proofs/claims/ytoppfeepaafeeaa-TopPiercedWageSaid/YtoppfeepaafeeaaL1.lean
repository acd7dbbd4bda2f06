/- The law TopPiercedWage holds: for every input it returns true, and its arguments read as before. -/
import Derived.Test.YtoppfeepaafeeaaRows
import Derived.Test.YtoppfeepaafeeaaW7
import Derived.Test.YtoppfeepaafeeaaAbS
import Derived.WalkKit
import Derived.ProofKit
import Derived.OpenShut
import Derived.ShutString
import Derived.ChangeOld
import Derived.Below
import Derived.SizedLaws
namespace Go.Proofs.Ytoppfeepaafeeaa.topPiercedWage
open Go Go.ChangeShapes Go.WideShapes Go.ChangeAt Go.RowKit Go.Proofs.Ytoppfeepaafeeaa.Ab
set_option linter.unusedVariables false
set_option maxRecDepth 100000
theorem own : ownKnob Try.prog.godebug = none := by kernel_rfl
theorem laidOut : laidOutB Try.prog = true := by kernel_rfl
theorem fit_u8 {n : Int} (h : (Lit.int .u8 n).wf = true) : 0 ≤ n ∧ n < 256 := by
  simp [Lit.wf, IntKind.min, IntKind.max, IntKind.signed, IntKind.bits] at h
  omega
theorem fit_u16 {n : Int} (h : (Lit.int .u16 n).wf = true) : 0 ≤ n ∧ n < 65536 := by
  simp [Lit.wf, IntKind.min, IntKind.max, IntKind.signed, IntKind.bits] at h
  omega
theorem fit_int {k : IntKind} {l : List Cl} {ds : List DV} (h : FitL (.int k :: l) ds) : ∃ n ds', ds = .v (.int k n) :: ds' ∧ (Lit.int k n).wf = true ∧ FitL l ds' := by
  cases ds with
  | nil => exact h.elim
  | cons d ds =>
    obtain ⟨h1, h2⟩ := h
    cases d with
    | sl => exact h1.elim
    | v x =>
      cases x with
      | int k' n => obtain ⟨rfl, hw⟩ := h1; exact ⟨n, ds, rfl, hw, h2⟩
      | _ => exact h1.elim
theorem fit_nil {ds : List DV} (h : FitL [] ds) : ds = [] := by
  cases ds with
  | nil => rfl
  | cons => exact h.elim
theorem lifted (os : Os) (started : os.Started) (H : Type) (enc : TypeId × Value → H) :
    ReturnsInHanded {} Try.checked os 3 .any (Rows.topPiercedWageSpec.pre6 enc Try.prog Try.f3 Rows.topPiercedWageRow.domain false) (Rows.topPiercedWageSpec.post enc Try.prog Try.f3 false true false false) := by
  refine returnsInHanded_of_change_sized (C := Try.checked) own started (by kernel_rfl) Try.func3
    (ChangeSpec.witness6 (enc := enc) (C := Try.checked) false ⟨#[], #[.agg #[.int .u8 0, .int .u8 0, .int .u8 0, .int .u8 0, .int .u8 0], .agg #[.int .u8 0, .int .u8 0], .agg #[.int .u16 0, .int .u16 0]], []⟩ 8 (by kernel_rfl) (by kernel_rfl) (by kernel_rfl) (by kernel_rfl)) ?_
  intro W base args ds gs before hval0 hW hcnd hsz0 _
  have hval : ∀ (j : Nat) t v, Try.f3.params[j]? = some t → args[j]? = some v → Value.okWide Try.prog W .any base t v := hval0
  have hW' := hW
  obtain ⟨p, q, hA0, hV, rfl, hfz, hnd⟩ := hW
  have hA : DataW.TrodAll enc Try.prog W 0 (fun _ => true) true Try.f3.params.toList args.toList ds p := hA0
  rw [Try.params3] at hA hval
  obtain ⟨v0, vs0, d0, ds0, p0, q0, hargs, rfl, rfl, h0, r0⟩ := trodAll_cons hA
  obtain ⟨v1, vs1, d1, ds1, p1, q1, rfl, rfl, rfl, h1, r1⟩ := trodAll_cons r0
  obtain ⟨v2, vs2, d2, ds2, p2, q2, rfl, rfl, rfl, h2, r2⟩ := trodAll_cons r1
  obtain ⟨rfl, rfl, rfl⟩ := trodAll_nil r2
  obtain rfl : args = #[v0, v1, v2] := by cases args; simp_all
  obtain ⟨rfl, rfl⟩ := trodVars_none hV
  have k0 := h0
  have k1 := h1
  have k2 := h2
  have lt0 : ∀ x ∈ p0, x.block < W.heap.size := by obtain ⟨m, hm⟩ := k0; exact DataW.trod_lt m _ _ _ hm
  have lt1 : ∀ x ∈ p1, x.block < W.heap.size := by obtain ⟨m, hm⟩ := k1; exact DataW.trod_lt m _ _ _ hm
  have lt2 : ∀ x ∈ p2, x.block < W.heap.size := by obtain ⟨m, hm⟩ := k2; exact DataW.trod_lt m _ _ _ hm
  obtain ⟨e0, f0, g0⟩ := arg_agg (n := 3) (row := [.int .u8, .int .u8, .int .u8, .int .u8, .int .u8]) (by kernel_rfl) (by kernel_rfl) (hval 0 22 v0 rfl rfl) h0
  obtain ⟨e1, f1, g1⟩ := arg_agg (n := 3) (row := [.int .u8, .int .u8]) (by kernel_rfl) (by kernel_rfl) (hval 1 23 v1 rfl rfl) h1
  obtain ⟨e2, f2, g2⟩ := arg_agg (n := 3) (row := [.int .u16, .int .u16]) (by kernel_rfl) (by kernel_rfl) (hval 2 25 v2 rfl rfl) h2
  obtain ⟨a0, _, rfl, b0, f0⟩ := fit_int f0
  obtain ⟨a1, _, rfl, b1, f0⟩ := fit_int f0
  obtain ⟨a2, _, rfl, b2, f0⟩ := fit_int f0
  obtain ⟨a3, _, rfl, b3, f0⟩ := fit_int f0
  obtain ⟨a4, _, rfl, b4, f0⟩ := fit_int f0
  obtain rfl := fit_nil f0
  obtain ⟨a5, _, rfl, b5, f1⟩ := fit_int f1
  obtain ⟨a6, _, rfl, b6, f1⟩ := fit_int f1
  obtain rfl := fit_nil f1
  obtain ⟨a7, _, rfl, b7, f2⟩ := fit_int f2
  obtain ⟨a8, _, rfl, b8, f2⟩ := fit_int f2
  obtain rfl := fit_nil f2
  clear hA0 hval0 hsz0
  refine (law_calls (law_spec a0 a1 a2 a3 a4 a5 a6 a7 a8 (fit_u8 b0) (fit_u8 b1) (fit_u8 b2) (fit_u8 b3) (fit_u8 b4) (fit_u8 b5) (fit_u8 b6) (fit_u16 b7) (fit_u16 b8)) (w := W) (vs := #[v0, v1, v2]) rfl (fun i a ha => ?_)).mono fun e W' ⟨he, bel⟩ => ?_
  · match i, ha with
    | 0, ha => cases ha; exact g0
    | 1, ha => cases ha; exact g1
    | 2, ha => cases ha; exact g2
  subst he
  exact ⟨_, rfl, _, _, _, [], _, [], hW', trodAll_mk1 (shut_bool Try.underlying4 _), (trodAll_cons_mk (Below.trod laidOut (by kernel_rfl) (of_decide_eq_true (by kernel_rfl)) k0 bel lt0) (trodAll_cons_mk (Below.trod laidOut (by kernel_rfl) (of_decide_eq_true (by kernel_rfl)) k1 bel lt1) (trodAll_cons_mk (Below.trod laidOut (by kernel_rfl) (of_decide_eq_true (by kernel_rfl)) k2 bel lt2) trodAll_mk0))), rfl, bel.frame _, fun h => by cases h⟩
theorem over : Rows.topPiercedWageRow.holds Try.pinned (OpenSpec.ofChange Rows.topPiercedWageSpec) :=
  OpenClaim.holds_of_wide 3 Try.f3 rfl rfl rfl rfl rfl rfl rfl ⟨rfl, rfl, rfl, rfl, rfl⟩ rfl rfl rfl rfl rfl (by kernel_rfl) Try.func3 (by kernel_rfl)
    (of_decide_eq_true (by kernel_rfl)) (by unfold Func.isWrapper; first | (rw [if_pos (by decide +kernel)]; kernel_rfl) | (rw [if_neg (by decide +kernel)]; exact ⟨rfl, rfl⟩))
    (fun os started H enc _ => lifted os started H enc)
theorem proved : Rows.TopPiercedWageSaid := over
end Go.Proofs.Ytoppfeepaafeeaa.topPiercedWage
namespace Go.Proofs.Ytoppfeepaafeeaa
/-- The law, under a short name. -/
theorem topPiercedWage_holds : Rows.TopPiercedWageSaid := topPiercedWage.proved
#print axioms topPiercedWage_holds
end Go.Proofs.Ytoppfeepaafeeaa
