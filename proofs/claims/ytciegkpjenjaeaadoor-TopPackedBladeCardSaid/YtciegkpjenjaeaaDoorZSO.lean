/- The law TopPackedBlade holds: for every input it returns true, and its arguments read as before, where the table math/bits.deBruijn64tab reads as the program's own text lays it (the card ties it to that text; the card is proved). -/
import Derived.Test.YtciegkpjenjaeaaDoorRows
import Derived.Test.YtciegkpjenjaeaaDoorZSM
import Derived.Test.YtciegkpjenjaeaaDoorZY4
import Derived.Test.YtciegkpjenjaeaaDoorTie
import Derived.Test.YtciegkpjenjaeaaDoorCards
import Derived.Test.YtciegkpjenjaeaaDoorZAbS
import Derived.WalkKit
import Derived.ProofKit
import Derived.OpenShut
import Derived.ShutString
import Derived.ChangeOld
import Derived.Below
import Derived.SizedLaws
import Derived.LaidMore
import Derived.Lib.LaidTab
import Derived.SevenTiedAt
import Derived.Stop.Joined
namespace Go.Proofs.YtciegkpjenjaeaaDoor.topPackedBlade
open Go Go.ChangeShapes Go.WideShapes Go.ChangeAt Go.RowKit Go.Proofs.YtciegkpjenjaeaaDoor.Ab 
set_option linter.unusedVariables false
set_option maxRecDepth 100000
theorem own : ownKnob Tryd.prog.godebug = none := by kernel_rfl
theorem laidOut : laidOutB Tryd.prog = true := by kernel_rfl
abbrev laid1 : List (String × DataW Unit) := [("math/bits.deBruijn64tab", Rows.laid_math_bits_deBruijn64tab)]
def tabI : List Int := Go.Lib.deBruijn64tab.map fun n : Nat => (n : Int)
theorem tab_data : (Rows.laid_math_bits_deBruijn64tab : DataW Unit) = Lib.tabData .u8 tabI := by kernel_rfl
theorem gTab : Tryd.prog.globalNamed "math/bits.deBruijn64tab" = some 0 := by kernel_rfl
theorem tTab : (Tryd.prog.globals[0]?).map (·.type) = some 152 := by kernel_rfl
theorem door_met (os : Os) (args : Array Value) : laidMetH Tryd.prog laid1 ((World.doorLaid Tryd.prog 400 os).forCall (fun _ _ => 0) ⟨#[], args, []⟩).memory :=
  laidMetH_of_parts3 (fuel := 8) (laidMet_of_run' 8 (by kernel_rfl) (by kernel_rfl)) (by kernel_rfl) (by kernel_rfl)
/-- What the condition says of the table's cells. -/
theorem of_laid {W : World} (h : laidMetH Tryd.prog laid1 W) : TabOk (mem0 W).I W := by
  rw [MakeChecks.laidMetH_plain _ _ _ (by kernel_rfl)] at h
  have h' : laidMet Tryd.prog (("math/bits.deBruijn64tab", Lib.tabData .u8 tabI) :: []) W := by rw [← tab_data]; exact h
  have hT := Lib.tabIs_of_head gTab tTab (t := 152) (e := 5) (n := 64) (by kernel_rfl) (by kernel_rfl) (by kernel_rfl) (by kernel_rfl) h'
  have hc : ∀ i, i < tabI.length → W.cell? ⟨0, i, none⟩ = some (.int .u8 (tabI.getD i 0)) := fun i hi => hT.cell gTab i hi
  have hl : tabI.length = 64 := by decide +kernel
  intro p hp
  obtain rfl : p = ((0 : Nat), T02.tabV) := List.mem_singleton.1 hp
  refine ⟨?_, fun j v hj => ?_⟩
  · have := hc 0 (by omega)
    show 0 < W.heap.size
    rcases Nat.eq_zero_or_pos W.heap.size with h0 | h0
    · exfalso
      unfold World.cell? at this
      rw [Array.getElem?_eq_none (by omega)] at this
      cases this
    · exact h0
  · have hjl : j < tabI.length := by
      have h9 : j < T02.tabV.length := (List.getElem?_eq_some_iff.1 hj).1
      have e : T02.tabV.length = tabI.length := by simp [T02.tabV, tabI]
      omega
    rw [hc j hjl]
    have e : T02.tabV = tabI.map (Value.int .u8) := by simp [T02.tabV, tabI]
    rw [e, List.getElem?_map, List.getElem?_eq_getElem hjl] at hj
    rw [← hj, List.getD_eq_getElem?_getD, List.getElem?_eq_getElem hjl]
    rfl
theorem lifted (os : Os) (started : os.Started) (H : Type) (enc : TypeId × Value → H) :
    ReturnsInHanded {} Tryd.checked os 3 .any (fun w args => (Rows.topPackedBladeSpec.pre enc Tryd.prog Tryd.f3 [] false w args ∧ laidMetH Tryd.prog laid1 w) ∧ sizedMet enc Tryd.prog Tryd.f3 (OpenSpec.ofChange Rows.topPackedBladeSpec) false w args)
      (Rows.topPackedBladeSpec.post enc Tryd.prog Tryd.f3 false true false false) := by
  refine returnsInHanded_of_change_and (C := Tryd.checked) (X := fun w _ => laidMetH Tryd.prog laid1 w) (fun _ _ _ hh h => h.of_heap hh) own started (by kernel_rfl) Tryd.func3
    (ChangeSpec.witness_shaped (enc := enc) (C := Tryd.checked) (os := os) (X := fun w _ => laidMetH Tryd.prog laid1 w) false (World.doorLaid Tryd.prog 400 os) #[.agg #[.int .u8 0, .int .u8 0, .int .u8 0, .int .u8 0, .int .u8 0, .int .u8 0, .int .u8 0, .int .u8 0, .int .u8 0, .int .u8 0, .int .u8 0, .int .u8 0, .int .u8 0, .int .u8 0, .int .u8 0, .int .u8 0, .int .u8 0, .int .u8 0, .int .u8 0, .int .u8 0, .int .u8 0, .int .u8 0, .int .u8 0, .int .u8 0, .int .u8 0, .slice none 0 0, .int .u8 0, .int .u8 0, .int .u8 0, .int .u8 0], .agg #[.int .u8 0, .int .u8 0, .int .u8 0]] 8 rfl (World.shaped_of_RefB (by kernel_rfl) (by kernel_rfl)) (by kernel_rfl) (by kernel_rfl) (by kernel_rfl) (door_met os _)) ?_
  intro W base args ds gs before hval0 hW _ hsz0 hL _
  have hval : ∀ (j : Nat) t v, Tryd.f3.params[j]? = some t → args[j]? = some v → Value.okWide Tryd.prog W .any base t v := hval0
  have hW' := hW
  obtain ⟨p, q, hA0, hV, rfl, hfz, hnd⟩ := hW
  have hA : DataW.TrodAll enc Tryd.prog W 0 (fun _ => true) true Tryd.f3.params.toList args.toList ds p := hA0
  rw [Tryd.params3] at hA hval
  obtain ⟨v0, vs0, d0, ds0, p0, q0, hargs, rfl, rfl, h0, r0⟩ := trodAll_cons hA
  obtain ⟨v1, vs1, d1, ds1, p1, q1, rfl, rfl, rfl, h1, r1⟩ := trodAll_cons r0
  obtain ⟨rfl, rfl, rfl⟩ := trodAll_nil r1
  obtain rfl : args = #[v0, v1] := by cases args; simp_all
  obtain ⟨rfl, rfl⟩ := trodVars_none hV
  have k0 := h0
  have lt0 : ∀ x ∈ p0, x.block < W.heap.size := by obtain ⟨m, hm⟩ := k0; exact DataW.trod_lt m _ _ _ hm
  have k1 := h1
  have lt1 : ∀ x ∈ p1, x.block < W.heap.size := by obtain ⟨m, hm⟩ := k1; exact DataW.trod_lt m _ _ _ hm
  obtain ⟨e0, f0, g0⟩ := arg_agg (n := 6) (row := [.int .u8, .int .u8, .int .u8, .int .u8, .int .u8, .int .u8, .int .u8, .int .u8, .int .u8, .int .u8, .int .u8, .int .u8, .int .u8, .int .u8, .int .u8, .int .u8, .int .u8, .int .u8, .int .u8, .int .u8, .int .u8, .int .u8, .int .u8, .int .u8, .int .u8, .slice [.int .u8, .int .u8, .int .u8], .int .u8, .int .u8, .int .u8, .int .u8]) (by kernel_rfl) (by kernel_rfl) (hval 0 27 v0 rfl rfl) h0
  obtain ⟨a0, o0, j0⟩ := T01.fit_ot f0
  rw [j0] at g0
  obtain ⟨e1, f1, g1⟩ := arg_agg (n := 6) (row := [.int .u8, .int .u8, .int .u8]) (by kernel_rfl) (by kernel_rfl) (hval 1 28 v1 rfl rfl) h1
  obtain ⟨a1, o1, j1⟩ := T01.fit_3 f1
  rw [j1] at g1
  clear hA0 hval0 hsz0
  refine (law_calls (T14.packed_spec a0 o0 a1.a a1.b a1.c o1.a o1.b o1.c) (w := W) (vs := #[v0, v1]) rfl (fun i a ha => ?_) (of_laid hL)).mono fun e W' ⟨he, bel⟩ => ?_
  · match i, ha with
    | 0, ha => cases ha; exact g0
    | 1, ha => cases ha; exact g1
  subst he
  exact ⟨_, rfl, _, _, _, [], _, [], hW', trodAll_mk1 (shut_bool Tryd.underlying4 _), (trodAll_cons_mk (Below.trod laidOut (by kernel_rfl) (of_decide_eq_true (by kernel_rfl)) k0 bel lt0) (trodAll_cons_mk (Below.trod laidOut (by kernel_rfl) (of_decide_eq_true (by kernel_rfl)) k1 bel lt1) trodAll_mk0)), rfl, bel.frame _, fun h => by cases h⟩
theorem over : Rows.topPackedBladeRow.holds Tryd.pinned (OpenSpec.ofChange Rows.topPackedBladeSpec) :=
  OpenClaim.holds_of_wide 3 Tryd.f3 rfl rfl rfl rfl rfl rfl rfl ⟨rfl, rfl, rfl, rfl, rfl⟩ rfl rfl rfl rfl rfl (by kernel_rfl) Tryd.func3 (by kernel_rfl)
    (of_decide_eq_true (by kernel_rfl)) (by unfold Func.isWrapper; first | (rw [if_pos (by decide +kernel)]; kernel_rfl) | (rw [if_neg (by decide +kernel)]; exact ⟨rfl, rfl⟩))
    (fun os started H enc _ => lifted os started H enc)
/-- The tied card. -/
theorem proved : Rows.TopPackedBladeCardSaid :=
  Claim7.holds_tied_plain_at .later [] [.data] true (true, "388088b27231082348b8b1da50f71bca9ad7a3011d10fca760863301096b1e75") false
    over (fun _ h => by cases h) (by kernel_rfl) (fun _ h => by cases h) topPackedBlade_row_tie rfl ⟨rfl, rfl⟩ (by kernel_rfl) rfl
    (fun f fn hf hfn => by
      obtain rfl : f = 3 := Option.some.inj ((show Tryd.prog.funcNamed "panache/panachetop.TopPackedBlade" = some 3 by kernel_rfl).symm.trans hf) |>.symm
      obtain rfl : fn = Tryd.f3 := (Option.some.inj (Tryd.func3.symm.trans hfn)).symm
      exact ⟨by kernel_rfl, fun j t ht => by
        rw [Tryd.params3] at ht
        have hm : t ∈ [27, 28] := by simpa using Array.mem_of_getElem? ht
        have hall : ([27, 28].all fun u => !Tryd.prog.wantsStandIn u) = true := by kernel_rfl
        exact (show Tryd.prog.wantsStandIn t = false by simpa using List.all_eq_true.1 hall t hm)⟩)
    (by kernel_rfl)
end Go.Proofs.YtciegkpjenjaeaaDoor.topPackedBlade
namespace Go.Proofs.YtciegkpjenjaeaaDoor
/-- The law, under a short name. -/
theorem topPackedBlade_holds : Rows.TopPackedBladeCardSaid := topPackedBlade.proved
#print axioms topPackedBlade_holds
end Go.Proofs.YtciegkpjenjaeaaDoor
