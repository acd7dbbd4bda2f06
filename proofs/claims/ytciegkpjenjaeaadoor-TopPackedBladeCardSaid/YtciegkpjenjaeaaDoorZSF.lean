/- Sets of spots by bits: their lowest bit, one round of a range over them. -/
import Derived.Test.YtciegkpjenjaeaaDoorZS1
import Derived.Test.YtciegkpjenjaeaaDoorZU1
namespace Go.Proofs.YtciegkpjenjaeaaDoor.Ab.T02
open Go Go.RowKit
set_option linter.unusedVariables false
set_option linter.unusedSimpArgs false
set_option maxRecDepth 100000
/-- The set of one spot. -/
def pw (k : Nat) : Int := 2 ^ k
def ng (k : Nat) : Int := IntKind.u64.wrap (0 - pw k)
def pr (k : Nat) : Int := IntKind.u64.wrap (pw k * 285870213051353865)
def ix (k : Nat) : Nat := ((pr k).fdiv (2 ^ 58)).toNat
theorem tz_facts : ∀ k < 48, bits .and .u64 (pw k) (ng k) = pw k ∧ ((ix k : Nat) : Int) = (pr k).fdiv (2 ^ 58) ∧ ix k < 64 ∧ Go.Lib.deBruijn64tab.getD (ix k) 0 = k ∧ (pw k == 0) = false ∧ IntKind.u64.wrap (pw k) = pw k := by decide +kernel
def tabV : List Value := Go.Lib.deBruijn64tab.map fun n : Nat => Value.int .u8 (n : Int)
theorem tab_len : tabV.length = 64 := by decide +kernel
theorem tab_one : ∀ v ∈ tabV, v.oneCell' = true := fun v hv => by
  obtain ⟨n, _, rfl⟩ := List.mem_map.1 hv
  rfl
theorem tab_mem : ((0 : Nat), tabV) ∈ tabs := List.Mem.head _
theorem tab_arr : arr Tryd.prog 152 = some (tabV.length, 5, 1) := by rw [tab_len]; kernel_rfl
theorem take_one {L : List Value} {i : Nat} {v : Value} (h : L[i]? = some v) : List.take 1 (List.drop i (L.map DV.v)) = [.v v] := by
  have hi := (List.getElem?_eq_some_iff.1 h).1
  rw [List.drop_eq_getElem_cons (by simpa using hi), List.take_succ_cons, List.take_zero, List.getElem_map]
  rw [List.getElem?_eq_getElem hi] at h
  injection h with h
  rw [h]
theorem map_at {L : List Nat} {i k : Nat} (hi : i < L.length) (h : L.getD i 0 = k) : (L.map fun n : Nat => Value.int .u8 (n : Int))[i]? = some (.int .u8 (k : Int)) := by
  rw [List.getElem?_map, List.getElem?_eq_getElem hi]
  rw [List.getD_eq_getElem?_getD, List.getElem?_eq_getElem hi] at h
  have h' : L[i] = k := h
  rw [h']
  rfl
theorem tab0_len : Go.Lib.deBruijn64tab.length = 64 := by decide +kernel
theorem tab_at {k : Nat} (hk : k < 48) : (List.take 1 (List.drop (ix k) (tabV.map DV.v))) = [.v (.int .u8 (k : Int))] := by
  obtain ⟨_, _, h3, h4, _⟩ := tz_facts k hk
  exact take_one (map_at (by rw [tab0_len]; exact h3) h4)
theorem ix_lt {k : Nat} (hk : k < 48) : ix k < 64 := (tz_facts k hk).2.2.1
theorem ix_eq {k : Nat} (hk : k < 48) : (pr k).fdiv (2 ^ min 58 IntKind.u64.bits) = ((ix k : Nat) : Int) := by
  rw [show min 58 IntKind.u64.bits = 58 by decide]
  exact (tz_facts k hk).2.1.symm
theorem tz_spec (k : Nat) (hk : k < 48) : SpecF Tryd.prog 62 [.v (.int .u64 (pw k))] (.v (.int .i64 k)) [] := by
  have w : IntKind.i64.wrap (k : Int) = (k : Int) := wrap_id (by omega) (by omega)
  have h3 := ix_lt hk
  have q1 : (ix k + 1 ≤ 64) = True := eq_true h3
  have q2 : (ix k ≤ 63) = True := eq_true (Nat.le_of_lt_succ h3)
  have q3 : (ix k < 64) = True := eq_true h3
  have q4 : ((ix k : Nat) : Int) < (tabV.length : Nat) := by rw [tab_len]; exact Int.ofNat_lt.2 h3
  obtain ⟨h1, _, _, _, h5, _⟩ := tz_facts k hk
  have hn : IntKind.u64.wrap (0 - pw k) = ng k := rfl
  have hp : IntKind.u64.wrap (pw k * 285870213051353865) = pr k := rfl
  have ht := tab_at hk
  have hl := tab_len
  have h2' := ix_eq hk
  refine spec_go (N := 14) (rs := [.tmp 2]) (eq := eqs) rfl rfl fun_62 rfl (by kernel_rfl) (by kernel_rfl) (by simp) (by simp) (by simp) (by simp) fun R hR => ?_
  simp (maxSteps := 2000000) only [vcA, ↓vcP, ↓reduceIte, reduceCtorEq, Nat.reduceAdd, Nat.reduceMul, Nat.reduceSub, Nat.reduceLT, Nat.reduceLeDiff, Nat.reduceEqDiff, Nat.reduceBEq, Nat.reduceBNe, Nat.reduceGT, Nat.reduceDiv, Nat.reduceMod, Int.reduceAdd, Int.reduceSub, Int.reduceNeg, Int.reduceLT, Int.reduceLE, Int.reduceEq, Int.reduceToNat, fA, h5, hn, h1, hp, h2', onP_none, onM_none]
  try repeat (first | refine ⟨by kernel_rfl, ?_⟩ | refine ⟨⟨by kernel_rfl, by kernel_rfl⟩, ?_⟩ | refine ⟨⟨by kernel_rfl, by kernel_rfl, by kernel_rfl⟩, ?_⟩ | refine ⟨⟨by kernel_rfl, by kernel_rfl, by kernel_rfl, by kernel_rfl⟩, ?_⟩ | refine ⟨⟨by kernel_rfl, by kernel_rfl, by kernel_rfl, by kernel_rfl, by kernel_rfl⟩, ?_⟩ | refine ⟨⟨by kernel_rfl, by kernel_rfl, by kernel_rfl, by kernel_rfl, by kernel_rfl, by kernel_rfl⟩, ?_⟩ | refine ⟨⟨by kernel_rfl, by kernel_rfl, by kernel_rfl, by kernel_rfl, by kernel_rfl, by kernel_rfl, by kernel_rfl⟩, ?_⟩ | refine ⟨⟨by kernel_rfl, by kernel_rfl, by kernel_rfl, by kernel_rfl, by kernel_rfl, by kernel_rfl, by kernel_rfl, by kernel_rfl⟩, ?_⟩ | refine ⟨⟨by kernel_rfl, by kernel_rfl, by kernel_rfl, by kernel_rfl, by kernel_rfl, by kernel_rfl, by kernel_rfl, by kernel_rfl, by kernel_rfl⟩, ?_⟩ | refine ⟨⟨by kernel_rfl, by kernel_rfl, by kernel_rfl, by kernel_rfl, by kernel_rfl, by kernel_rfl, by kernel_rfl, by kernel_rfl, by kernel_rfl, by kernel_rfl⟩, ?_⟩ | refine ⟨⟨by kernel_rfl, by kernel_rfl, by kernel_rfl, by kernel_rfl, by kernel_rfl, by kernel_rfl, by kernel_rfl, by kernel_rfl, by kernel_rfl, by kernel_rfl, by kernel_rfl⟩, ?_⟩ | refine ⟨⟨by kernel_rfl, by kernel_rfl, by kernel_rfl, by kernel_rfl, by kernel_rfl, by kernel_rfl, by kernel_rfl, by kernel_rfl, by kernel_rfl, by kernel_rfl, by kernel_rfl, by kernel_rfl⟩, ?_⟩ | refine ⟨⟨by kernel_rfl, by kernel_rfl, by kernel_rfl, by kernel_rfl, by kernel_rfl, by kernel_rfl, by kernel_rfl, by kernel_rfl, by kernel_rfl, by kernel_rfl, by kernel_rfl, by kernel_rfl, by kernel_rfl⟩, ?_⟩)
  refine ⟨_, _, sem_table (g := 0) (tab := tabV) (kq := .u64) (i := ((ix k : Nat) : Int)) (e := 5) tab_mem tab_arr (by kernel_rfl) (Int.natCast_nonneg _) q4 tab_one, ?_⟩
  rw [hl, Int.toNat_natCast]
  simp (maxSteps := 2000000) only [vcA, ↓vcP, ↓reduceIte, reduceCtorEq, Nat.reduceAdd, Nat.reduceMul, Nat.reduceSub, Nat.reduceLT, Nat.reduceLeDiff, Nat.reduceEqDiff, Nat.reduceBEq, Nat.reduceBNe, Nat.reduceGT, Nat.reduceDiv, Nat.reduceMod, Int.reduceAdd, Int.reduceSub, Int.reduceNeg, Int.reduceLT, Int.reduceLE, Int.reduceEq, Int.reduceToNat, fA, elpLoad, ht, q1, q2, q3, List.getD_cons_zero, w]
  try repeat (first | refine ⟨by kernel_rfl, ?_⟩ | refine ⟨⟨by kernel_rfl, by kernel_rfl⟩, ?_⟩ | refine ⟨⟨by kernel_rfl, by kernel_rfl, by kernel_rfl⟩, ?_⟩ | refine ⟨⟨by kernel_rfl, by kernel_rfl, by kernel_rfl, by kernel_rfl⟩, ?_⟩ | refine ⟨⟨by kernel_rfl, by kernel_rfl, by kernel_rfl, by kernel_rfl, by kernel_rfl⟩, ?_⟩ | refine ⟨⟨by kernel_rfl, by kernel_rfl, by kernel_rfl, by kernel_rfl, by kernel_rfl, by kernel_rfl⟩, ?_⟩ | refine ⟨⟨by kernel_rfl, by kernel_rfl, by kernel_rfl, by kernel_rfl, by kernel_rfl, by kernel_rfl, by kernel_rfl⟩, ?_⟩ | refine ⟨⟨by kernel_rfl, by kernel_rfl, by kernel_rfl, by kernel_rfl, by kernel_rfl, by kernel_rfl, by kernel_rfl, by kernel_rfl⟩, ?_⟩ | refine ⟨⟨by kernel_rfl, by kernel_rfl, by kernel_rfl, by kernel_rfl, by kernel_rfl, by kernel_rfl, by kernel_rfl, by kernel_rfl, by kernel_rfl⟩, ?_⟩ | refine ⟨⟨by kernel_rfl, by kernel_rfl, by kernel_rfl, by kernel_rfl, by kernel_rfl, by kernel_rfl, by kernel_rfl, by kernel_rfl, by kernel_rfl, by kernel_rfl⟩, ?_⟩ | refine ⟨⟨by kernel_rfl, by kernel_rfl, by kernel_rfl, by kernel_rfl, by kernel_rfl, by kernel_rfl, by kernel_rfl, by kernel_rfl, by kernel_rfl, by kernel_rfl, by kernel_rfl⟩, ?_⟩ | refine ⟨⟨by kernel_rfl, by kernel_rfl, by kernel_rfl, by kernel_rfl, by kernel_rfl, by kernel_rfl, by kernel_rfl, by kernel_rfl, by kernel_rfl, by kernel_rfl, by kernel_rfl, by kernel_rfl⟩, ?_⟩ | refine ⟨⟨by kernel_rfl, by kernel_rfl, by kernel_rfl, by kernel_rfl, by kernel_rfl, by kernel_rfl, by kernel_rfl, by kernel_rfl, by kernel_rfl, by kernel_rfl, by kernel_rfl, by kernel_rfl, by kernel_rfl⟩, ?_⟩)
  refine hR _ (fin_of0 ?_)
  simp (maxSteps := 2000000) only [enA, ↓enP, Nat.reduceAdd, Nat.reduceMul, Nat.reduceSub, Nat.reduceLT, Nat.reduceLeDiff, Nat.reduceEqDiff, Nat.reduceBEq, ↓reduceIte, reduceCtorEq, fA]
  try rfl
end Go.Proofs.YtciegkpjenjaeaaDoor.Ab.T02
