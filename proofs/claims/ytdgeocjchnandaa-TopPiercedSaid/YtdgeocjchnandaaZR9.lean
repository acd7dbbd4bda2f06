/- The reference: the sticks of a block. The sticks of a block by the reference are those of the program: plain. The law's helpers: a copy, the same, large blades, the errors. -/
import Derived.Test.YtdgeocjchnandaaZR7
namespace Go.Proofs.Ytdgeocjchnandaa.Ab.T01
open Go Go.RowKit
set_option linter.unusedSimpArgs false
set_option linter.unusedVariables false
set_option maxRecDepth 100000
/-- The sticks from a height on, each as low as it can be. -/
def greedy (g : Int → Bool) (st : Nat) : Nat → Nat → List Int
  | 0, _ => []
  | f + 1, y => if y ≤ 300 then if g y then (y : Int) :: greedy g st f (y + st) else greedy g st f (y + 1) else []
theorem greedy_fuel {g : Int → Bool} {st : Nat} (hs : 1 ≤ st) : ∀ (f f' y : Nat), 301 - y ≤ f → 301 - y ≤ f' → greedy g st f y = greedy g st f' y
  | 0, 0, _, _, _ => rfl
  | 0, f' + 1, y, h, _ => by rw [greedy, greedy, if_neg (by omega)]
  | f + 1, 0, y, _, h => by rw [greedy, greedy, if_neg (by omega)]
  | f + 1, f' + 1, y, h, h' => by
    rw [greedy, greedy]
    by_cases hc : y ≤ 300
    · rw [if_pos hc, if_pos hc, greedy_fuel hs f f' (y + st) (by omega) (by omega), greedy_fuel hs f f' (y + 1) (by omega) (by omega)]
    · rw [if_neg hc, if_neg hc]
def grd (g : Int → Bool) (st y : Nat) : List Int := greedy g st (301 - y) y
theorem grd_end {g : Int → Bool} {st y : Nat} (h : 300 < y) : grd g st y = [] := by
  unfold grd
  rw [show 301 - y = 0 by omega]
  rfl
theorem grd_step {g : Int → Bool} {st y : Nat} (hs : 1 ≤ st) (h : y ≤ 300) : grd g st y = if g y then (y : Int) :: grd g st (y + st) else grd g st (y + 1) := by
  unfold grd
  rw [show 301 - y = (300 - y) + 1 by omega, greedy, if_pos h, greedy_fuel hs (300 - y) (301 - (y + st)) _ (by omega) (by omega), greedy_fuel hs (300 - y) (301 - (y + 1)) _ (by omega) (by omega)]
/-- How many sticks there can be from a height on. -/
def oneF (g : Int → Bool) (y : Nat) : Nat := if g y then 1 else 0
def mny (g : Int → Bool) (st y : Nat) : Nat := bst (oneF g) 301 1 st y
theorem mny_end {g : Int → Bool} {st y : Nat} (h : 300 < y) : mny g st y = 0 := bst_end (by omega)
theorem mny_step0 {g : Int → Bool} {st y : Nat} (hs : 1 ≤ st) (h : y ≤ 300) : mny g st y = max (mny g st (y + 1)) (oneF g y + mny g st (y + st)) := bst_step hs (by omega) (by omega)
theorem mny_mono1 {g : Int → Bool} {st : Nat} (hs : 1 ≤ st) (y : Nat) : mny g st (y + 1) ≤ mny g st y := by
  by_cases h : y ≤ 300
  · rw [mny_step0 hs h]; omega
  · rw [mny_end (by omega)]; omega
theorem mny_mono {g : Int → Bool} {st : Nat} (hs : 1 ≤ st) (y : Nat) : ∀ d, mny g st (y + d) ≤ mny g st y
  | 0 => Nat.le_refl _
  | d + 1 => Nat.le_trans (mny_mono1 hs (y + d)) (mny_mono hs y d)
theorem mny_step {g : Int → Bool} {st y : Nat} (hs : 1 ≤ st) (h : y ≤ 300) : mny g st y = if g y then max (mny g st (y + 1)) (1 + mny g st (y + st)) else mny g st (y + 1) := by
  rw [mny_step0 hs h]
  unfold oneF
  split
  · rfl
  · have := mny_mono (g := g) hs (y + 1) (st - 1)
    rw [show y + 1 + (st - 1) = y + st by omega] at this
    omega
theorem mny_win {g : Int → Bool} {st : Nat} (hs : 1 ≤ st) : ∀ (r y : Nat), y + r = 301 → mny g st y ≤ 1 + mny g st (y + st)
  | 0, y, h => by rw [mny_end (by omega)]; omega
  | r + 1, y, h => by
    have ih := mny_win (g := g) hs r (y + 1) (by omega)
    have h2 := mny_mono1 (g := g) hs (y + st)
    rw [show y + st + 1 = y + 1 + st by omega] at h2
    rw [mny_step hs (by omega)]
    split
    · omega
    · omega
theorem mny_fine {g : Int → Bool} {st y : Nat} (hs : 1 ≤ st) (h : y ≤ 300) (hg : g y = true) : mny g st y = 1 + mny g st (y + st) := by
  have h1 := mny_win (g := g) hs (301 - y) y (by omega)
  have h2 := mny_step (g := g) hs h
  rw [if_pos hg] at h2
  omega
def stN (s : Sw) : Nat := (s.wide + s.kerf).toNat
end Go.Proofs.Ytdgeocjchnandaa.Ab.T01
namespace Go.Proofs.Ytdgeocjchnandaa.Ab.T01
open Go Go.RowKit
set_option linter.unusedSimpArgs false
set_option linter.unusedVariables false
theorem foldl_max_le {y : Int} : ∀ (l : List Int) (a : Int), l.foldl max a ≤ y ↔ a ≤ y ∧ ∀ n ∈ l, n ≤ y
  | [], a => by simp
  | b :: l, a => by
    rw [List.foldl_cons, foldl_max_le l]
    simp only [List.mem_cons, forall_eq_or_imp]
    constructor
    · rintro ⟨h1, h2⟩; exact ⟨by omega, by omega, h2⟩
    · rintro ⟨h1, h2, h3⟩; exact ⟨by omega, h3⟩
theorem foldl_min_le {y : Int} : ∀ (l : List Int) (a : Int), y ≤ l.foldl min a ↔ y ≤ a ∧ ∀ n ∈ l, y ≤ n
  | [], a => by simp
  | b :: l, a => by
    rw [List.foldl_cons, foldl_min_le l]
    simp only [List.mem_cons, forall_eq_or_imp]
    constructor
    · rintro ⟨h1, h2⟩; exact ⟨by omega, by omega, h2⟩
    · rintro ⟨h1, h2, h3⟩; exact ⟨by omega, h3⟩
theorem part_mem {l : List Int} {x long : Nat} (hx : x + long ≤ l.length) (P : Int → Prop) : (∀ n ∈ (l.take (x + long)).drop x, P n) ↔ ∀ d, d < long → P (nth l (x + d)) := by
  have hlen : ((l.take (x + long)).drop x).length = long := by simp; omega
  have hget : ∀ d, d < long → ((l.take (x + long)).drop x)[d]? = some (nth l (x + d)) := fun d hd => by
    rw [List.getElem?_drop, List.getElem?_take, if_pos (by omega), nth_eq (by omega)]
  constructor
  · intro h d hd
    exact h _ (List.mem_of_getElem? (hget d hd))
  · intro h n hn
    obtain ⟨d, hd, rfl⟩ := List.mem_iff_getElem.1 hn
    have := hget d (by omega)
    rw [List.getElem?_eq_getElem hd] at this
    rw [Option.some.inj this]
    exact h d (by omega)
theorem maxI_le {l : List Int} (hl : l ≠ []) {y : Int} : maxI l ≤ y ↔ ∀ n ∈ l, n ≤ y := by
  unfold maxI
  rw [foldl_max_le]
  constructor
  · exact fun h => h.2
  · exact fun h => ⟨h _ (nth_mem (List.length_pos_iff.2 hl)), h⟩
theorem le_minI {l : List Int} (hl : l ≠ []) {y : Int} : y ≤ minI l ↔ ∀ n ∈ l, y ≤ n := by
  unfold minI
  rw [foldl_min_le]
  constructor
  · exact fun h => h.2
  · exact fun h => ⟨h _ (nth_mem (List.length_pos_iff.2 hl)), h⟩
theorem spoils_true {x long y wide : Int} {s : Spo} : spoils x long y wide s = true ↔ max s.col.1 x ≤ min s.col.2 (x + long - 1) ∧ s.ht.2 > y ∧ s.ht.1 < y + wide := by
  unfold spoils
  rw [Bool.and_eq_true, Bool.and_eq_true, decide_eq_true_iff, decide_eq_true_iff, decide_eq_true_iff]
  exact ⟨fun ⟨⟨a, b⟩, c⟩ => ⟨a, b, c⟩, fun ⟨a, b, c⟩ => ⟨⟨a, b⟩, c⟩⟩
theorem spoils_false {x long y wide : Int} {s : Spo} : spoils x long y wide s = false ↔ ¬ (max s.col.1 x ≤ min s.col.2 (x + long - 1) ∧ s.ht.2 > y ∧ s.ht.1 < y + wide) := by
  rw [← spoils_true, Bool.not_eq_true]
theorem spoilt_none {v : Vw} {x long y wide : Int} : spoilt v x long y wide = none ↔ ∀ s ∈ v.spoils, spoils x long y wide s = false := by
  unfold spoilt
  rw [Option.map_eq_none_iff, List.find?_eq_none]
  constructor
  · intro h s hs; simpa using h s hs
  · intro h s hs; rw [h s hs]; simp
theorem sound_iff {v : Vw} {long x : Nat} {wide y : Int} (hl : 1 ≤ long) (hb : x + long ≤ v.bottom.length) (ht : x + long ≤ v.top.length) : refSound v long wide x y = true ↔ (roomI v x long).1 ≤ y ∧ y + wide ≤ (roomI v x long).2 ∧ spoilt v x long y wide = none := by
  have n1 : (v.bottom.take (x + long)).drop x ≠ [] := List.ne_nil_of_length_pos (by simp; omega)
  have n2 : (v.top.take (x + long)).drop x ≠ [] := List.ne_nil_of_length_pos (by simp; omega)
  have h1 : (roomI v x long).1 ≤ y ↔ ∀ d, d < long → nth v.bottom (x + d) ≤ y := (maxI_le n1).trans (part_mem hb _)
  have h2 : y + wide ≤ (roomI v x long).2 ↔ ∀ d, d < long → y + wide ≤ nth v.top (x + d) := (le_minI n2).trans (part_mem ht _)
  have h3 : spoilt v x long y wide = none ↔ ∀ d, d < long → (v.spoils.all fun s => !(betw s.col.1 s.col.2 [((x + d : Nat) : Int)] && decide (s.ht.2 > y) && decide (s.ht.1 < y + wide))) = true := by
    rw [spoilt_none]
    constructor
    · intro h d hd
      rw [List.all_eq_true]
      intro s hs
      have := spoils_false.1 (h s hs)
      simp only [betw, Bool.not_eq_true', Bool.and_eq_false_iff, decide_eq_false_iff_not, List.all_cons, List.all_nil, Bool.and_true]
      omega
    · intro h s hs
      rw [spoils_false]
      rintro ⟨hc, g1, g2⟩
      have hd : ((max s.col.1 (x : Int)) - x).toNat < long := by omega
      have := List.all_eq_true.1 (h _ hd) s hs
      simp only [betw, Bool.not_eq_true', Bool.and_eq_false_iff, decide_eq_false_iff_not, List.all_cons, List.all_nil, Bool.and_true] at this
      omega
  rw [h1, h2, h3]
  unfold refSound
  rw [List.all_eq_true]
  constructor
  · intro h
    have hh : ∀ d, d < long → colOk v wide y (x + d) = true := fun d hd => h d (List.mem_range.2 hd)
    unfold colOk at hh
    simp only [Bool.and_eq_true, decide_eq_true_eq] at hh
    exact ⟨fun d hd => (hh d hd).1.1, fun d hd => (hh d hd).1.2, fun d hd => (hh d hd).2⟩
  · rintro ⟨g1, g2, g3⟩ d hd
    have hd := List.mem_range.1 hd
    unfold colOk
    simp only [Bool.and_eq_true, decide_eq_true_eq]
    exact ⟨⟨g1 d hd, g2 d hd⟩, g3 d hd⟩
theorem grd_skip {g : Int → Bool} {st : Nat} (hs : 1 ≤ st) : ∀ (d y : Nat), (∀ z : Nat, y ≤ z → z < y + d → g z = false) → grd g st y = grd g st (y + d)
  | 0, _, _ => rfl
  | d + 1, y, h => by
    by_cases hy : y ≤ 300
    · rw [grd_step hs hy, if_neg (by rw [h y (by omega) (by omega)]; simp), grd_skip hs d (y + 1) (fun z h1 h2 => h z (by omega) (by omega))]
      congr 1
      omega
    · rw [grd_end (by omega), grd_end (by omega)]
theorem grd_none {g : Int → Bool} {st y : Nat} (hs : 1 ≤ st) (h : ∀ z : Nat, y ≤ z → g z = false) : grd g st y = [] := by
  rw [grd_skip hs 301 y (fun z h1 _ => h z h1), grd_end (by omega)]
theorem block_law {v : Vw} {s : Sw} {x : Nat} (hv : v.Ok) (hs : sawOk s = true) (hx : x + s.long.toNat ≤ v.bottom.length) : grd (refSound v s.long.toNat s.wide x) (stN s) 0 = blockI v s x := by
  unfold sawOk at hs
  simp only [Bool.and_eq_true] at hs
  have s1 := betw1 hs.1.1
  have s2 := betw1 hs.1.2
  have s3 := betw2 hs.2
  have hlen := hv.len
  have hrb := room_bound hv (x := x) (long := s.long.toNat) (by omega) hx
  have hsi : ∀ y, _ := fun y => sound_iff (v := v) (long := s.long.toNat) (x := x) (wide := s.wide) (y := y) (by omega) hx (by omega)
  rw [show ((s.long.toNat : Nat) : Int) = s.long by omega] at hsi
  have hst1 : ((stN s : Nat) : Int) = s.wide + s.kerf := by unfold stN; omega
  unfold blockI
  generalize refSound v s.long.toNat s.wide x = g at *
  generalize roomI v x s.long.toNat = r at *
  generalize stN s = st at *
  have key : ∀ (m y : Nat), (r.2 - y).toNat ≤ m → r.1 ≤ y → blockAt v x s.long s.wide s.kerf r.2 y = grd g st y := by
    intro m
    induction m with
    | zero =>
      intro y hm hy
      rw [blockAt_end (by omega), grd_none (by omega)]
      intro z hz
      cases hg : g z with
      | false => rfl
      | true => have := (hsi z).1 hg; omega
    | succ m ih =>
      intro y hm hy
      by_cases hc : (y : Int) + s.wide ≤ r.2
      · rw [blockAt_step s2.1 s3.1.1 hc]
        cases hsp : spoilt v x s.long y s.wide with
        | some t =>
          obtain ⟨g1, sp, g2, g3⟩ := spoilt_gt hsp
          obtain ⟨T, rfl⟩ : ∃ T : Nat, t = T := ⟨t.toNat, by omega⟩
          simp only
          rw [ih T (by omega) (by omega)]
          have := grd_skip (g := g) (st := st) (by omega) (T - y) y (fun z h1 h2 => by
            cases hg : g z with
            | false => rfl
            | true =>
              have h3 := ((hsi z).1 hg).2.2
              unfold spoilt at hsp
              obtain ⟨sp2, hf, he⟩ := Option.map_eq_some_iff.1 hsp
              have h4 := List.find?_some hf
              have h5 := spoilt_none.1 h3 sp2 (List.mem_of_find?_eq_some hf)
              rw [spoils_true] at h4
              rw [spoils_false] at h5
              omega)
          rw [this]
          congr 1
          omega
        | none =>
          have hg : g y = true := (hsi y).2 ⟨hy, hc, hsp⟩
          simp only
          rw [grd_step (by omega) (by omega), if_pos hg, show ((y : Int) + (s.wide + s.kerf)) = ((y + st : Nat) : Int) by omega, ih (y + st) (by omega) (by omega)]
      · rw [blockAt_end hc, grd_none (by omega)]
        intro z hz
        cases hg : g z with
        | false => rfl
        | true => have := (hsi z).1 hg; omega
  have h0 := key (r.2 - r.1).toNat r.1.toNat (by omega) (by omega)
  rw [show ((r.1.toNat : Nat) : Int) = r.1 by omega] at h0
  rw [h0, grd_skip (by omega) r.1.toNat 0 (fun z h1 h2 => by
    cases hg : g z with
    | false => rfl
    | true => have := (hsi z).1 hg; omega)]
  congr 1
  omega
end Go.Proofs.Ytdgeocjchnandaa.Ab.T01
namespace Go.Proofs.Ytdgeocjchnandaa.Ab.T01
open Go Go.RowKit
set_option linter.unusedSimpArgs false
set_option linter.unusedVariables false
set_option maxRecDepth 100000
structure Small (b : Bl) : Prop where
  bottom : b.bottom.length < 1000
  top : b.top.length < 1000
  cracks : b.cracks.length < 1000
end Go.Proofs.Ytdgeocjchnandaa.Ab.T01
